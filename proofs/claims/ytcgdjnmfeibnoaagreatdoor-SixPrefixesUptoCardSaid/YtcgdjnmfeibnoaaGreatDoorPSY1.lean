/- Several texts in one (wip/gen/pack.py): SixBits SixMask SixWithin SixNext SixRefMask SixAll SixRefLast SixCoverV SixRefPre SixPfxP Tail SixBox App X3 SixScan. -/
import Derived.Laws.BitsAllLaws
import Derived.Test.YtcgdjnmfeibnoaaGreatDoorPSY0
import Derived.Lib.Hide
import Derived.Deep.Quiet
import Derived.StillTail
import Derived.Deep.WholeRow
import Derived.Lib.Builder
import Derived.IntWalk
/-! SixBits -/
namespace Go.Proofs.YtcgdjnmfeibnoaaGreatDoor
open Go.RowKit
set_option linter.unusedVariables false
set_option linter.unusedSimpArgs false
theorem nat_and_compl_tail (a t : Nat) (ha : a < 65536) (ht : t ≤ 16) : a &&& (65535 - (2 ^ t - 1)) = a - a % 2 ^ t := by
  have e : a - a % 2 ^ t = 2 ^ t * (a / 2 ^ t) := by have := Nat.div_add_mod a (2 ^ t); omega
  rw [e]
  apply Nat.eq_of_testBit_eq
  intro i
  have hp : 2 ^ t ≤ 65536 := by have := Nat.pow_le_pow_right (n := 2) (by omega) ht; simpa using this
  have hq : 0 < 2 ^ t := Nat.two_pow_pos t
  have e2 : 65535 - (2 ^ t - 1) = 2 ^ 16 - ((2 ^ t - 1) + 1) := by omega
  rw [Nat.testBit_and, e2, Nat.testBit_two_pow_sub_succ (by omega), Nat.testBit_two_pow_mul, Nat.testBit_div_two_pow, Nat.testBit_two_pow_sub_one]
  by_cases hi : t ≤ i
  · have h1 : ¬ i < t := by omega
    rw [show i - t + t = i from by omega]
    by_cases h16 : i < 16
    · simp [hi, h1, h16]
    · have hz : a.testBit i = false := Nat.testBit_lt_two_pow (Nat.lt_of_lt_of_le ha (by have := Nat.pow_le_pow_right (n := 2) (by omega) (show 16 ≤ i by omega); simpa using this))
      simp [hz]
  · have h1 : i < t := by omega
    have h2 : ¬ i ≥ t := by omega
    simp [h1, h2]
theorem nat_and_compl_bit (a t : Nat) (ha : a < 65536) (ht : t < 16) : a &&& (65535 - 2 ^ t) = a - a / 2 ^ t % 2 * 2 ^ t := by
  have hq : 0 < 2 ^ t := Nat.two_pow_pos t
  have e : a - a / 2 ^ t % 2 * 2 ^ t = 2 ^ t * (2 * (a / 2 ^ t / 2)) + a % 2 ^ t := by
    have h1 := Nat.div_add_mod a (2 ^ t)
    have h2 := Nat.div_add_mod (a / 2 ^ t) 2
    have h3 : 2 ^ t * (a / 2 ^ t) = 2 ^ t * (2 * (a / 2 ^ t / 2)) + a / 2 ^ t % 2 * 2 ^ t := by
      rw [← Nat.mul_comm (2 ^ t) (a / 2 ^ t % 2), ← Nat.mul_add, h2]
    omega
  rw [e]
  apply Nat.eq_of_testBit_eq
  intro i
  have hp : 2 ^ t ≤ 32768 := by have := Nat.pow_le_pow_right (n := 2) (by omega) (show t ≤ 15 by omega); simpa using this
  have e2 : 65535 - 2 ^ t = 2 ^ 16 - (2 ^ t + 1) := by omega
  rw [Nat.testBit_and, e2, Nat.testBit_two_pow_sub_succ (by omega), Nat.testBit_two_pow_mul_add _ (Nat.mod_lt _ hq), Nat.testBit_two_pow]
  by_cases hi : i < t
  · have h1 : ¬ t = i := by omega
    have h16 : i < 16 := by omega
    rw [if_pos hi, Nat.testBit_mod_two_pow]
    simp [h1, hi, h16]
  · rw [if_neg hi]
    by_cases hit : t = i
    · subst hit
      simp [Nat.testBit_zero]
    · have h1 : t < i := by omega
      obtain ⟨j, hj⟩ : ∃ j, i - t = j + 1 := ⟨i - t - 1, by omega⟩
      rw [hj, show 2 * (a / 2 ^ t / 2) = 2 ^ 1 * (a / 2 ^ t / 2) from rfl, Nat.testBit_two_pow_mul, show a / 2 ^ t / 2 = a / 2 ^ t / 2 ^ 1 from rfl, Nat.testBit_div_two_pow, Nat.testBit_div_two_pow, show j + 1 - 1 + 1 + t = i from by omega]
      by_cases h16 : i < 16
      · simp [hit, h16]
      · have hz : a.testBit i = false := Nat.testBit_lt_two_pow (Nat.lt_of_lt_of_le ha (by have := Nat.pow_le_pow_right (n := 2) (by omega) (show 16 ≤ i by omega); simpa using this))
        simp [hz]
theorem pow_le16 {t : Nat} (ht : t ≤ 16) : (2 : Int) ^ t ≤ 65536 := by
  have := Nat.pow_le_pow_right (n := 2) (by omega) ht
  have h : ((2 ^ t : Nat) : Int) ≤ ((2 ^ 16 : Nat) : Int) := by exact_mod_cast this
  simpa using h
theorem pow_pos2 (t : Nat) : (0 : Int) < 2 ^ t := by
  have := Nat.two_pow_pos t
  have h : ((0 : Nat) : Int) < ((2 ^ t : Nat) : Int) := by exact_mod_cast this
  simpa using h
theorem andNot_tail (x : Int) (t : Nat) (h0 : 0 ≤ x) (h1 : x ≤ 65535) (ht : t ≤ 16) :
    bits .andNot .u16 x (IntKind.u16.wrap (IntKind.u16.wrap ((2 : Int) ^ t) - 1)) = x - x % 2 ^ t := by
  have hp := pow_pos2 t
  have hl := pow_le16 ht
  have e : IntKind.u16.wrap (IntKind.u16.wrap ((2 : Int) ^ t) - 1) = 2 ^ t - 1 := by
    simp only [IntKind.wrap_u16]
    by_cases h16 : (2 : Int) ^ t = 65536
    · rw [h16]; decide
    · omega
  rw [e, u16_andNot x _ h0 (by omega) (by omega) (by omega)]
  obtain ⟨a, rfl⟩ := Int.eq_ofNat_of_zero_le h0
  have e2 : ((2 : Int) ^ t - 1).toNat = 2 ^ t - 1 := by
    have : (2 : Int) ^ t = ((2 ^ t : Nat) : Int) := by simp
    rw [this]; omega
  rw [e2, Int.toNat_natCast, nat_and_compl_tail a t (by omega) ht]
  have h3 : (a : Int) % 2 ^ t = ((a % 2 ^ t : Nat) : Int) := by simp
  rw [h3]
  have := Nat.mod_le a (2 ^ t)
  omega
theorem andNot_none (x : Int) (h0 : 0 ≤ x) (h1 : x ≤ 65535) : bits .andNot .u16 x 0 = x := by
  have h := andNot_tail x 0 h0 h1 (by omega)
  rw [show IntKind.u16.wrap (IntKind.u16.wrap ((2 : Int) ^ 0) - 1) = 0 from by decide] at h
  simpa using h
theorem andNot_whole (x : Int) (h0 : 0 ≤ x) (h1 : x ≤ 65535) : bits .andNot .u16 x (IntKind.u16.wrap (IntKind.u16.wrap 65536 - 1)) = 0 := by
  have := andNot_tail x 16 h0 h1 (by omega)
  rw [show ((2 : Int) ^ 16) = 65536 from by decide] at this
  rw [this]; omega
theorem andNot_bit (x : Int) (t : Nat) (h0 : 0 ≤ x) (h1 : x ≤ 65535) (ht : t < 16) : bits .andNot .u16 x ((2 : Int) ^ t) = x - x / 2 ^ t % 2 * 2 ^ t := by
  have hp := pow_pos2 t
  have hl : (2 : Int) ^ t ≤ 32768 := by
    have := Nat.pow_le_pow_right (n := 2) (by omega) (show t ≤ 15 by omega)
    have h : ((2 ^ t : Nat) : Int) ≤ ((2 ^ 15 : Nat) : Int) := by exact_mod_cast this
    simpa using h
  rw [u16_andNot x _ h0 (by omega) (by omega) (by omega)]
  obtain ⟨a, rfl⟩ := Int.eq_ofNat_of_zero_le h0
  have e2 : ((2 : Int) ^ t).toNat = 2 ^ t := by
    have : (2 : Int) ^ t = ((2 ^ t : Nat) : Int) := by simp
    rw [this]; omega
  rw [e2, Int.toNat_natCast, nat_and_compl_bit a t (by omega) ht]
  have h3 : (a : Int) / 2 ^ t % 2 * 2 ^ t = ((a / 2 ^ t % 2 * 2 ^ t : Nat) : Int) := by simp
  rw [h3]
  have h4 : a / 2 ^ t % 2 * 2 ^ t ≤ a := by
    have h5 := Nat.div_mul_le_self a (2 ^ t)
    exact Nat.le_trans (Nat.mul_le_mul_right _ (Nat.mod_le _ _)) h5
  omega
theorem emod_le16 (x : Int) {t : Nat} (ht : t ≤ 16) (h0 : 0 ≤ x) : x % 2 ^ t ≤ x := by
  have hp := pow_pos2 t
  have h1 := Int.mul_ediv_add_emod x (2 ^ t)
  have h2 := Int.mul_nonneg (Int.le_of_lt hp) (Int.ediv_nonneg h0 (Int.le_of_lt hp))
  omega
/-- The last bits of a number of three parts. -/
theorem mod_mid (A x lo B p c : Int) (hx : 0 ≤ x) (hB : 0 < B) (h0 : 0 ≤ lo) (h1 : lo < B) (hp : 0 < p) (hc : p * c = 65536) :
    ((A * 65536 + x) * B + lo) % (p * B) = (x % p) * B + lo := by
  have e1 : x = p * (x / p) + x % p := (Int.mul_ediv_add_emod x p).symm
  have h2 := Int.emod_nonneg x (show p ≠ 0 by omega)
  have h3 := Int.emod_lt_of_pos x hp
  have e : (A * 65536 + x) * B + lo = ((x % p) * B + lo) + (p * B) * (A * c + x / p) := by
    rw [← hc]
    calc (A * (p * c) + x) * B + lo = (A * (p * c) + (p * (x / p) + x % p)) * B + lo := by rw [← e1]
      _ = ((x % p) * B + lo) + (p * B) * (A * c + x / p) := by
        simp only [Int.add_mul, Int.mul_add]
        have : A * (p * c) * B = p * B * (A * c) := by ac_rfl
        have : p * (x / p) * B = p * B * (x / p) := by ac_rfl
        omega
  rw [e, Int.add_mul_emod_self_left]
  apply Int.emod_eq_of_lt
  · have := Int.mul_nonneg h2 (Int.le_of_lt hB); omega
  · have h4 : x % p + 1 ≤ p := by omega
    have h5 := Int.mul_le_mul_of_nonneg_right h4 (Int.le_of_lt hB)
    rw [Int.add_mul] at h5
    omega
end Go.Proofs.YtcgdjnmfeibnoaaGreatDoor
/-! SixMask -/
namespace Go.Proofs.YtcgdjnmfeibnoaaGreatDoor
open Go.RowKit
set_option linter.unusedVariables false
set_option linter.unusedSimpArgs false
/-- What is in the last bits of a number of 128 bits, behind the first n. -/
def tailOf (v n : Int) : Int := v % (2 ^ (128 - n).toNat)
/-- What Mask answers. -/
def MaskPost (v n : Int) (w : World) (e : Ending) (w' : World) : Prop :=
  ∃ y0 y1 y2 y3 y4 y5 y6 y7 : Int, e = .returned (.tuple #[A8 y0 y1 y2 y3 y4 y5 y6 y7, .int .i64 0]) ∧ R8 y0 y1 y2 y3 y4 y5 y6 y7 ∧
    V8 y0 y1 y2 y3 y4 y5 y6 y7 = v - tailOf v n ∧ Below w.heap.size w w'
theorem mask_ret {v n : Int} {w W : World} {y0 y1 y2 y3 y4 y5 y6 y7 : Int} (hr : R8 y0 y1 y2 y3 y4 y5 y6 y7) (h1 : V8 y0 y1 y2 y3 y4 y5 y6 y7 = v - tailOf v n) (hb : Below w.heap.size w W) :
    MaskPost v n w (.returned (.tuple #[A8 y0 y1 y2 y3 y4 y5 y6 y7, .int .i64 0])) W := ⟨y0, y1, y2, y3, y4, y5, y6, y7, rfl, hr, h1, hb⟩
set_option maxHeartbeats 2000000 in
set_option maxRecDepth 100000 in
theorem mask_in_0 (x0 x1 x2 x3 x4 x5 x6 x7 : Int) (h : R8 x0 x1 x2 x3 x4 x5 x6 x7) (n : Int) (n0 : 0 < n) (n1 : n < 16) (w : World) :
    Calls Tryz.prog 39 #[A8 x0 x1 x2 x3 x4 x5 x6 x7, .int .i64 n] w (MaskPost (V8 x0 x1 x2 x3 x4 x5 x6 x7) n w) := by
  go_enter Tryz.func39, Tryz.ntmps39
  go_wp2
  refine wp_loop_rounds 9 ?_
  iterate 8 (rw [rounds_succ]; go_wp2; go_region; go_wp2)
  rw [rounds_succ]
  go_wp2
  go_returns
  refine mask_ret ?_ ?_ (by go_grown)
  all_goals go_tidy
  all_goals obtain ⟨⟨_, _⟩, ⟨_, _⟩, ⟨_, _⟩, ⟨_, _⟩, ⟨_, _⟩, ⟨_, _⟩, ⟨_, _⟩, ⟨_, _⟩⟩ := h
  all_goals try rw [show min 16 (max 0 n) = n from by omega]
  all_goals try rw [show min 16 (max 0 (n - 16)) = 0 from by omega]
  all_goals try rw [show min 16 (max 0 (n - 32)) = 0 from by omega]
  all_goals try rw [show min 16 (max 0 (n - 48)) = 0 from by omega]
  all_goals try rw [show min 16 (max 0 (n - 64)) = 0 from by omega]
  all_goals try rw [show min 16 (max 0 (n - 80)) = 0 from by omega]
  all_goals try rw [show min 16 (max 0 (n - 96)) = 0 from by omega]
  all_goals try rw [show min 16 (max 0 (n - 112)) = 0 from by omega]
  all_goals try rw [show IntKind.u16.wrap (IntKind.u16.wrap ((2 : Int) ^ ((16 : Int) - 16).toNat) - 1) = 0 from by decide]
  all_goals try rw [show ((2 : Int) ^ ((16 : Int) - 0).toNat) = 65536 from by decide]
  all_goals have ht : (16 - n).toNat ≤ 16 := by omega
  all_goals rw [andNot_tail x0 _ (by assumption) (by assumption) ht, andNot_whole x1 (by assumption) (by assumption), andNot_whole x2 (by assumption) (by assumption), andNot_whole x3 (by assumption) (by assumption), andNot_whole x4 (by assumption) (by assumption), andNot_whole x5 (by assumption) (by assumption), andNot_whole x6 (by assumption) (by assumption), andNot_whole x7 (by assumption) (by assumption)]
  · generalize hu : x0 % 2 ^ (16 - n).toNat = u
    have h1 := Int.emod_nonneg x0 (show (2 : Int) ^ (16 - n).toNat ≠ 0 from by have := pow_pos2 ((16 - n).toNat); omega)
    have h2 := emod_le16 x0 ht (by assumption)
    rw [hu] at h1 h2
    constructor <;> omega
  · have e : V8 x0 x1 x2 x3 x4 x5 x6 x7 = (0 * 65536 + x0) * 5192296858534827628530496329220096 + ((((((x1 * 65536 + x2) * 65536 + x3) * 65536 + x4) * 65536 + x5) * 65536 + x6) * 65536 + x7) := by unfold V8; omega
    have e2 : (2 : Int) ^ (128 - n).toNat = 2 ^ (16 - n).toNat * 5192296858534827628530496329220096 := by
      rw [show (128 - n).toNat = (16 - n).toNat + 112 from by omega, Int.pow_add]
      rfl
    have hpc : (2 : Int) ^ (16 - n).toNat * 2 ^ (16 - (16 - n).toNat) = 65536 := by
      rw [← Int.pow_add, show (16 - n).toNat + (16 - (16 - n).toNat) = 16 from by omega]
      rfl
    unfold tailOf
    rw [e2, e, mod_mid _ _ _ _ _ _ (by assumption) (by decide) (by omega) (by omega) (pow_pos2 _) hpc]
    generalize x0 % 2 ^ (16 - n).toNat = u
    unfold V8
    omega
set_option maxHeartbeats 2000000 in
set_option maxRecDepth 100000 in
theorem mask_in_1 (x0 x1 x2 x3 x4 x5 x6 x7 : Int) (h : R8 x0 x1 x2 x3 x4 x5 x6 x7) (n : Int) (n0 : 16 < n) (n1 : n < 32) (w : World) :
    Calls Tryz.prog 39 #[A8 x0 x1 x2 x3 x4 x5 x6 x7, .int .i64 n] w (MaskPost (V8 x0 x1 x2 x3 x4 x5 x6 x7) n w) := by
  go_enter Tryz.func39, Tryz.ntmps39
  go_wp2
  refine wp_loop_rounds 9 ?_
  iterate 8 (rw [rounds_succ]; go_wp2; go_region; go_wp2)
  rw [rounds_succ]
  go_wp2
  go_returns
  refine mask_ret ?_ ?_ (by go_grown)
  all_goals go_tidy
  all_goals obtain ⟨⟨_, _⟩, ⟨_, _⟩, ⟨_, _⟩, ⟨_, _⟩, ⟨_, _⟩, ⟨_, _⟩, ⟨_, _⟩, ⟨_, _⟩⟩ := h
  all_goals try rw [show min 16 (max 0 n) = 16 from by omega]
  all_goals try rw [show min 16 (max 0 (n - 16)) = (n - 16) from by omega]
  all_goals try rw [show min 16 (max 0 (n - 32)) = 0 from by omega]
  all_goals try rw [show min 16 (max 0 (n - 48)) = 0 from by omega]
  all_goals try rw [show min 16 (max 0 (n - 64)) = 0 from by omega]
  all_goals try rw [show min 16 (max 0 (n - 80)) = 0 from by omega]
  all_goals try rw [show min 16 (max 0 (n - 96)) = 0 from by omega]
  all_goals try rw [show min 16 (max 0 (n - 112)) = 0 from by omega]
  all_goals try rw [show IntKind.u16.wrap (IntKind.u16.wrap ((2 : Int) ^ ((16 : Int) - 16).toNat) - 1) = 0 from by decide]
  all_goals try rw [show ((2 : Int) ^ ((16 : Int) - 0).toNat) = 65536 from by decide]
  all_goals have ht : (16 - (n - 16)).toNat ≤ 16 := by omega
  all_goals rw [andNot_none x0 (by assumption) (by assumption), andNot_tail x1 _ (by assumption) (by assumption) ht, andNot_whole x2 (by assumption) (by assumption), andNot_whole x3 (by assumption) (by assumption), andNot_whole x4 (by assumption) (by assumption), andNot_whole x5 (by assumption) (by assumption), andNot_whole x6 (by assumption) (by assumption), andNot_whole x7 (by assumption) (by assumption)]
  · generalize hu : x1 % 2 ^ (16 - (n - 16)).toNat = u
    have h1 := Int.emod_nonneg x1 (show (2 : Int) ^ (16 - (n - 16)).toNat ≠ 0 from by have := pow_pos2 ((16 - (n - 16)).toNat); omega)
    have h2 := emod_le16 x1 ht (by assumption)
    rw [hu] at h1 h2
    constructor <;> omega
  · have e : V8 x0 x1 x2 x3 x4 x5 x6 x7 = (x0 * 65536 + x1) * 79228162514264337593543950336 + (((((x2 * 65536 + x3) * 65536 + x4) * 65536 + x5) * 65536 + x6) * 65536 + x7) := by unfold V8; omega
    have e2 : (2 : Int) ^ (128 - n).toNat = 2 ^ (16 - (n - 16)).toNat * 79228162514264337593543950336 := by
      rw [show (128 - n).toNat = (16 - (n - 16)).toNat + 96 from by omega, Int.pow_add]
      rfl
    have hpc : (2 : Int) ^ (16 - (n - 16)).toNat * 2 ^ (16 - (16 - (n - 16)).toNat) = 65536 := by
      rw [← Int.pow_add, show (16 - (n - 16)).toNat + (16 - (16 - (n - 16)).toNat) = 16 from by omega]
      rfl
    unfold tailOf
    rw [e2, e, mod_mid _ _ _ _ _ _ (by assumption) (by decide) (by omega) (by omega) (pow_pos2 _) hpc]
    generalize x1 % 2 ^ (16 - (n - 16)).toNat = u
    unfold V8
    omega
set_option maxHeartbeats 2000000 in
set_option maxRecDepth 100000 in
theorem mask_in_2 (x0 x1 x2 x3 x4 x5 x6 x7 : Int) (h : R8 x0 x1 x2 x3 x4 x5 x6 x7) (n : Int) (n0 : 32 < n) (n1 : n < 48) (w : World) :
    Calls Tryz.prog 39 #[A8 x0 x1 x2 x3 x4 x5 x6 x7, .int .i64 n] w (MaskPost (V8 x0 x1 x2 x3 x4 x5 x6 x7) n w) := by
  go_enter Tryz.func39, Tryz.ntmps39
  go_wp2
  refine wp_loop_rounds 9 ?_
  iterate 8 (rw [rounds_succ]; go_wp2; go_region; go_wp2)
  rw [rounds_succ]
  go_wp2
  go_returns
  refine mask_ret ?_ ?_ (by go_grown)
  all_goals go_tidy
  all_goals obtain ⟨⟨_, _⟩, ⟨_, _⟩, ⟨_, _⟩, ⟨_, _⟩, ⟨_, _⟩, ⟨_, _⟩, ⟨_, _⟩, ⟨_, _⟩⟩ := h
  all_goals try rw [show min 16 (max 0 n) = 16 from by omega]
  all_goals try rw [show min 16 (max 0 (n - 16)) = 16 from by omega]
  all_goals try rw [show min 16 (max 0 (n - 32)) = (n - 32) from by omega]
  all_goals try rw [show min 16 (max 0 (n - 48)) = 0 from by omega]
  all_goals try rw [show min 16 (max 0 (n - 64)) = 0 from by omega]
  all_goals try rw [show min 16 (max 0 (n - 80)) = 0 from by omega]
  all_goals try rw [show min 16 (max 0 (n - 96)) = 0 from by omega]
  all_goals try rw [show min 16 (max 0 (n - 112)) = 0 from by omega]
  all_goals try rw [show IntKind.u16.wrap (IntKind.u16.wrap ((2 : Int) ^ ((16 : Int) - 16).toNat) - 1) = 0 from by decide]
  all_goals try rw [show ((2 : Int) ^ ((16 : Int) - 0).toNat) = 65536 from by decide]
  all_goals have ht : (16 - (n - 32)).toNat ≤ 16 := by omega
  all_goals rw [andNot_none x0 (by assumption) (by assumption), andNot_none x1 (by assumption) (by assumption), andNot_tail x2 _ (by assumption) (by assumption) ht, andNot_whole x3 (by assumption) (by assumption), andNot_whole x4 (by assumption) (by assumption), andNot_whole x5 (by assumption) (by assumption), andNot_whole x6 (by assumption) (by assumption), andNot_whole x7 (by assumption) (by assumption)]
  · generalize hu : x2 % 2 ^ (16 - (n - 32)).toNat = u
    have h1 := Int.emod_nonneg x2 (show (2 : Int) ^ (16 - (n - 32)).toNat ≠ 0 from by have := pow_pos2 ((16 - (n - 32)).toNat); omega)
    have h2 := emod_le16 x2 ht (by assumption)
    rw [hu] at h1 h2
    constructor <;> omega
  · have e : V8 x0 x1 x2 x3 x4 x5 x6 x7 = ((x0 * 65536 + x1) * 65536 + x2) * 1208925819614629174706176 + ((((x3 * 65536 + x4) * 65536 + x5) * 65536 + x6) * 65536 + x7) := by unfold V8; omega
    have e2 : (2 : Int) ^ (128 - n).toNat = 2 ^ (16 - (n - 32)).toNat * 1208925819614629174706176 := by
      rw [show (128 - n).toNat = (16 - (n - 32)).toNat + 80 from by omega, Int.pow_add]
      rfl
    have hpc : (2 : Int) ^ (16 - (n - 32)).toNat * 2 ^ (16 - (16 - (n - 32)).toNat) = 65536 := by
      rw [← Int.pow_add, show (16 - (n - 32)).toNat + (16 - (16 - (n - 32)).toNat) = 16 from by omega]
      rfl
    unfold tailOf
    rw [e2, e, mod_mid _ _ _ _ _ _ (by assumption) (by decide) (by omega) (by omega) (pow_pos2 _) hpc]
    generalize x2 % 2 ^ (16 - (n - 32)).toNat = u
    unfold V8
    omega
set_option maxHeartbeats 2000000 in
set_option maxRecDepth 100000 in
theorem mask_in_3 (x0 x1 x2 x3 x4 x5 x6 x7 : Int) (h : R8 x0 x1 x2 x3 x4 x5 x6 x7) (n : Int) (n0 : 48 < n) (n1 : n < 64) (w : World) :
    Calls Tryz.prog 39 #[A8 x0 x1 x2 x3 x4 x5 x6 x7, .int .i64 n] w (MaskPost (V8 x0 x1 x2 x3 x4 x5 x6 x7) n w) := by
  go_enter Tryz.func39, Tryz.ntmps39
  go_wp2
  refine wp_loop_rounds 9 ?_
  iterate 8 (rw [rounds_succ]; go_wp2; go_region; go_wp2)
  rw [rounds_succ]
  go_wp2
  go_returns
  refine mask_ret ?_ ?_ (by go_grown)
  all_goals go_tidy
  all_goals obtain ⟨⟨_, _⟩, ⟨_, _⟩, ⟨_, _⟩, ⟨_, _⟩, ⟨_, _⟩, ⟨_, _⟩, ⟨_, _⟩, ⟨_, _⟩⟩ := h
  all_goals try rw [show min 16 (max 0 n) = 16 from by omega]
  all_goals try rw [show min 16 (max 0 (n - 16)) = 16 from by omega]
  all_goals try rw [show min 16 (max 0 (n - 32)) = 16 from by omega]
  all_goals try rw [show min 16 (max 0 (n - 48)) = (n - 48) from by omega]
  all_goals try rw [show min 16 (max 0 (n - 64)) = 0 from by omega]
  all_goals try rw [show min 16 (max 0 (n - 80)) = 0 from by omega]
  all_goals try rw [show min 16 (max 0 (n - 96)) = 0 from by omega]
  all_goals try rw [show min 16 (max 0 (n - 112)) = 0 from by omega]
  all_goals try rw [show IntKind.u16.wrap (IntKind.u16.wrap ((2 : Int) ^ ((16 : Int) - 16).toNat) - 1) = 0 from by decide]
  all_goals try rw [show ((2 : Int) ^ ((16 : Int) - 0).toNat) = 65536 from by decide]
  all_goals have ht : (16 - (n - 48)).toNat ≤ 16 := by omega
  all_goals rw [andNot_none x0 (by assumption) (by assumption), andNot_none x1 (by assumption) (by assumption), andNot_none x2 (by assumption) (by assumption), andNot_tail x3 _ (by assumption) (by assumption) ht, andNot_whole x4 (by assumption) (by assumption), andNot_whole x5 (by assumption) (by assumption), andNot_whole x6 (by assumption) (by assumption), andNot_whole x7 (by assumption) (by assumption)]
  · generalize hu : x3 % 2 ^ (16 - (n - 48)).toNat = u
    have h1 := Int.emod_nonneg x3 (show (2 : Int) ^ (16 - (n - 48)).toNat ≠ 0 from by have := pow_pos2 ((16 - (n - 48)).toNat); omega)
    have h2 := emod_le16 x3 ht (by assumption)
    rw [hu] at h1 h2
    constructor <;> omega
  · have e : V8 x0 x1 x2 x3 x4 x5 x6 x7 = (((x0 * 65536 + x1) * 65536 + x2) * 65536 + x3) * 18446744073709551616 + (((x4 * 65536 + x5) * 65536 + x6) * 65536 + x7) := by unfold V8; omega
    have e2 : (2 : Int) ^ (128 - n).toNat = 2 ^ (16 - (n - 48)).toNat * 18446744073709551616 := by
      rw [show (128 - n).toNat = (16 - (n - 48)).toNat + 64 from by omega, Int.pow_add]
      rfl
    have hpc : (2 : Int) ^ (16 - (n - 48)).toNat * 2 ^ (16 - (16 - (n - 48)).toNat) = 65536 := by
      rw [← Int.pow_add, show (16 - (n - 48)).toNat + (16 - (16 - (n - 48)).toNat) = 16 from by omega]
      rfl
    unfold tailOf
    rw [e2, e, mod_mid _ _ _ _ _ _ (by assumption) (by decide) (by omega) (by omega) (pow_pos2 _) hpc]
    generalize x3 % 2 ^ (16 - (n - 48)).toNat = u
    unfold V8
    omega
set_option maxHeartbeats 2000000 in
set_option maxRecDepth 100000 in
theorem mask_in_4 (x0 x1 x2 x3 x4 x5 x6 x7 : Int) (h : R8 x0 x1 x2 x3 x4 x5 x6 x7) (n : Int) (n0 : 64 < n) (n1 : n < 80) (w : World) :
    Calls Tryz.prog 39 #[A8 x0 x1 x2 x3 x4 x5 x6 x7, .int .i64 n] w (MaskPost (V8 x0 x1 x2 x3 x4 x5 x6 x7) n w) := by
  go_enter Tryz.func39, Tryz.ntmps39
  go_wp2
  refine wp_loop_rounds 9 ?_
  iterate 8 (rw [rounds_succ]; go_wp2; go_region; go_wp2)
  rw [rounds_succ]
  go_wp2
  go_returns
  refine mask_ret ?_ ?_ (by go_grown)
  all_goals go_tidy
  all_goals obtain ⟨⟨_, _⟩, ⟨_, _⟩, ⟨_, _⟩, ⟨_, _⟩, ⟨_, _⟩, ⟨_, _⟩, ⟨_, _⟩, ⟨_, _⟩⟩ := h
  all_goals try rw [show min 16 (max 0 n) = 16 from by omega]
  all_goals try rw [show min 16 (max 0 (n - 16)) = 16 from by omega]
  all_goals try rw [show min 16 (max 0 (n - 32)) = 16 from by omega]
  all_goals try rw [show min 16 (max 0 (n - 48)) = 16 from by omega]
  all_goals try rw [show min 16 (max 0 (n - 64)) = (n - 64) from by omega]
  all_goals try rw [show min 16 (max 0 (n - 80)) = 0 from by omega]
  all_goals try rw [show min 16 (max 0 (n - 96)) = 0 from by omega]
  all_goals try rw [show min 16 (max 0 (n - 112)) = 0 from by omega]
  all_goals try rw [show IntKind.u16.wrap (IntKind.u16.wrap ((2 : Int) ^ ((16 : Int) - 16).toNat) - 1) = 0 from by decide]
  all_goals try rw [show ((2 : Int) ^ ((16 : Int) - 0).toNat) = 65536 from by decide]
  all_goals have ht : (16 - (n - 64)).toNat ≤ 16 := by omega
  all_goals rw [andNot_none x0 (by assumption) (by assumption), andNot_none x1 (by assumption) (by assumption), andNot_none x2 (by assumption) (by assumption), andNot_none x3 (by assumption) (by assumption), andNot_tail x4 _ (by assumption) (by assumption) ht, andNot_whole x5 (by assumption) (by assumption), andNot_whole x6 (by assumption) (by assumption), andNot_whole x7 (by assumption) (by assumption)]
  · generalize hu : x4 % 2 ^ (16 - (n - 64)).toNat = u
    have h1 := Int.emod_nonneg x4 (show (2 : Int) ^ (16 - (n - 64)).toNat ≠ 0 from by have := pow_pos2 ((16 - (n - 64)).toNat); omega)
    have h2 := emod_le16 x4 ht (by assumption)
    rw [hu] at h1 h2
    constructor <;> omega
  · have e : V8 x0 x1 x2 x3 x4 x5 x6 x7 = ((((x0 * 65536 + x1) * 65536 + x2) * 65536 + x3) * 65536 + x4) * 281474976710656 + ((x5 * 65536 + x6) * 65536 + x7) := by unfold V8; omega
    have e2 : (2 : Int) ^ (128 - n).toNat = 2 ^ (16 - (n - 64)).toNat * 281474976710656 := by
      rw [show (128 - n).toNat = (16 - (n - 64)).toNat + 48 from by omega, Int.pow_add]
      rfl
    have hpc : (2 : Int) ^ (16 - (n - 64)).toNat * 2 ^ (16 - (16 - (n - 64)).toNat) = 65536 := by
      rw [← Int.pow_add, show (16 - (n - 64)).toNat + (16 - (16 - (n - 64)).toNat) = 16 from by omega]
      rfl
    unfold tailOf
    rw [e2, e, mod_mid _ _ _ _ _ _ (by assumption) (by decide) (by omega) (by omega) (pow_pos2 _) hpc]
    generalize x4 % 2 ^ (16 - (n - 64)).toNat = u
    unfold V8
    omega
set_option maxHeartbeats 2000000 in
set_option maxRecDepth 100000 in
theorem mask_in_5 (x0 x1 x2 x3 x4 x5 x6 x7 : Int) (h : R8 x0 x1 x2 x3 x4 x5 x6 x7) (n : Int) (n0 : 80 < n) (n1 : n < 96) (w : World) :
    Calls Tryz.prog 39 #[A8 x0 x1 x2 x3 x4 x5 x6 x7, .int .i64 n] w (MaskPost (V8 x0 x1 x2 x3 x4 x5 x6 x7) n w) := by
  go_enter Tryz.func39, Tryz.ntmps39
  go_wp2
  refine wp_loop_rounds 9 ?_
  iterate 8 (rw [rounds_succ]; go_wp2; go_region; go_wp2)
  rw [rounds_succ]
  go_wp2
  go_returns
  refine mask_ret ?_ ?_ (by go_grown)
  all_goals go_tidy
  all_goals obtain ⟨⟨_, _⟩, ⟨_, _⟩, ⟨_, _⟩, ⟨_, _⟩, ⟨_, _⟩, ⟨_, _⟩, ⟨_, _⟩, ⟨_, _⟩⟩ := h
  all_goals try rw [show min 16 (max 0 n) = 16 from by omega]
  all_goals try rw [show min 16 (max 0 (n - 16)) = 16 from by omega]
  all_goals try rw [show min 16 (max 0 (n - 32)) = 16 from by omega]
  all_goals try rw [show min 16 (max 0 (n - 48)) = 16 from by omega]
  all_goals try rw [show min 16 (max 0 (n - 64)) = 16 from by omega]
  all_goals try rw [show min 16 (max 0 (n - 80)) = (n - 80) from by omega]
  all_goals try rw [show min 16 (max 0 (n - 96)) = 0 from by omega]
  all_goals try rw [show min 16 (max 0 (n - 112)) = 0 from by omega]
  all_goals try rw [show IntKind.u16.wrap (IntKind.u16.wrap ((2 : Int) ^ ((16 : Int) - 16).toNat) - 1) = 0 from by decide]
  all_goals try rw [show ((2 : Int) ^ ((16 : Int) - 0).toNat) = 65536 from by decide]
  all_goals have ht : (16 - (n - 80)).toNat ≤ 16 := by omega
  all_goals rw [andNot_none x0 (by assumption) (by assumption), andNot_none x1 (by assumption) (by assumption), andNot_none x2 (by assumption) (by assumption), andNot_none x3 (by assumption) (by assumption), andNot_none x4 (by assumption) (by assumption), andNot_tail x5 _ (by assumption) (by assumption) ht, andNot_whole x6 (by assumption) (by assumption), andNot_whole x7 (by assumption) (by assumption)]
  · generalize hu : x5 % 2 ^ (16 - (n - 80)).toNat = u
    have h1 := Int.emod_nonneg x5 (show (2 : Int) ^ (16 - (n - 80)).toNat ≠ 0 from by have := pow_pos2 ((16 - (n - 80)).toNat); omega)
    have h2 := emod_le16 x5 ht (by assumption)
    rw [hu] at h1 h2
    constructor <;> omega
  · have e : V8 x0 x1 x2 x3 x4 x5 x6 x7 = (((((x0 * 65536 + x1) * 65536 + x2) * 65536 + x3) * 65536 + x4) * 65536 + x5) * 4294967296 + (x6 * 65536 + x7) := by unfold V8; omega
    have e2 : (2 : Int) ^ (128 - n).toNat = 2 ^ (16 - (n - 80)).toNat * 4294967296 := by
      rw [show (128 - n).toNat = (16 - (n - 80)).toNat + 32 from by omega, Int.pow_add]
      rfl
    have hpc : (2 : Int) ^ (16 - (n - 80)).toNat * 2 ^ (16 - (16 - (n - 80)).toNat) = 65536 := by
      rw [← Int.pow_add, show (16 - (n - 80)).toNat + (16 - (16 - (n - 80)).toNat) = 16 from by omega]
      rfl
    unfold tailOf
    rw [e2, e, mod_mid _ _ _ _ _ _ (by assumption) (by decide) (by omega) (by omega) (pow_pos2 _) hpc]
    generalize x5 % 2 ^ (16 - (n - 80)).toNat = u
    unfold V8
    omega
set_option maxHeartbeats 2000000 in
set_option maxRecDepth 100000 in
theorem mask_in_6 (x0 x1 x2 x3 x4 x5 x6 x7 : Int) (h : R8 x0 x1 x2 x3 x4 x5 x6 x7) (n : Int) (n0 : 96 < n) (n1 : n < 112) (w : World) :
    Calls Tryz.prog 39 #[A8 x0 x1 x2 x3 x4 x5 x6 x7, .int .i64 n] w (MaskPost (V8 x0 x1 x2 x3 x4 x5 x6 x7) n w) := by
  go_enter Tryz.func39, Tryz.ntmps39
  go_wp2
  refine wp_loop_rounds 9 ?_
  iterate 8 (rw [rounds_succ]; go_wp2; go_region; go_wp2)
  rw [rounds_succ]
  go_wp2
  go_returns
  refine mask_ret ?_ ?_ (by go_grown)
  all_goals go_tidy
  all_goals obtain ⟨⟨_, _⟩, ⟨_, _⟩, ⟨_, _⟩, ⟨_, _⟩, ⟨_, _⟩, ⟨_, _⟩, ⟨_, _⟩, ⟨_, _⟩⟩ := h
  all_goals try rw [show min 16 (max 0 n) = 16 from by omega]
  all_goals try rw [show min 16 (max 0 (n - 16)) = 16 from by omega]
  all_goals try rw [show min 16 (max 0 (n - 32)) = 16 from by omega]
  all_goals try rw [show min 16 (max 0 (n - 48)) = 16 from by omega]
  all_goals try rw [show min 16 (max 0 (n - 64)) = 16 from by omega]
  all_goals try rw [show min 16 (max 0 (n - 80)) = 16 from by omega]
  all_goals try rw [show min 16 (max 0 (n - 96)) = (n - 96) from by omega]
  all_goals try rw [show min 16 (max 0 (n - 112)) = 0 from by omega]
  all_goals try rw [show IntKind.u16.wrap (IntKind.u16.wrap ((2 : Int) ^ ((16 : Int) - 16).toNat) - 1) = 0 from by decide]
  all_goals try rw [show ((2 : Int) ^ ((16 : Int) - 0).toNat) = 65536 from by decide]
  all_goals have ht : (16 - (n - 96)).toNat ≤ 16 := by omega
  all_goals rw [andNot_none x0 (by assumption) (by assumption), andNot_none x1 (by assumption) (by assumption), andNot_none x2 (by assumption) (by assumption), andNot_none x3 (by assumption) (by assumption), andNot_none x4 (by assumption) (by assumption), andNot_none x5 (by assumption) (by assumption), andNot_tail x6 _ (by assumption) (by assumption) ht, andNot_whole x7 (by assumption) (by assumption)]
  · generalize hu : x6 % 2 ^ (16 - (n - 96)).toNat = u
    have h1 := Int.emod_nonneg x6 (show (2 : Int) ^ (16 - (n - 96)).toNat ≠ 0 from by have := pow_pos2 ((16 - (n - 96)).toNat); omega)
    have h2 := emod_le16 x6 ht (by assumption)
    rw [hu] at h1 h2
    constructor <;> omega
  · have e : V8 x0 x1 x2 x3 x4 x5 x6 x7 = ((((((x0 * 65536 + x1) * 65536 + x2) * 65536 + x3) * 65536 + x4) * 65536 + x5) * 65536 + x6) * 65536 + x7 := by unfold V8; omega
    have e2 : (2 : Int) ^ (128 - n).toNat = 2 ^ (16 - (n - 96)).toNat * 65536 := by
      rw [show (128 - n).toNat = (16 - (n - 96)).toNat + 16 from by omega, Int.pow_add]
      rfl
    have hpc : (2 : Int) ^ (16 - (n - 96)).toNat * 2 ^ (16 - (16 - (n - 96)).toNat) = 65536 := by
      rw [← Int.pow_add, show (16 - (n - 96)).toNat + (16 - (16 - (n - 96)).toNat) = 16 from by omega]
      rfl
    unfold tailOf
    rw [e2, e, mod_mid _ _ _ _ _ _ (by assumption) (by decide) (by omega) (by omega) (pow_pos2 _) hpc]
    generalize x6 % 2 ^ (16 - (n - 96)).toNat = u
    unfold V8
    omega
set_option maxHeartbeats 2000000 in
set_option maxRecDepth 100000 in
theorem mask_in_7 (x0 x1 x2 x3 x4 x5 x6 x7 : Int) (h : R8 x0 x1 x2 x3 x4 x5 x6 x7) (n : Int) (n0 : 112 < n) (n1 : n < 128) (w : World) :
    Calls Tryz.prog 39 #[A8 x0 x1 x2 x3 x4 x5 x6 x7, .int .i64 n] w (MaskPost (V8 x0 x1 x2 x3 x4 x5 x6 x7) n w) := by
  go_enter Tryz.func39, Tryz.ntmps39
  go_wp2
  refine wp_loop_rounds 9 ?_
  iterate 8 (rw [rounds_succ]; go_wp2; go_region; go_wp2)
  rw [rounds_succ]
  go_wp2
  go_returns
  refine mask_ret ?_ ?_ (by go_grown)
  all_goals go_tidy
  all_goals obtain ⟨⟨_, _⟩, ⟨_, _⟩, ⟨_, _⟩, ⟨_, _⟩, ⟨_, _⟩, ⟨_, _⟩, ⟨_, _⟩, ⟨_, _⟩⟩ := h
  all_goals try rw [show min 16 (max 0 n) = 16 from by omega]
  all_goals try rw [show min 16 (max 0 (n - 16)) = 16 from by omega]
  all_goals try rw [show min 16 (max 0 (n - 32)) = 16 from by omega]
  all_goals try rw [show min 16 (max 0 (n - 48)) = 16 from by omega]
  all_goals try rw [show min 16 (max 0 (n - 64)) = 16 from by omega]
  all_goals try rw [show min 16 (max 0 (n - 80)) = 16 from by omega]
  all_goals try rw [show min 16 (max 0 (n - 96)) = 16 from by omega]
  all_goals try rw [show min 16 (max 0 (n - 112)) = (n - 112) from by omega]
  all_goals try rw [show IntKind.u16.wrap (IntKind.u16.wrap ((2 : Int) ^ ((16 : Int) - 16).toNat) - 1) = 0 from by decide]
  all_goals try rw [show ((2 : Int) ^ ((16 : Int) - 0).toNat) = 65536 from by decide]
  all_goals have ht : (16 - (n - 112)).toNat ≤ 16 := by omega
  all_goals rw [andNot_none x0 (by assumption) (by assumption), andNot_none x1 (by assumption) (by assumption), andNot_none x2 (by assumption) (by assumption), andNot_none x3 (by assumption) (by assumption), andNot_none x4 (by assumption) (by assumption), andNot_none x5 (by assumption) (by assumption), andNot_none x6 (by assumption) (by assumption), andNot_tail x7 _ (by assumption) (by assumption) ht]
  · generalize hu : x7 % 2 ^ (16 - (n - 112)).toNat = u
    have h1 := Int.emod_nonneg x7 (show (2 : Int) ^ (16 - (n - 112)).toNat ≠ 0 from by have := pow_pos2 ((16 - (n - 112)).toNat); omega)
    have h2 := emod_le16 x7 ht (by assumption)
    rw [hu] at h1 h2
    constructor <;> omega
  · have e : V8 x0 x1 x2 x3 x4 x5 x6 x7 = (((((((x0 * 65536 + x1) * 65536 + x2) * 65536 + x3) * 65536 + x4) * 65536 + x5) * 65536 + x6) * 65536 + x7) * 1 + 0 := by unfold V8; omega
    have e2 : (2 : Int) ^ (128 - n).toNat = 2 ^ (16 - (n - 112)).toNat * 1 := by
      rw [show (128 - n).toNat = (16 - (n - 112)).toNat + 0 from by omega, Int.pow_add]
      rfl
    have hpc : (2 : Int) ^ (16 - (n - 112)).toNat * 2 ^ (16 - (16 - (n - 112)).toNat) = 65536 := by
      rw [← Int.pow_add, show (16 - (n - 112)).toNat + (16 - (16 - (n - 112)).toNat) = 16 from by omega]
      rfl
    unfold tailOf
    rw [e2, e, mod_mid _ _ _ _ _ _ (by assumption) (by decide) (by omega) (by omega) (pow_pos2 _) hpc]
    generalize x7 % 2 ^ (16 - (n - 112)).toNat = u
    unfold V8
    omega
set_option maxHeartbeats 2000000 in
set_option maxRecDepth 100000 in
theorem mask_at_0 (x0 x1 x2 x3 x4 x5 x6 x7 : Int) (h : R8 x0 x1 x2 x3 x4 x5 x6 x7) (w : World) :
    Calls Tryz.prog 39 #[A8 x0 x1 x2 x3 x4 x5 x6 x7, .int .i64 0] w (MaskPost (V8 x0 x1 x2 x3 x4 x5 x6 x7) 0 w) := by
  go_enter Tryz.func39, Tryz.ntmps39
  go_wp2
  refine wp_loop_rounds 9 ?_
  iterate 8 (rw [rounds_succ]; go_wp2; go_region; go_wp2)
  rw [rounds_succ]
  go_wp2
  go_returns
  refine mask_ret ?_ ?_ (by go_grown)
  all_goals go_tidy
  all_goals obtain ⟨⟨_, _⟩, ⟨_, _⟩, ⟨_, _⟩, ⟨_, _⟩, ⟨_, _⟩, ⟨_, _⟩, ⟨_, _⟩, ⟨_, _⟩⟩ := h
  all_goals try rw [show ((2 : Int) ^ ((16 : Int) - min 16 0).toNat) = 65536 from by decide]
  all_goals try rw [show ((2 : Int) ^ ((16 : Int) - min 16 (max 0 (-16))).toNat) = 65536 from by decide]
  all_goals try rw [show ((2 : Int) ^ ((16 : Int) - min 16 (max 0 (-32))).toNat) = 65536 from by decide]
  all_goals try rw [show ((2 : Int) ^ ((16 : Int) - min 16 (max 0 (-48))).toNat) = 65536 from by decide]
  all_goals try rw [show ((2 : Int) ^ ((16 : Int) - min 16 (max 0 (-64))).toNat) = 65536 from by decide]
  all_goals try rw [show ((2 : Int) ^ ((16 : Int) - min 16 (max 0 (-80))).toNat) = 65536 from by decide]
  all_goals try rw [show ((2 : Int) ^ ((16 : Int) - min 16 (max 0 (-96))).toNat) = 65536 from by decide]
  all_goals try rw [show ((2 : Int) ^ ((16 : Int) - min 16 (max 0 (-112))).toNat) = 65536 from by decide]
  all_goals rw [andNot_whole x0 (by assumption) (by assumption), andNot_whole x1 (by assumption) (by assumption), andNot_whole x2 (by assumption) (by assumption), andNot_whole x3 (by assumption) (by assumption), andNot_whole x4 (by assumption) (by assumption), andNot_whole x5 (by assumption) (by assumption), andNot_whole x6 (by assumption) (by assumption), andNot_whole x7 (by assumption) (by assumption)]
  · constructor <;> omega
  · unfold tailOf
    rw [show (2 : Int) ^ ((128 : Int) - 0).toNat = 340282366920938463463374607431768211456 from by decide]
    unfold V8
    omega
set_option maxHeartbeats 2000000 in
set_option maxRecDepth 100000 in
theorem mask_at_1 (x0 x1 x2 x3 x4 x5 x6 x7 : Int) (h : R8 x0 x1 x2 x3 x4 x5 x6 x7) (w : World) :
    Calls Tryz.prog 39 #[A8 x0 x1 x2 x3 x4 x5 x6 x7, .int .i64 16] w (MaskPost (V8 x0 x1 x2 x3 x4 x5 x6 x7) 16 w) := by
  go_enter Tryz.func39, Tryz.ntmps39
  go_wp2
  refine wp_loop_rounds 9 ?_
  iterate 8 (rw [rounds_succ]; go_wp2; go_region; go_wp2)
  rw [rounds_succ]
  go_wp2
  go_returns
  refine mask_ret ?_ ?_ (by go_grown)
  all_goals go_tidy
  all_goals obtain ⟨⟨_, _⟩, ⟨_, _⟩, ⟨_, _⟩, ⟨_, _⟩, ⟨_, _⟩, ⟨_, _⟩, ⟨_, _⟩, ⟨_, _⟩⟩ := h
  all_goals try rw [show IntKind.u16.wrap (IntKind.u16.wrap ((2 : Int) ^ ((16 : Int) - min 16 (max 0 (16))).toNat) - 1) = 0 from by decide]
  all_goals try rw [show ((2 : Int) ^ ((16 : Int) - min 16 0).toNat) = 65536 from by decide]
  all_goals try rw [show ((2 : Int) ^ ((16 : Int) - min 16 (max 0 (-16))).toNat) = 65536 from by decide]
  all_goals try rw [show ((2 : Int) ^ ((16 : Int) - min 16 (max 0 (-32))).toNat) = 65536 from by decide]
  all_goals try rw [show ((2 : Int) ^ ((16 : Int) - min 16 (max 0 (-48))).toNat) = 65536 from by decide]
  all_goals try rw [show ((2 : Int) ^ ((16 : Int) - min 16 (max 0 (-64))).toNat) = 65536 from by decide]
  all_goals try rw [show ((2 : Int) ^ ((16 : Int) - min 16 (max 0 (-80))).toNat) = 65536 from by decide]
  all_goals try rw [show ((2 : Int) ^ ((16 : Int) - min 16 (max 0 (-96))).toNat) = 65536 from by decide]
  all_goals rw [andNot_none x0 (by assumption) (by assumption), andNot_whole x1 (by assumption) (by assumption), andNot_whole x2 (by assumption) (by assumption), andNot_whole x3 (by assumption) (by assumption), andNot_whole x4 (by assumption) (by assumption), andNot_whole x5 (by assumption) (by assumption), andNot_whole x6 (by assumption) (by assumption), andNot_whole x7 (by assumption) (by assumption)]
  · constructor <;> omega
  · unfold tailOf
    rw [show (2 : Int) ^ ((128 : Int) - 16).toNat = 5192296858534827628530496329220096 from by decide]
    unfold V8
    omega
set_option maxHeartbeats 2000000 in
set_option maxRecDepth 100000 in
theorem mask_at_2 (x0 x1 x2 x3 x4 x5 x6 x7 : Int) (h : R8 x0 x1 x2 x3 x4 x5 x6 x7) (w : World) :
    Calls Tryz.prog 39 #[A8 x0 x1 x2 x3 x4 x5 x6 x7, .int .i64 32] w (MaskPost (V8 x0 x1 x2 x3 x4 x5 x6 x7) 32 w) := by
  go_enter Tryz.func39, Tryz.ntmps39
  go_wp2
  refine wp_loop_rounds 9 ?_
  iterate 8 (rw [rounds_succ]; go_wp2; go_region; go_wp2)
  rw [rounds_succ]
  go_wp2
  go_returns
  refine mask_ret ?_ ?_ (by go_grown)
  all_goals go_tidy
  all_goals obtain ⟨⟨_, _⟩, ⟨_, _⟩, ⟨_, _⟩, ⟨_, _⟩, ⟨_, _⟩, ⟨_, _⟩, ⟨_, _⟩, ⟨_, _⟩⟩ := h
  all_goals try rw [show IntKind.u16.wrap (IntKind.u16.wrap ((2 : Int) ^ ((16 : Int) - min 16 (max 0 (32))).toNat) - 1) = 0 from by decide]
  all_goals try rw [show IntKind.u16.wrap (IntKind.u16.wrap ((2 : Int) ^ ((16 : Int) - min 16 (max 0 (16))).toNat) - 1) = 0 from by decide]
  all_goals try rw [show ((2 : Int) ^ ((16 : Int) - min 16 0).toNat) = 65536 from by decide]
  all_goals try rw [show ((2 : Int) ^ ((16 : Int) - min 16 (max 0 (-16))).toNat) = 65536 from by decide]
  all_goals try rw [show ((2 : Int) ^ ((16 : Int) - min 16 (max 0 (-32))).toNat) = 65536 from by decide]
  all_goals try rw [show ((2 : Int) ^ ((16 : Int) - min 16 (max 0 (-48))).toNat) = 65536 from by decide]
  all_goals try rw [show ((2 : Int) ^ ((16 : Int) - min 16 (max 0 (-64))).toNat) = 65536 from by decide]
  all_goals try rw [show ((2 : Int) ^ ((16 : Int) - min 16 (max 0 (-80))).toNat) = 65536 from by decide]
  all_goals rw [andNot_none x0 (by assumption) (by assumption), andNot_none x1 (by assumption) (by assumption), andNot_whole x2 (by assumption) (by assumption), andNot_whole x3 (by assumption) (by assumption), andNot_whole x4 (by assumption) (by assumption), andNot_whole x5 (by assumption) (by assumption), andNot_whole x6 (by assumption) (by assumption), andNot_whole x7 (by assumption) (by assumption)]
  · constructor <;> omega
  · unfold tailOf
    rw [show (2 : Int) ^ ((128 : Int) - 32).toNat = 79228162514264337593543950336 from by decide]
    unfold V8
    omega
set_option maxHeartbeats 2000000 in
set_option maxRecDepth 100000 in
theorem mask_at_3 (x0 x1 x2 x3 x4 x5 x6 x7 : Int) (h : R8 x0 x1 x2 x3 x4 x5 x6 x7) (w : World) :
    Calls Tryz.prog 39 #[A8 x0 x1 x2 x3 x4 x5 x6 x7, .int .i64 48] w (MaskPost (V8 x0 x1 x2 x3 x4 x5 x6 x7) 48 w) := by
  go_enter Tryz.func39, Tryz.ntmps39
  go_wp2
  refine wp_loop_rounds 9 ?_
  iterate 8 (rw [rounds_succ]; go_wp2; go_region; go_wp2)
  rw [rounds_succ]
  go_wp2
  go_returns
  refine mask_ret ?_ ?_ (by go_grown)
  all_goals go_tidy
  all_goals obtain ⟨⟨_, _⟩, ⟨_, _⟩, ⟨_, _⟩, ⟨_, _⟩, ⟨_, _⟩, ⟨_, _⟩, ⟨_, _⟩, ⟨_, _⟩⟩ := h
  all_goals try rw [show IntKind.u16.wrap (IntKind.u16.wrap ((2 : Int) ^ ((16 : Int) - min 16 (max 0 (48))).toNat) - 1) = 0 from by decide]
  all_goals try rw [show IntKind.u16.wrap (IntKind.u16.wrap ((2 : Int) ^ ((16 : Int) - min 16 (max 0 (32))).toNat) - 1) = 0 from by decide]
  all_goals try rw [show IntKind.u16.wrap (IntKind.u16.wrap ((2 : Int) ^ ((16 : Int) - min 16 (max 0 (16))).toNat) - 1) = 0 from by decide]
  all_goals try rw [show ((2 : Int) ^ ((16 : Int) - min 16 0).toNat) = 65536 from by decide]
  all_goals try rw [show ((2 : Int) ^ ((16 : Int) - min 16 (max 0 (-16))).toNat) = 65536 from by decide]
  all_goals try rw [show ((2 : Int) ^ ((16 : Int) - min 16 (max 0 (-32))).toNat) = 65536 from by decide]
  all_goals try rw [show ((2 : Int) ^ ((16 : Int) - min 16 (max 0 (-48))).toNat) = 65536 from by decide]
  all_goals try rw [show ((2 : Int) ^ ((16 : Int) - min 16 (max 0 (-64))).toNat) = 65536 from by decide]
  all_goals rw [andNot_none x0 (by assumption) (by assumption), andNot_none x1 (by assumption) (by assumption), andNot_none x2 (by assumption) (by assumption), andNot_whole x3 (by assumption) (by assumption), andNot_whole x4 (by assumption) (by assumption), andNot_whole x5 (by assumption) (by assumption), andNot_whole x6 (by assumption) (by assumption), andNot_whole x7 (by assumption) (by assumption)]
  · constructor <;> omega
  · unfold tailOf
    rw [show (2 : Int) ^ ((128 : Int) - 48).toNat = 1208925819614629174706176 from by decide]
    unfold V8
    omega
set_option maxHeartbeats 2000000 in
set_option maxRecDepth 100000 in
theorem mask_at_4 (x0 x1 x2 x3 x4 x5 x6 x7 : Int) (h : R8 x0 x1 x2 x3 x4 x5 x6 x7) (w : World) :
    Calls Tryz.prog 39 #[A8 x0 x1 x2 x3 x4 x5 x6 x7, .int .i64 64] w (MaskPost (V8 x0 x1 x2 x3 x4 x5 x6 x7) 64 w) := by
  go_enter Tryz.func39, Tryz.ntmps39
  go_wp2
  refine wp_loop_rounds 9 ?_
  iterate 8 (rw [rounds_succ]; go_wp2; go_region; go_wp2)
  rw [rounds_succ]
  go_wp2
  go_returns
  refine mask_ret ?_ ?_ (by go_grown)
  all_goals go_tidy
  all_goals obtain ⟨⟨_, _⟩, ⟨_, _⟩, ⟨_, _⟩, ⟨_, _⟩, ⟨_, _⟩, ⟨_, _⟩, ⟨_, _⟩, ⟨_, _⟩⟩ := h
  all_goals try rw [show IntKind.u16.wrap (IntKind.u16.wrap ((2 : Int) ^ ((16 : Int) - min 16 (max 0 (64))).toNat) - 1) = 0 from by decide]
  all_goals try rw [show IntKind.u16.wrap (IntKind.u16.wrap ((2 : Int) ^ ((16 : Int) - min 16 (max 0 (48))).toNat) - 1) = 0 from by decide]
  all_goals try rw [show IntKind.u16.wrap (IntKind.u16.wrap ((2 : Int) ^ ((16 : Int) - min 16 (max 0 (32))).toNat) - 1) = 0 from by decide]
  all_goals try rw [show IntKind.u16.wrap (IntKind.u16.wrap ((2 : Int) ^ ((16 : Int) - min 16 (max 0 (16))).toNat) - 1) = 0 from by decide]
  all_goals try rw [show ((2 : Int) ^ ((16 : Int) - min 16 0).toNat) = 65536 from by decide]
  all_goals try rw [show ((2 : Int) ^ ((16 : Int) - min 16 (max 0 (-16))).toNat) = 65536 from by decide]
  all_goals try rw [show ((2 : Int) ^ ((16 : Int) - min 16 (max 0 (-32))).toNat) = 65536 from by decide]
  all_goals try rw [show ((2 : Int) ^ ((16 : Int) - min 16 (max 0 (-48))).toNat) = 65536 from by decide]
  all_goals rw [andNot_none x0 (by assumption) (by assumption), andNot_none x1 (by assumption) (by assumption), andNot_none x2 (by assumption) (by assumption), andNot_none x3 (by assumption) (by assumption), andNot_whole x4 (by assumption) (by assumption), andNot_whole x5 (by assumption) (by assumption), andNot_whole x6 (by assumption) (by assumption), andNot_whole x7 (by assumption) (by assumption)]
  · constructor <;> omega
  · unfold tailOf
    rw [show (2 : Int) ^ ((128 : Int) - 64).toNat = 18446744073709551616 from by decide]
    unfold V8
    omega
set_option maxHeartbeats 2000000 in
set_option maxRecDepth 100000 in
theorem mask_at_5 (x0 x1 x2 x3 x4 x5 x6 x7 : Int) (h : R8 x0 x1 x2 x3 x4 x5 x6 x7) (w : World) :
    Calls Tryz.prog 39 #[A8 x0 x1 x2 x3 x4 x5 x6 x7, .int .i64 80] w (MaskPost (V8 x0 x1 x2 x3 x4 x5 x6 x7) 80 w) := by
  go_enter Tryz.func39, Tryz.ntmps39
  go_wp2
  refine wp_loop_rounds 9 ?_
  iterate 8 (rw [rounds_succ]; go_wp2; go_region; go_wp2)
  rw [rounds_succ]
  go_wp2
  go_returns
  refine mask_ret ?_ ?_ (by go_grown)
  all_goals go_tidy
  all_goals obtain ⟨⟨_, _⟩, ⟨_, _⟩, ⟨_, _⟩, ⟨_, _⟩, ⟨_, _⟩, ⟨_, _⟩, ⟨_, _⟩, ⟨_, _⟩⟩ := h
  all_goals try rw [show IntKind.u16.wrap (IntKind.u16.wrap ((2 : Int) ^ ((16 : Int) - min 16 (max 0 (80))).toNat) - 1) = 0 from by decide]
  all_goals try rw [show IntKind.u16.wrap (IntKind.u16.wrap ((2 : Int) ^ ((16 : Int) - min 16 (max 0 (64))).toNat) - 1) = 0 from by decide]
  all_goals try rw [show IntKind.u16.wrap (IntKind.u16.wrap ((2 : Int) ^ ((16 : Int) - min 16 (max 0 (48))).toNat) - 1) = 0 from by decide]
  all_goals try rw [show IntKind.u16.wrap (IntKind.u16.wrap ((2 : Int) ^ ((16 : Int) - min 16 (max 0 (32))).toNat) - 1) = 0 from by decide]
  all_goals try rw [show IntKind.u16.wrap (IntKind.u16.wrap ((2 : Int) ^ ((16 : Int) - min 16 (max 0 (16))).toNat) - 1) = 0 from by decide]
  all_goals try rw [show ((2 : Int) ^ ((16 : Int) - min 16 0).toNat) = 65536 from by decide]
  all_goals try rw [show ((2 : Int) ^ ((16 : Int) - min 16 (max 0 (-16))).toNat) = 65536 from by decide]
  all_goals try rw [show ((2 : Int) ^ ((16 : Int) - min 16 (max 0 (-32))).toNat) = 65536 from by decide]
  all_goals rw [andNot_none x0 (by assumption) (by assumption), andNot_none x1 (by assumption) (by assumption), andNot_none x2 (by assumption) (by assumption), andNot_none x3 (by assumption) (by assumption), andNot_none x4 (by assumption) (by assumption), andNot_whole x5 (by assumption) (by assumption), andNot_whole x6 (by assumption) (by assumption), andNot_whole x7 (by assumption) (by assumption)]
  · constructor <;> omega
  · unfold tailOf
    rw [show (2 : Int) ^ ((128 : Int) - 80).toNat = 281474976710656 from by decide]
    unfold V8
    omega
set_option maxHeartbeats 2000000 in
set_option maxRecDepth 100000 in
theorem mask_at_6 (x0 x1 x2 x3 x4 x5 x6 x7 : Int) (h : R8 x0 x1 x2 x3 x4 x5 x6 x7) (w : World) :
    Calls Tryz.prog 39 #[A8 x0 x1 x2 x3 x4 x5 x6 x7, .int .i64 96] w (MaskPost (V8 x0 x1 x2 x3 x4 x5 x6 x7) 96 w) := by
  go_enter Tryz.func39, Tryz.ntmps39
  go_wp2
  refine wp_loop_rounds 9 ?_
  iterate 8 (rw [rounds_succ]; go_wp2; go_region; go_wp2)
  rw [rounds_succ]
  go_wp2
  go_returns
  refine mask_ret ?_ ?_ (by go_grown)
  all_goals go_tidy
  all_goals obtain ⟨⟨_, _⟩, ⟨_, _⟩, ⟨_, _⟩, ⟨_, _⟩, ⟨_, _⟩, ⟨_, _⟩, ⟨_, _⟩, ⟨_, _⟩⟩ := h
  all_goals try rw [show IntKind.u16.wrap (IntKind.u16.wrap ((2 : Int) ^ ((16 : Int) - min 16 (max 0 (96))).toNat) - 1) = 0 from by decide]
  all_goals try rw [show IntKind.u16.wrap (IntKind.u16.wrap ((2 : Int) ^ ((16 : Int) - min 16 (max 0 (80))).toNat) - 1) = 0 from by decide]
  all_goals try rw [show IntKind.u16.wrap (IntKind.u16.wrap ((2 : Int) ^ ((16 : Int) - min 16 (max 0 (64))).toNat) - 1) = 0 from by decide]
  all_goals try rw [show IntKind.u16.wrap (IntKind.u16.wrap ((2 : Int) ^ ((16 : Int) - min 16 (max 0 (48))).toNat) - 1) = 0 from by decide]
  all_goals try rw [show IntKind.u16.wrap (IntKind.u16.wrap ((2 : Int) ^ ((16 : Int) - min 16 (max 0 (32))).toNat) - 1) = 0 from by decide]
  all_goals try rw [show IntKind.u16.wrap (IntKind.u16.wrap ((2 : Int) ^ ((16 : Int) - min 16 (max 0 (16))).toNat) - 1) = 0 from by decide]
  all_goals try rw [show ((2 : Int) ^ ((16 : Int) - min 16 0).toNat) = 65536 from by decide]
  all_goals try rw [show ((2 : Int) ^ ((16 : Int) - min 16 (max 0 (-16))).toNat) = 65536 from by decide]
  all_goals rw [andNot_none x0 (by assumption) (by assumption), andNot_none x1 (by assumption) (by assumption), andNot_none x2 (by assumption) (by assumption), andNot_none x3 (by assumption) (by assumption), andNot_none x4 (by assumption) (by assumption), andNot_none x5 (by assumption) (by assumption), andNot_whole x6 (by assumption) (by assumption), andNot_whole x7 (by assumption) (by assumption)]
  · constructor <;> omega
  · unfold tailOf
    rw [show (2 : Int) ^ ((128 : Int) - 96).toNat = 4294967296 from by decide]
    unfold V8
    omega
set_option maxHeartbeats 2000000 in
set_option maxRecDepth 100000 in
theorem mask_at_7 (x0 x1 x2 x3 x4 x5 x6 x7 : Int) (h : R8 x0 x1 x2 x3 x4 x5 x6 x7) (w : World) :
    Calls Tryz.prog 39 #[A8 x0 x1 x2 x3 x4 x5 x6 x7, .int .i64 112] w (MaskPost (V8 x0 x1 x2 x3 x4 x5 x6 x7) 112 w) := by
  go_enter Tryz.func39, Tryz.ntmps39
  go_wp2
  refine wp_loop_rounds 9 ?_
  iterate 8 (rw [rounds_succ]; go_wp2; go_region; go_wp2)
  rw [rounds_succ]
  go_wp2
  go_returns
  refine mask_ret ?_ ?_ (by go_grown)
  all_goals go_tidy
  all_goals obtain ⟨⟨_, _⟩, ⟨_, _⟩, ⟨_, _⟩, ⟨_, _⟩, ⟨_, _⟩, ⟨_, _⟩, ⟨_, _⟩, ⟨_, _⟩⟩ := h
  all_goals try rw [show IntKind.u16.wrap (IntKind.u16.wrap ((2 : Int) ^ ((16 : Int) - min 16 (max 0 (112))).toNat) - 1) = 0 from by decide]
  all_goals try rw [show IntKind.u16.wrap (IntKind.u16.wrap ((2 : Int) ^ ((16 : Int) - min 16 (max 0 (96))).toNat) - 1) = 0 from by decide]
  all_goals try rw [show IntKind.u16.wrap (IntKind.u16.wrap ((2 : Int) ^ ((16 : Int) - min 16 (max 0 (80))).toNat) - 1) = 0 from by decide]
  all_goals try rw [show IntKind.u16.wrap (IntKind.u16.wrap ((2 : Int) ^ ((16 : Int) - min 16 (max 0 (64))).toNat) - 1) = 0 from by decide]
  all_goals try rw [show IntKind.u16.wrap (IntKind.u16.wrap ((2 : Int) ^ ((16 : Int) - min 16 (max 0 (48))).toNat) - 1) = 0 from by decide]
  all_goals try rw [show IntKind.u16.wrap (IntKind.u16.wrap ((2 : Int) ^ ((16 : Int) - min 16 (max 0 (32))).toNat) - 1) = 0 from by decide]
  all_goals try rw [show IntKind.u16.wrap (IntKind.u16.wrap ((2 : Int) ^ ((16 : Int) - min 16 (max 0 (16))).toNat) - 1) = 0 from by decide]
  all_goals try rw [show ((2 : Int) ^ ((16 : Int) - min 16 0).toNat) = 65536 from by decide]
  all_goals rw [andNot_none x0 (by assumption) (by assumption), andNot_none x1 (by assumption) (by assumption), andNot_none x2 (by assumption) (by assumption), andNot_none x3 (by assumption) (by assumption), andNot_none x4 (by assumption) (by assumption), andNot_none x5 (by assumption) (by assumption), andNot_none x6 (by assumption) (by assumption), andNot_whole x7 (by assumption) (by assumption)]
  · constructor <;> omega
  · unfold tailOf
    rw [show (2 : Int) ^ ((128 : Int) - 112).toNat = 65536 from by decide]
    unfold V8
    omega
set_option maxHeartbeats 2000000 in
set_option maxRecDepth 100000 in
theorem mask_at_8 (x0 x1 x2 x3 x4 x5 x6 x7 : Int) (h : R8 x0 x1 x2 x3 x4 x5 x6 x7) (w : World) :
    Calls Tryz.prog 39 #[A8 x0 x1 x2 x3 x4 x5 x6 x7, .int .i64 128] w (MaskPost (V8 x0 x1 x2 x3 x4 x5 x6 x7) 128 w) := by
  go_enter Tryz.func39, Tryz.ntmps39
  go_wp2
  refine wp_loop_rounds 9 ?_
  iterate 8 (rw [rounds_succ]; go_wp2; go_region; go_wp2)
  rw [rounds_succ]
  go_wp2
  go_returns
  refine mask_ret ?_ ?_ (by go_grown)
  all_goals go_tidy
  all_goals obtain ⟨⟨_, _⟩, ⟨_, _⟩, ⟨_, _⟩, ⟨_, _⟩, ⟨_, _⟩, ⟨_, _⟩, ⟨_, _⟩, ⟨_, _⟩⟩ := h
  all_goals try rw [show IntKind.u16.wrap (IntKind.u16.wrap ((2 : Int) ^ ((16 : Int) - min 16 (max 0 (128))).toNat) - 1) = 0 from by decide]
  all_goals try rw [show IntKind.u16.wrap (IntKind.u16.wrap ((2 : Int) ^ ((16 : Int) - min 16 (max 0 (112))).toNat) - 1) = 0 from by decide]
  all_goals try rw [show IntKind.u16.wrap (IntKind.u16.wrap ((2 : Int) ^ ((16 : Int) - min 16 (max 0 (96))).toNat) - 1) = 0 from by decide]
  all_goals try rw [show IntKind.u16.wrap (IntKind.u16.wrap ((2 : Int) ^ ((16 : Int) - min 16 (max 0 (80))).toNat) - 1) = 0 from by decide]
  all_goals try rw [show IntKind.u16.wrap (IntKind.u16.wrap ((2 : Int) ^ ((16 : Int) - min 16 (max 0 (64))).toNat) - 1) = 0 from by decide]
  all_goals try rw [show IntKind.u16.wrap (IntKind.u16.wrap ((2 : Int) ^ ((16 : Int) - min 16 (max 0 (48))).toNat) - 1) = 0 from by decide]
  all_goals try rw [show IntKind.u16.wrap (IntKind.u16.wrap ((2 : Int) ^ ((16 : Int) - min 16 (max 0 (32))).toNat) - 1) = 0 from by decide]
  all_goals try rw [show IntKind.u16.wrap (IntKind.u16.wrap ((2 : Int) ^ ((16 : Int) - min 16 (max 0 (16))).toNat) - 1) = 0 from by decide]
  all_goals rw [andNot_none x0 (by assumption) (by assumption), andNot_none x1 (by assumption) (by assumption), andNot_none x2 (by assumption) (by assumption), andNot_none x3 (by assumption) (by assumption), andNot_none x4 (by assumption) (by assumption), andNot_none x5 (by assumption) (by assumption), andNot_none x6 (by assumption) (by assumption), andNot_none x7 (by assumption) (by assumption)]
  · constructor <;> omega
  · unfold tailOf
    rw [show (2 : Int) ^ ((128 : Int) - 128).toNat = 1 from by decide]
    unfold V8
    omega
theorem mask_walk (x0 x1 x2 x3 x4 x5 x6 x7 : Int) (h : R8 x0 x1 x2 x3 x4 x5 x6 x7) (n : Int) (n0 : 0 ≤ n) (n1 : n ≤ 128) (w : World) :
    Calls Tryz.prog 39 #[A8 x0 x1 x2 x3 x4 x5 x6 x7, .int .i64 n] w (MaskPost (V8 x0 x1 x2 x3 x4 x5 x6 x7) n w) := by
  by_cases a0 : n = 0
  · subst a0; exact mask_at_0 _ _ _ _ _ _ _ _ h w
  by_cases b0 : n < 16
  · exact mask_in_0 _ _ _ _ _ _ _ _ h n (by omega) b0 w
  by_cases a1 : n = 16
  · subst a1; exact mask_at_1 _ _ _ _ _ _ _ _ h w
  by_cases b1 : n < 32
  · exact mask_in_1 _ _ _ _ _ _ _ _ h n (by omega) b1 w
  by_cases a2 : n = 32
  · subst a2; exact mask_at_2 _ _ _ _ _ _ _ _ h w
  by_cases b2 : n < 48
  · exact mask_in_2 _ _ _ _ _ _ _ _ h n (by omega) b2 w
  by_cases a3 : n = 48
  · subst a3; exact mask_at_3 _ _ _ _ _ _ _ _ h w
  by_cases b3 : n < 64
  · exact mask_in_3 _ _ _ _ _ _ _ _ h n (by omega) b3 w
  by_cases a4 : n = 64
  · subst a4; exact mask_at_4 _ _ _ _ _ _ _ _ h w
  by_cases b4 : n < 80
  · exact mask_in_4 _ _ _ _ _ _ _ _ h n (by omega) b4 w
  by_cases a5 : n = 80
  · subst a5; exact mask_at_5 _ _ _ _ _ _ _ _ h w
  by_cases b5 : n < 96
  · exact mask_in_5 _ _ _ _ _ _ _ _ h n (by omega) b5 w
  by_cases a6 : n = 96
  · subst a6; exact mask_at_6 _ _ _ _ _ _ _ _ h w
  by_cases b6 : n < 112
  · exact mask_in_6 _ _ _ _ _ _ _ _ h n (by omega) b6 w
  by_cases a7 : n = 112
  · subst a7; exact mask_at_7 _ _ _ _ _ _ _ _ h w
  by_cases b7 : n < 128
  · exact mask_in_7 _ _ _ _ _ _ _ _ h n (by omega) b7 w
  by_cases a8 : n = 128
  · subst a8; exact mask_at_8 _ _ _ _ _ _ _ _ h w
  omega
end Go.Proofs.YtcgdjnmfeibnoaaGreatDoor
/-! SixWithin -/
namespace Go.Proofs.YtcgdjnmfeibnoaaGreatDoor
open Go.RowKit
set_option linter.unusedVariables false
set_option linter.unusedSimpArgs false
set_option maxHeartbeats 1000000 in
set_option maxRecDepth 100000 in
theorem mask_less (x0 x1 x2 x3 x4 x5 x6 x7 : Int) (n : Int) (n0 : n < 0) (w : World) :
    Calls Tryz.prog 39 #[A8 x0 x1 x2 x3 x4 x5 x6 x7, .int .i64 n] w fun e w' => e = .returned (.tuple #[A8 0 0 0 0 0 0 0 0, .int .i64 211]) ∧ Below w.heap.size w w' := by
  go_enter Tryz.func39, Tryz.ntmps39
  go_wp2
  go_returns
  exact ⟨rfl, by go_grown⟩
set_option maxHeartbeats 1000000 in
set_option maxRecDepth 100000 in
theorem mask_more (x0 x1 x2 x3 x4 x5 x6 x7 : Int) (n : Int) (n0 : 128 < n) (w : World) :
    Calls Tryz.prog 39 #[A8 x0 x1 x2 x3 x4 x5 x6 x7, .int .i64 n] w fun e w' => e = .returned (.tuple #[A8 0 0 0 0 0 0 0 0, .int .i64 211]) ∧ Below w.heap.size w w' := by
  go_enter Tryz.func39, Tryz.ntmps39
  go_wp2
  go_returns
  exact ⟨rfl, by go_grown⟩
end Go.Proofs.YtcgdjnmfeibnoaaGreatDoor
/-! SixNext -/
namespace Go.Proofs.YtcgdjnmfeibnoaaGreatDoor
open Go.RowKit
set_option linter.unusedVariables false
set_option linter.unusedSimpArgs false
theorem u16w (x : Int) : IntKind.u16.wrap x = x % 65536 := by rw [IntKind.wrap_u16]
end Go.Proofs.YtcgdjnmfeibnoaaGreatDoor
/-! SixRefMask -/
namespace Go.Proofs.YtcgdjnmfeibnoaaGreatDoor
open Go.RowKit
set_option linter.unusedVariables false
set_option linter.unusedSimpArgs false
theorem pow_add2 (a b : Nat) : (2 : Int) ^ (a + b) = 2 ^ a * 2 ^ b := Int.pow_add ..
theorem tailOf_nonneg (v n : Int) : 0 ≤ tailOf v n := Int.emod_nonneg _ (by have := pow_pos2 (128 - n).toNat; omega)
theorem tailOf_lt (v n : Int) : tailOf v n < 2 ^ (128 - n).toNat := Int.emod_lt_of_pos _ (pow_pos2 _)
/-- One bit of the last bits, and the bits behind it. -/
theorem tail_bit {v : Int} {k : Nat} (hk : k < 128) : tailOf v k = tailOf v k / 2 ^ (127 - k) * 2 ^ (127 - k) + tailOf v ((k : Int) + 1) := by
  have hp := pow_pos2 (127 - k)
  have e1 : (128 - (k : Int)).toNat = (127 - k) + 1 := by omega
  have e2 : (128 - ((k : Int) + 1)).toNat = 127 - k := by omega
  have h2 : tailOf v ((k : Int) + 1) = tailOf v k % 2 ^ (127 - k) := by
    unfold tailOf
    rw [e1, e2, pow_add2, Int.emod_emod_of_dvd _ ⟨_, rfl⟩]
  rw [h2, Int.mul_comm]
  exact (Int.mul_ediv_add_emod _ _).symm
theorem tail_bit_range {v : Int} {k : Nat} (hk : k < 128) : 0 ≤ tailOf v k / 2 ^ (127 - k) ∧ tailOf v k / 2 ^ (127 - k) ≤ 1 := by
  have hp := pow_pos2 (127 - k)
  have e1 : (128 - (k : Int)).toNat = (127 - k) + 1 := by omega
  have h1 := tailOf_lt v k
  have h0 := tailOf_nonneg v k
  rw [e1, Int.pow_succ] at h1
  refine ⟨Int.ediv_nonneg h0 (Int.le_of_lt hp), ?_⟩
  have : tailOf v k / 2 ^ (127 - k) < 2 := Int.ediv_lt_of_lt_mul hp (by omega)
  omega
/-- A bit of a number of three parts is a bit of the middle one. -/
theorem bit_mid (A x lo B : Int) (t : Nat) (ht : t ≤ 15) (hB : 0 < B) (h0 : 0 ≤ lo) (h1 : lo < B) : ((A * 65536 + x) * B + lo) / (2 ^ t * B) % 2 = x / 2 ^ t % 2 := by
  have hp := pow_pos2 t
  rw [Int.mul_comm (2 ^ t) B, ← Int.ediv_ediv_of_nonneg (Int.le_of_lt hB), Int.add_comm ((A * 65536 + x) * B) lo, Int.add_mul_ediv_right _ _ (by omega), Int.ediv_eq_zero_of_lt h0 h1, Int.zero_add]
  have e : A * 65536 = (A * 2 ^ (15 - t) * 2) * 2 ^ t := by
    have h : (2 : Int) ^ (15 - t) * 2 * 2 ^ t = 65536 := by
      rw [← Int.pow_succ, ← pow_add2, show 15 - t + 1 + t = 16 from by omega]; rfl
    rw [Int.mul_assoc, Int.mul_assoc, ← Int.mul_assoc (2 ^ (15 - t)) 2, h]
  rw [e, Int.add_comm, Int.add_mul_ediv_right _ _ (by omega), Int.add_mul_emod_self_right]
theorem masked_bit {v : Int} {n k : Nat} (hn : n ≤ k) (hk : k < 128) : (v - tailOf v n + tailOf v k) / 2 ^ (127 - k) % 2 = tailOf v k / 2 ^ (127 - k) := by
  have hp := pow_pos2 (127 - k)
  have e1 : (128 - (n : Int)).toNat = (127 - k) + (1 + (k - n)) := by omega
  have e : v - tailOf v n = (2 ^ (k - n) * (v / 2 ^ (128 - (n : Int)).toNat) * 2) * 2 ^ (127 - k) := by
    have h := Int.mul_ediv_add_emod v (2 ^ (128 - (n : Int)).toNat)
    have h2 : v - tailOf v n = 2 ^ (128 - (n : Int)).toNat * (v / 2 ^ (128 - (n : Int)).toNat) := by unfold tailOf; omega
    rw [h2]
    generalize v / 2 ^ (128 - (n : Int)).toNat = q
    rw [e1, pow_add2, pow_add2, show (2 : Int) ^ 1 = 2 from rfl]
    ac_rfl
  rw [e, Int.add_comm, Int.add_mul_ediv_right _ _ (by omega), Int.add_mul_emod_self_right]
  have := tail_bit_range (v := v) hk
  omega
/-- Marked from here: the step of one bit. -/
theorem piece_step {v n A x lo B Y : Int} {k t : Nat} (n0 : 0 ≤ n) (hn : n ≤ k) (hk : k < 128) (hx0 : 0 ≤ x) (hx1 : x ≤ 65535) (ht : t ≤ 15) (hB : B = 2 ^ (127 - k - t)) (htk : t ≤ 127 - k) (h0 : 0 ≤ lo) (h1 : lo < B)
    (hY : Y = (A * 65536 + x) * B + lo) (hv : Y = if (k : Int) ≤ n then v else v - tailOf v n + tailOf v k) :
    ∃ x', bits .andNot .u16 x (IntKind.u16.wrap (2 ^ t)) = x' ∧ 0 ≤ x' ∧ x' ≤ 65535 ∧ (A * 65536 + x') * B + lo = v - tailOf v n + tailOf v ((k : Int) + 1) := by
  obtain ⟨m, rfl⟩ := Int.eq_ofNat_of_zero_le n0
  have hY2 : Y = v - tailOf v m + tailOf v k := by
    rw [hv]; split
    · have : m = k := by omega
      subst this; omega
    · rfl
  have hp := pow_pos2 t
  have hpB : 0 < B := by rw [hB]; exact pow_pos2 _
  have hl : (2 : Int) ^ t ≤ 65535 := by
    have := Nat.pow_le_pow_right (n := 2) (by omega) ht
    have h : ((2 ^ t : Nat) : Int) ≤ ((2 ^ 15 : Nat) : Int) := by exact_mod_cast this
    have h2 : ((2 ^ t : Nat) : Int) = 2 ^ t := by simp
    rw [← h2]; omega
  have hw : IntKind.u16.wrap (2 ^ t) = 2 ^ t := by simp only [IntKind.wrap_u16]; omega
  have hPB : (2 : Int) ^ (127 - k) = 2 ^ t * B := by rw [hB, ← pow_add2, show t + (127 - k - t) = 127 - k from by omega]
  have hb : x / 2 ^ t % 2 = tailOf v k / 2 ^ (127 - k) := by
    rw [← masked_bit (v := v) (n := m) (by omega) hk, ← hY2, hY, hPB, bit_mid A x lo B t ht hpB h0 h1]
  have hr := tail_bit_range (v := v) hk
  have hs := tail_bit (v := v) hk
  rw [hw, andNot_bit x t hx0 hx1 (by omega), hb]
  rw [← hb] at hr
  refine ⟨_, rfl, ?_, ?_, ?_⟩
  · rw [← hb]
    have h5 := Int.mul_ediv_add_emod x (2 ^ t)
    have h6 := Int.emod_nonneg x (show (2 : Int) ^ t ≠ 0 by omega)
    have h7 := Int.ediv_nonneg hx0 (Int.le_of_lt hp)
    have h8 : x / 2 ^ t % 2 ≤ x / 2 ^ t := by omega
    have h9 := Int.mul_le_mul_of_nonneg_right h8 (Int.le_of_lt hp)
    rw [Int.mul_comm (2 ^ t)] at h5
    omega
  · rw [← hb]
    have := Int.mul_nonneg hr.1 (Int.le_of_lt hp)
    omega
  · rw [hPB] at hs
    rw [hPB]
    generalize tailOf v k / (2 ^ t * B) = b at *
    have e : (A * 65536 + (x - b * 2 ^ t)) * B + lo = (A * 65536 + x) * B + lo - b * (2 ^ t * B) := by
      rw [← Int.add_sub_assoc, Int.sub_mul, Int.mul_assoc b]
      omega
    rw [e, ← hY, hY2, hs]
    omega
/-- What stands at the head of a round of the document's Mask. -/
def RefMaskRel (v n : Int) (w : World) (i : Value) (W : World) : Prop :=
  ∃ (k : Nat) (y0 y1 y2 y3 y4 y5 y6 y7 : Int), k ≤ 128 ∧ i = .int .i64 k ∧ R8 y0 y1 y2 y3 y4 y5 y6 y7 ∧ V8 y0 y1 y2 y3 y4 y5 y6 y7 = (if (k : Int) ≤ n then v else v - tailOf v n + tailOf v k) ∧ W = (w.alloc (.cells #[.int .u16 y0, .int .u16 y1, .int .u16 y2, .int .u16 y3, .int .u16 y4, .int .u16 y5, .int .u16 y6, .int .u16 y7] 30)).alloc (.cells #[.int .u16 0, .int .u16 0, .int .u16 0, .int .u16 0, .int .u16 0, .int .u16 0, .int .u16 0, .int .u16 0] 30)
theorem ref_meas {k : Nat} (h : k < 128) : 128 - (intOf (.int .i64 ((k : Int) + 1))).toNat < 128 - (intOf (.int .i64 (k : Int))).toNat := by simp [intOf]; omega
theorem ref_none {v n : Int} {w : World} {k : Nat} {y0 y1 y2 y3 y4 y5 y6 y7 : Int} (hk : k < 128) (h : (k : Int) < n) (hr : R8 y0 y1 y2 y3 y4 y5 y6 y7) (hy : V8 y0 y1 y2 y3 y4 y5 y6 y7 = (if (k : Int) ≤ n then v else v - tailOf v n + tailOf v k)) :
    RefMaskRel v n w (.int .i64 ((k : Int) + 1)) ((w.alloc (.cells #[.int .u16 y0, .int .u16 y1, .int .u16 y2, .int .u16 y3, .int .u16 y4, .int .u16 y5, .int .u16 y6, .int .u16 y7] 30)).alloc (.cells #[.int .u16 0, .int .u16 0, .int .u16 0, .int .u16 0, .int .u16 0, .int .u16 0, .int .u16 0, .int .u16 0] 30)) :=
  ⟨k + 1, y0, y1, y2, y3, y4, y5, y6, y7, by omega, by simp, hr, by rw [hy, if_pos (by omega), if_pos (by omega)], rfl⟩
theorem ref_step_0 {v n : Int} {w : World} {k t : Nat} {y0 y1 y2 y3 y4 y5 y6 y7 : Int} (n0 : 0 ≤ n) (hk : k < 128) (h : n ≤ (k : Int)) (ht : 127 - k = t + 112) (ht2 : t ≤ 15) (hr : R8 y0 y1 y2 y3 y4 y5 y6 y7) (hy : V8 y0 y1 y2 y3 y4 y5 y6 y7 = (if (k : Int) ≤ n then v else v - tailOf v n + tailOf v k)) :
    RefMaskRel v n w (.int .i64 ((k : Int) + 1)) ((w.alloc (.cells #[.int .u16 (bits .andNot .u16 y0 (IntKind.u16.wrap (2 ^ t))), .int .u16 y1, .int .u16 y2, .int .u16 y3, .int .u16 y4, .int .u16 y5, .int .u16 y6, .int .u16 y7] 30)).alloc (.cells #[.int .u16 0, .int .u16 0, .int .u16 0, .int .u16 0, .int .u16 0, .int .u16 0, .int .u16 0, .int .u16 0] 30)) := by
  have hR := hr
  obtain ⟨⟨_, _⟩, ⟨_, _⟩, ⟨_, _⟩, ⟨_, _⟩, ⟨_, _⟩, ⟨_, _⟩, ⟨_, _⟩, ⟨_, _⟩⟩ := hr
  obtain ⟨z, hz, z0, z1, he⟩ := piece_step (A := 0) (x := y0) (lo := ((((((y1 * 65536 + y2) * 65536 + y3) * 65536 + y4) * 65536 + y5) * 65536 + y6) * 65536 + y7)) (B := 5192296858534827628530496329220096) (t := t) n0 h hk (by assumption) (by assumption) ht2 (by rw [show 127 - k - t = 112 from by omega]; rfl) (by omega) (by omega) (by omega) (show V8 y0 y1 y2 y3 y4 y5 y6 y7 = _ from by unfold V8; omega) hy
  refine ⟨k + 1, z, y1, y2, y3, y4, y5, y6, y7, by omega, by simp, ?_, ?_, by rw [hz]⟩
  · constructor <;> omega
  · rw [if_neg (by omega), show ((k + 1 : Nat) : Int) = (k : Int) + 1 from by omega, ← he]
    unfold V8
    omega
theorem ref_step_1 {v n : Int} {w : World} {k t : Nat} {y0 y1 y2 y3 y4 y5 y6 y7 : Int} (n0 : 0 ≤ n) (hk : k < 128) (h : n ≤ (k : Int)) (ht : 127 - k = t + 96) (ht2 : t ≤ 15) (hr : R8 y0 y1 y2 y3 y4 y5 y6 y7) (hy : V8 y0 y1 y2 y3 y4 y5 y6 y7 = (if (k : Int) ≤ n then v else v - tailOf v n + tailOf v k)) :
    RefMaskRel v n w (.int .i64 ((k : Int) + 1)) ((w.alloc (.cells #[.int .u16 y0, .int .u16 (bits .andNot .u16 y1 (IntKind.u16.wrap (2 ^ t))), .int .u16 y2, .int .u16 y3, .int .u16 y4, .int .u16 y5, .int .u16 y6, .int .u16 y7] 30)).alloc (.cells #[.int .u16 0, .int .u16 0, .int .u16 0, .int .u16 0, .int .u16 0, .int .u16 0, .int .u16 0, .int .u16 0] 30)) := by
  have hR := hr
  obtain ⟨⟨_, _⟩, ⟨_, _⟩, ⟨_, _⟩, ⟨_, _⟩, ⟨_, _⟩, ⟨_, _⟩, ⟨_, _⟩, ⟨_, _⟩⟩ := hr
  obtain ⟨z, hz, z0, z1, he⟩ := piece_step (A := y0) (x := y1) (lo := (((((y2 * 65536 + y3) * 65536 + y4) * 65536 + y5) * 65536 + y6) * 65536 + y7)) (B := 79228162514264337593543950336) (t := t) n0 h hk (by assumption) (by assumption) ht2 (by rw [show 127 - k - t = 96 from by omega]; rfl) (by omega) (by omega) (by omega) (show V8 y0 y1 y2 y3 y4 y5 y6 y7 = _ from by unfold V8; omega) hy
  refine ⟨k + 1, y0, z, y2, y3, y4, y5, y6, y7, by omega, by simp, ?_, ?_, by rw [hz]⟩
  · constructor <;> omega
  · rw [if_neg (by omega), show ((k + 1 : Nat) : Int) = (k : Int) + 1 from by omega, ← he]
    unfold V8
    omega
theorem ref_step_2 {v n : Int} {w : World} {k t : Nat} {y0 y1 y2 y3 y4 y5 y6 y7 : Int} (n0 : 0 ≤ n) (hk : k < 128) (h : n ≤ (k : Int)) (ht : 127 - k = t + 80) (ht2 : t ≤ 15) (hr : R8 y0 y1 y2 y3 y4 y5 y6 y7) (hy : V8 y0 y1 y2 y3 y4 y5 y6 y7 = (if (k : Int) ≤ n then v else v - tailOf v n + tailOf v k)) :
    RefMaskRel v n w (.int .i64 ((k : Int) + 1)) ((w.alloc (.cells #[.int .u16 y0, .int .u16 y1, .int .u16 (bits .andNot .u16 y2 (IntKind.u16.wrap (2 ^ t))), .int .u16 y3, .int .u16 y4, .int .u16 y5, .int .u16 y6, .int .u16 y7] 30)).alloc (.cells #[.int .u16 0, .int .u16 0, .int .u16 0, .int .u16 0, .int .u16 0, .int .u16 0, .int .u16 0, .int .u16 0] 30)) := by
  have hR := hr
  obtain ⟨⟨_, _⟩, ⟨_, _⟩, ⟨_, _⟩, ⟨_, _⟩, ⟨_, _⟩, ⟨_, _⟩, ⟨_, _⟩, ⟨_, _⟩⟩ := hr
  obtain ⟨z, hz, z0, z1, he⟩ := piece_step (A := (y0 * 65536 + y1)) (x := y2) (lo := ((((y3 * 65536 + y4) * 65536 + y5) * 65536 + y6) * 65536 + y7)) (B := 1208925819614629174706176) (t := t) n0 h hk (by assumption) (by assumption) ht2 (by rw [show 127 - k - t = 80 from by omega]; rfl) (by omega) (by omega) (by omega) (show V8 y0 y1 y2 y3 y4 y5 y6 y7 = _ from by unfold V8; omega) hy
  refine ⟨k + 1, y0, y1, z, y3, y4, y5, y6, y7, by omega, by simp, ?_, ?_, by rw [hz]⟩
  · constructor <;> omega
  · rw [if_neg (by omega), show ((k + 1 : Nat) : Int) = (k : Int) + 1 from by omega, ← he]
    unfold V8
    omega
theorem ref_step_3 {v n : Int} {w : World} {k t : Nat} {y0 y1 y2 y3 y4 y5 y6 y7 : Int} (n0 : 0 ≤ n) (hk : k < 128) (h : n ≤ (k : Int)) (ht : 127 - k = t + 64) (ht2 : t ≤ 15) (hr : R8 y0 y1 y2 y3 y4 y5 y6 y7) (hy : V8 y0 y1 y2 y3 y4 y5 y6 y7 = (if (k : Int) ≤ n then v else v - tailOf v n + tailOf v k)) :
    RefMaskRel v n w (.int .i64 ((k : Int) + 1)) ((w.alloc (.cells #[.int .u16 y0, .int .u16 y1, .int .u16 y2, .int .u16 (bits .andNot .u16 y3 (IntKind.u16.wrap (2 ^ t))), .int .u16 y4, .int .u16 y5, .int .u16 y6, .int .u16 y7] 30)).alloc (.cells #[.int .u16 0, .int .u16 0, .int .u16 0, .int .u16 0, .int .u16 0, .int .u16 0, .int .u16 0, .int .u16 0] 30)) := by
  have hR := hr
  obtain ⟨⟨_, _⟩, ⟨_, _⟩, ⟨_, _⟩, ⟨_, _⟩, ⟨_, _⟩, ⟨_, _⟩, ⟨_, _⟩, ⟨_, _⟩⟩ := hr
  obtain ⟨z, hz, z0, z1, he⟩ := piece_step (A := ((y0 * 65536 + y1) * 65536 + y2)) (x := y3) (lo := (((y4 * 65536 + y5) * 65536 + y6) * 65536 + y7)) (B := 18446744073709551616) (t := t) n0 h hk (by assumption) (by assumption) ht2 (by rw [show 127 - k - t = 64 from by omega]; rfl) (by omega) (by omega) (by omega) (show V8 y0 y1 y2 y3 y4 y5 y6 y7 = _ from by unfold V8; omega) hy
  refine ⟨k + 1, y0, y1, y2, z, y4, y5, y6, y7, by omega, by simp, ?_, ?_, by rw [hz]⟩
  · constructor <;> omega
  · rw [if_neg (by omega), show ((k + 1 : Nat) : Int) = (k : Int) + 1 from by omega, ← he]
    unfold V8
    omega
theorem ref_step_4 {v n : Int} {w : World} {k t : Nat} {y0 y1 y2 y3 y4 y5 y6 y7 : Int} (n0 : 0 ≤ n) (hk : k < 128) (h : n ≤ (k : Int)) (ht : 127 - k = t + 48) (ht2 : t ≤ 15) (hr : R8 y0 y1 y2 y3 y4 y5 y6 y7) (hy : V8 y0 y1 y2 y3 y4 y5 y6 y7 = (if (k : Int) ≤ n then v else v - tailOf v n + tailOf v k)) :
    RefMaskRel v n w (.int .i64 ((k : Int) + 1)) ((w.alloc (.cells #[.int .u16 y0, .int .u16 y1, .int .u16 y2, .int .u16 y3, .int .u16 (bits .andNot .u16 y4 (IntKind.u16.wrap (2 ^ t))), .int .u16 y5, .int .u16 y6, .int .u16 y7] 30)).alloc (.cells #[.int .u16 0, .int .u16 0, .int .u16 0, .int .u16 0, .int .u16 0, .int .u16 0, .int .u16 0, .int .u16 0] 30)) := by
  have hR := hr
  obtain ⟨⟨_, _⟩, ⟨_, _⟩, ⟨_, _⟩, ⟨_, _⟩, ⟨_, _⟩, ⟨_, _⟩, ⟨_, _⟩, ⟨_, _⟩⟩ := hr
  obtain ⟨z, hz, z0, z1, he⟩ := piece_step (A := (((y0 * 65536 + y1) * 65536 + y2) * 65536 + y3)) (x := y4) (lo := ((y5 * 65536 + y6) * 65536 + y7)) (B := 281474976710656) (t := t) n0 h hk (by assumption) (by assumption) ht2 (by rw [show 127 - k - t = 48 from by omega]; rfl) (by omega) (by omega) (by omega) (show V8 y0 y1 y2 y3 y4 y5 y6 y7 = _ from by unfold V8; omega) hy
  refine ⟨k + 1, y0, y1, y2, y3, z, y5, y6, y7, by omega, by simp, ?_, ?_, by rw [hz]⟩
  · constructor <;> omega
  · rw [if_neg (by omega), show ((k + 1 : Nat) : Int) = (k : Int) + 1 from by omega, ← he]
    unfold V8
    omega
theorem ref_step_5 {v n : Int} {w : World} {k t : Nat} {y0 y1 y2 y3 y4 y5 y6 y7 : Int} (n0 : 0 ≤ n) (hk : k < 128) (h : n ≤ (k : Int)) (ht : 127 - k = t + 32) (ht2 : t ≤ 15) (hr : R8 y0 y1 y2 y3 y4 y5 y6 y7) (hy : V8 y0 y1 y2 y3 y4 y5 y6 y7 = (if (k : Int) ≤ n then v else v - tailOf v n + tailOf v k)) :
    RefMaskRel v n w (.int .i64 ((k : Int) + 1)) ((w.alloc (.cells #[.int .u16 y0, .int .u16 y1, .int .u16 y2, .int .u16 y3, .int .u16 y4, .int .u16 (bits .andNot .u16 y5 (IntKind.u16.wrap (2 ^ t))), .int .u16 y6, .int .u16 y7] 30)).alloc (.cells #[.int .u16 0, .int .u16 0, .int .u16 0, .int .u16 0, .int .u16 0, .int .u16 0, .int .u16 0, .int .u16 0] 30)) := by
  have hR := hr
  obtain ⟨⟨_, _⟩, ⟨_, _⟩, ⟨_, _⟩, ⟨_, _⟩, ⟨_, _⟩, ⟨_, _⟩, ⟨_, _⟩, ⟨_, _⟩⟩ := hr
  obtain ⟨z, hz, z0, z1, he⟩ := piece_step (A := ((((y0 * 65536 + y1) * 65536 + y2) * 65536 + y3) * 65536 + y4)) (x := y5) (lo := (y6 * 65536 + y7)) (B := 4294967296) (t := t) n0 h hk (by assumption) (by assumption) ht2 (by rw [show 127 - k - t = 32 from by omega]; rfl) (by omega) (by omega) (by omega) (show V8 y0 y1 y2 y3 y4 y5 y6 y7 = _ from by unfold V8; omega) hy
  refine ⟨k + 1, y0, y1, y2, y3, y4, z, y6, y7, by omega, by simp, ?_, ?_, by rw [hz]⟩
  · constructor <;> omega
  · rw [if_neg (by omega), show ((k + 1 : Nat) : Int) = (k : Int) + 1 from by omega, ← he]
    unfold V8
    omega
theorem ref_step_6 {v n : Int} {w : World} {k t : Nat} {y0 y1 y2 y3 y4 y5 y6 y7 : Int} (n0 : 0 ≤ n) (hk : k < 128) (h : n ≤ (k : Int)) (ht : 127 - k = t + 16) (ht2 : t ≤ 15) (hr : R8 y0 y1 y2 y3 y4 y5 y6 y7) (hy : V8 y0 y1 y2 y3 y4 y5 y6 y7 = (if (k : Int) ≤ n then v else v - tailOf v n + tailOf v k)) :
    RefMaskRel v n w (.int .i64 ((k : Int) + 1)) ((w.alloc (.cells #[.int .u16 y0, .int .u16 y1, .int .u16 y2, .int .u16 y3, .int .u16 y4, .int .u16 y5, .int .u16 (bits .andNot .u16 y6 (IntKind.u16.wrap (2 ^ t))), .int .u16 y7] 30)).alloc (.cells #[.int .u16 0, .int .u16 0, .int .u16 0, .int .u16 0, .int .u16 0, .int .u16 0, .int .u16 0, .int .u16 0] 30)) := by
  have hR := hr
  obtain ⟨⟨_, _⟩, ⟨_, _⟩, ⟨_, _⟩, ⟨_, _⟩, ⟨_, _⟩, ⟨_, _⟩, ⟨_, _⟩, ⟨_, _⟩⟩ := hr
  obtain ⟨z, hz, z0, z1, he⟩ := piece_step (A := (((((y0 * 65536 + y1) * 65536 + y2) * 65536 + y3) * 65536 + y4) * 65536 + y5)) (x := y6) (lo := y7) (B := 65536) (t := t) n0 h hk (by assumption) (by assumption) ht2 (by rw [show 127 - k - t = 16 from by omega]; rfl) (by omega) (by omega) (by omega) (show V8 y0 y1 y2 y3 y4 y5 y6 y7 = _ from by unfold V8; omega) hy
  refine ⟨k + 1, y0, y1, y2, y3, y4, y5, z, y7, by omega, by simp, ?_, ?_, by rw [hz]⟩
  · constructor <;> omega
  · rw [if_neg (by omega), show ((k + 1 : Nat) : Int) = (k : Int) + 1 from by omega, ← he]
    unfold V8
    omega
theorem ref_step_7 {v n : Int} {w : World} {k t : Nat} {y0 y1 y2 y3 y4 y5 y6 y7 : Int} (n0 : 0 ≤ n) (hk : k < 128) (h : n ≤ (k : Int)) (ht : 127 - k = t + 0) (ht2 : t ≤ 15) (hr : R8 y0 y1 y2 y3 y4 y5 y6 y7) (hy : V8 y0 y1 y2 y3 y4 y5 y6 y7 = (if (k : Int) ≤ n then v else v - tailOf v n + tailOf v k)) :
    RefMaskRel v n w (.int .i64 ((k : Int) + 1)) ((w.alloc (.cells #[.int .u16 y0, .int .u16 y1, .int .u16 y2, .int .u16 y3, .int .u16 y4, .int .u16 y5, .int .u16 y6, .int .u16 (bits .andNot .u16 y7 (IntKind.u16.wrap (2 ^ t)))] 30)).alloc (.cells #[.int .u16 0, .int .u16 0, .int .u16 0, .int .u16 0, .int .u16 0, .int .u16 0, .int .u16 0, .int .u16 0] 30)) := by
  have hR := hr
  obtain ⟨⟨_, _⟩, ⟨_, _⟩, ⟨_, _⟩, ⟨_, _⟩, ⟨_, _⟩, ⟨_, _⟩, ⟨_, _⟩, ⟨_, _⟩⟩ := hr
  obtain ⟨z, hz, z0, z1, he⟩ := piece_step (A := ((((((y0 * 65536 + y1) * 65536 + y2) * 65536 + y3) * 65536 + y4) * 65536 + y5) * 65536 + y6)) (x := y7) (lo := 0) (B := 1) (t := t) n0 h hk (by assumption) (by assumption) ht2 (by rw [show 127 - k - t = 0 from by omega]; rfl) (by omega) (by omega) (by omega) (show V8 y0 y1 y2 y3 y4 y5 y6 y7 = _ from by unfold V8; omega) hy
  refine ⟨k + 1, y0, y1, y2, y3, y4, y5, y6, z, by omega, by simp, ?_, ?_, by rw [hz]⟩
  · constructor <;> omega
  · rw [if_neg (by omega), show ((k + 1 : Nat) : Int) = (k : Int) + 1 from by omega, ← he]
    unfold V8
    omega
set_option maxHeartbeats 1000000 in
set_option maxRecDepth 100000 in
theorem refMask_walk (x0 x1 x2 x3 x4 x5 x6 x7 : Int) (h : R8 x0 x1 x2 x3 x4 x5 x6 x7) (n : Int) (n0 : 0 ≤ n) (n1 : n ≤ 128) (w : World) :
    Calls Tryz.prog 27 #[A8 x0 x1 x2 x3 x4 x5 x6 x7, .int .i64 n] w (MaskPost (V8 x0 x1 x2 x3 x4 x5 x6 x7) n w) := by
  obtain ⟨v, hv⟩ : ∃ v, v = V8 x0 x1 x2 x3 x4 x5 x6 x7 := ⟨_, rfl⟩
  rw [← hv]
  go_enter Tryz.func27, Tryz.ntmps27
  go_wp2
  go_loopw [6] (fun i W => RefMaskRel v n w i W) (fun i _ => 128 - (intOf i).toNat)
  case atStart => exact ⟨0, x0, x1, x2, x3, x4, x5, x6, x7, by omega, rfl, h, by rw [if_pos (by simpa using n0), hv], rfl⟩
  case round =>
    obtain ⟨k, y0, y1, y2, y3, y4, y5, y6, y7, hk, rfl, hr, hy, rfl⟩ := hrel
    have HY := Lib.hid hy
    have HV := Lib.hid hv
    have HR := Lib.hid hr
    clear hy hv hr h
    by_cases hlt : k < 128
    · have hj : k / 16 = 0 ∨ k / 16 = 1 ∨ k / 16 = 2 ∨ k / 16 = 3 ∨ k / 16 = 4 ∨ k / 16 = 5 ∨ k / 16 = 6 ∨ k / 16 = 7 := by omega
      rcases hj with hj | hj | hj | hj | hj | hj | hj | hj
      · have hq : (k : Int) / 16 = 0 := by omega
        go_wp2
        · exact ⟨ref_step_0 n0 hlt (by assumption) (by omega) (by omega) HR.out HY.out, ref_meas hlt⟩
        · exact ⟨ref_none hlt (by assumption) HR.out HY.out, ref_meas hlt⟩
      · have hq : (k : Int) / 16 = 1 := by omega
        go_wp2
        · exact ⟨ref_step_1 n0 hlt (by assumption) (by omega) (by omega) HR.out HY.out, ref_meas hlt⟩
        · exact ⟨ref_none hlt (by assumption) HR.out HY.out, ref_meas hlt⟩
      · have hq : (k : Int) / 16 = 2 := by omega
        go_wp2
        · exact ⟨ref_step_2 n0 hlt (by assumption) (by omega) (by omega) HR.out HY.out, ref_meas hlt⟩
        · exact ⟨ref_none hlt (by assumption) HR.out HY.out, ref_meas hlt⟩
      · have hq : (k : Int) / 16 = 3 := by omega
        go_wp2
        · exact ⟨ref_step_3 n0 hlt (by assumption) (by omega) (by omega) HR.out HY.out, ref_meas hlt⟩
        · exact ⟨ref_none hlt (by assumption) HR.out HY.out, ref_meas hlt⟩
      · have hq : (k : Int) / 16 = 4 := by omega
        go_wp2
        · exact ⟨ref_step_4 n0 hlt (by assumption) (by omega) (by omega) HR.out HY.out, ref_meas hlt⟩
        · exact ⟨ref_none hlt (by assumption) HR.out HY.out, ref_meas hlt⟩
      · have hq : (k : Int) / 16 = 5 := by omega
        go_wp2
        · exact ⟨ref_step_5 n0 hlt (by assumption) (by omega) (by omega) HR.out HY.out, ref_meas hlt⟩
        · exact ⟨ref_none hlt (by assumption) HR.out HY.out, ref_meas hlt⟩
      · have hq : (k : Int) / 16 = 6 := by omega
        go_wp2
        · exact ⟨ref_step_6 n0 hlt (by assumption) (by omega) (by omega) HR.out HY.out, ref_meas hlt⟩
        · exact ⟨ref_none hlt (by assumption) HR.out HY.out, ref_meas hlt⟩
      · have hq : (k : Int) / 16 = 7 := by omega
        go_wp2
        · exact ⟨ref_step_7 n0 hlt (by assumption) (by omega) (by omega) HR.out HY.out, ref_meas hlt⟩
        · exact ⟨ref_none hlt (by assumption) HR.out HY.out, ref_meas hlt⟩
    · obtain rfl : k = 128 := by omega
      go_wp2
      go_returns
      refine mask_ret HR.out ?_ (by go_grown)
      have he := HY.out
      have ht : tailOf v (128 : Nat) = 0 := by unfold tailOf; rw [show (128 - ((128 : Nat) : Int)).toNat = 0 from by decide]; omega
      rw [ht] at he
      rw [he]
      split
      · have : n = (128 : Nat) := by omega
        subst this
        rw [ht]; omega
      · omega
end Go.Proofs.YtcgdjnmfeibnoaaGreatDoor
/-! SixAll -/
namespace Go.Proofs.YtcgdjnmfeibnoaaGreatDoor
open Go.RowKit
set_option linter.unusedVariables false
set_option linter.unusedSimpArgs false
def maskE (n : Int) : Int := if 0 ≤ n ∧ n ≤ 128 then 0 else 211
def maskV (v n : Int) : Int := if 0 ≤ n ∧ n ≤ 128 then v - tailOf v n else 0
/-- What Mask answers, of any bits. -/
def MaskAll (v n : Int) (w : World) (e : Ending) (w' : World) : Prop :=
  ∃ y0 y1 y2 y3 y4 y5 y6 y7 : Int, e = .returned (.tuple #[A8 y0 y1 y2 y3 y4 y5 y6 y7, .int .i64 (maskE n)]) ∧ R8 y0 y1 y2 y3 y4 y5 y6 y7 ∧
    V8 y0 y1 y2 y3 y4 y5 y6 y7 = maskV v n ∧ Below w.heap.size w w'
theorem R8_zero : R8 0 0 0 0 0 0 0 0 := ⟨by decide, by decide, by decide, by decide, by decide, by decide, by decide, by decide⟩
theorem mask_in_all {v n : Int} {w : World} {e : Ending} {w' : World} (n0 : 0 ≤ n) (n1 : n ≤ 128) (h : MaskPost v n w e w') : MaskAll v n w e w' := by
  obtain ⟨y0, y1, y2, y3, y4, y5, y6, y7, he, hr, hv, hb⟩ := h
  exact ⟨y0, y1, y2, y3, y4, y5, y6, y7, by rw [he, maskE, if_pos ⟨n0, n1⟩], hr, by rw [hv, maskV, if_pos ⟨n0, n1⟩], hb⟩
theorem mask_out_all {v n : Int} {w : World} {e : Ending} {w' : World} (hn : ¬ (0 ≤ n ∧ n ≤ 128)) (h : e = .returned (.tuple #[A8 0 0 0 0 0 0 0 0, .int .i64 211]) ∧ Below w.heap.size w w') : MaskAll v n w e w' :=
  ⟨0, 0, 0, 0, 0, 0, 0, 0, by rw [h.1, maskE, if_neg hn], R8_zero, by rw [maskV, if_neg hn]; rfl, h.2⟩
theorem mask_all (x0 x1 x2 x3 x4 x5 x6 x7 : Int) (h : R8 x0 x1 x2 x3 x4 x5 x6 x7) (n : Int) (w : World) :
    Calls Tryz.prog 39 #[A8 x0 x1 x2 x3 x4 x5 x6 x7, .int .i64 n] w (MaskAll (V8 x0 x1 x2 x3 x4 x5 x6 x7) n w) := by
  by_cases h0 : n < 0
  · exact (mask_less _ _ _ _ _ _ _ _ n h0 w).mono fun e w' hh => mask_out_all (by omega) hh
  by_cases h1 : 128 < n
  · exact (mask_more _ _ _ _ _ _ _ _ n h1 w).mono fun e w' hh => mask_out_all (by omega) hh
  · exact (mask_walk _ _ _ _ _ _ _ _ h n (by omega) (by omega) w).mono fun e w' hh => mask_in_all (by omega) (by omega) hh
set_option maxHeartbeats 1000000 in
set_option maxRecDepth 100000 in
theorem refMask_less (x0 x1 x2 x3 x4 x5 x6 x7 : Int) (n : Int) (n0 : n < 0) (w : World) :
    Calls Tryz.prog 27 #[A8 x0 x1 x2 x3 x4 x5 x6 x7, .int .i64 n] w fun e w' => e = .returned (.tuple #[A8 0 0 0 0 0 0 0 0, .int .i64 211]) ∧ Below w.heap.size w w' := by
  go_enter Tryz.func27, Tryz.ntmps27
  go_wp2
  go_returns
  exact ⟨rfl, by go_grown⟩
set_option maxHeartbeats 1000000 in
set_option maxRecDepth 100000 in
theorem refMask_more (x0 x1 x2 x3 x4 x5 x6 x7 : Int) (n : Int) (n0 : 128 < n) (w : World) :
    Calls Tryz.prog 27 #[A8 x0 x1 x2 x3 x4 x5 x6 x7, .int .i64 n] w fun e w' => e = .returned (.tuple #[A8 0 0 0 0 0 0 0 0, .int .i64 211]) ∧ Below w.heap.size w w' := by
  go_enter Tryz.func27, Tryz.ntmps27
  go_wp2
  go_returns
  exact ⟨rfl, by go_grown⟩
theorem refMask_all (x0 x1 x2 x3 x4 x5 x6 x7 : Int) (h : R8 x0 x1 x2 x3 x4 x5 x6 x7) (n : Int) (w : World) :
    Calls Tryz.prog 27 #[A8 x0 x1 x2 x3 x4 x5 x6 x7, .int .i64 n] w (MaskAll (V8 x0 x1 x2 x3 x4 x5 x6 x7) n w) := by
  by_cases h0 : n < 0
  · exact (refMask_less _ _ _ _ _ _ _ _ n h0 w).mono fun e w' hh => mask_out_all (by omega) hh
  by_cases h1 : 128 < n
  · exact (refMask_more _ _ _ _ _ _ _ _ n h1 w).mono fun e w' hh => mask_out_all (by omega) hh
  · exact (refMask_walk _ _ _ _ _ _ _ _ h n (by omega) (by omega) w).mono fun e w' hh => mask_in_all (by omega) (by omega) hh
end Go.Proofs.YtcgdjnmfeibnoaaGreatDoor
/-! SixRefLast -/
namespace Go.Proofs.YtcgdjnmfeibnoaaGreatDoor
open Go.RowKit
set_option linter.unusedVariables false
set_option linter.unusedSimpArgs false
theorem nat_or_bit (a t : Nat) (h : a / 2 ^ t % 2 = 0) : a ||| 2 ^ t = a + 2 ^ t := by
  have hq : 0 < 2 ^ t := Nat.two_pow_pos t
  have e1 := Nat.div_add_mod a (2 ^ (t + 1))
  have hr : a % 2 ^ (t + 1) < 2 ^ t := by
    rw [Nat.pow_succ, Nat.mod_mul, h]
    have := Nat.mod_lt a hq
    omega
  rw [← e1, ← nat_join (t + 1) _ (a % 2 ^ (t + 1)) (Nat.mul_mod_right _ _) (Nat.mod_lt _ (Nat.two_pow_pos _)), Nat.or_assoc, Nat.or_comm (a % 2 ^ (t + 1)) (2 ^ t),
    nat_join t (2 ^ t) _ (Nat.mod_self _) hr, nat_join (t + 1) _ _ (Nat.mul_mod_right _ _) (by have hs : 2 ^ (t + 1) = 2 ^ t * 2 := Nat.pow_succ ..; omega), nat_join (t + 1) _ (a % 2 ^ (t + 1)) (Nat.mul_mod_right _ _) (Nat.mod_lt _ (Nat.two_pow_pos _))]
  omega
theorem or_bit (x : Int) (t : Nat) (h0 : 0 ≤ x) (h1 : x ≤ 65535) (ht : t ≤ 15) (hb : x / 2 ^ t % 2 = 0) : bits .or .u16 x (IntKind.u16.wrap (2 ^ t)) = x + 2 ^ t := by
  have hp := pow_pos2 t
  have hl : (2 : Int) ^ t ≤ 32768 := by
    have := Nat.pow_le_pow_right (n := 2) (by omega) (show t ≤ 15 by omega)
    have h : ((2 ^ t : Nat) : Int) ≤ ((2 ^ 15 : Nat) : Int) := by exact_mod_cast this
    simpa using h
  rw [IntKind.wrap_u16, show (2 : Int) ^ t % 65536 = 2 ^ t from by omega, u16_or _ _ h0 (by omega) (by omega) (by omega)]
  obtain ⟨a, rfl⟩ := Int.eq_ofNat_of_zero_le h0
  have e : (2 : Int) ^ t = ((2 ^ t : Nat) : Int) := by simp
  rw [e] at hb ⊢
  rw [Int.toNat_natCast, Int.toNat_natCast, nat_or_bit a t (by exact_mod_cast hb)]
  omega
/-- The step of one bit. -/
theorem piece_or {v n A x lo B Y : Int} {k t : Nat} (n0 : 0 ≤ n) (hn : n ≤ k) (hk : k < 128) (hx0 : 0 ≤ x) (hx1 : x ≤ 65535) (ht : t ≤ 15) (hB : B = 2 ^ (127 - k - t)) (htk : t ≤ 127 - k) (h0 : 0 ≤ lo) (h1 : lo < B)
    (hY : Y = (A * 65536 + x) * B + lo) (hv : Y = v + (2 ^ (128 - n).toNat - 2 ^ (128 - k))) (hz : v % 2 ^ (128 - n).toNat = 0) :
    ∃ x', bits .or .u16 x (IntKind.u16.wrap (2 ^ t)) = x' ∧ 0 ≤ x' ∧ x' ≤ 65535 ∧ (A * 65536 + x') * B + lo = v + (2 ^ (128 - n).toNat - 2 ^ (128 - (k + 1))) := by
  have hp := pow_pos2 t
  have hpB : 0 < B := by rw [hB]; exact pow_pos2 _
  have hPB : (2 : Int) ^ (127 - k) = 2 ^ t * B := by rw [hB, ← pow_add2, show t + (127 - k - t) = 127 - k from by omega]
  have hP2 : (2 : Int) ^ (128 - k) = 2 * 2 ^ (127 - k) := by rw [show 128 - k = (127 - k) + 1 from by omega, Int.pow_succ]; omega
  have hdiv : Y % 2 ^ (128 - k) = 0 := by
    obtain ⟨d, hd⟩ : ∃ d, (128 - n).toNat = (128 - k) + d := ⟨(128 - n).toNat - (128 - k), by omega⟩
    rw [hd, pow_add2] at hz hv
    have e := Int.mul_ediv_add_emod v (2 ^ (128 - k) * 2 ^ d)
    rw [hz, Int.add_zero] at e
    rw [hv, ← e]
    have : 2 ^ (128 - k) * 2 ^ d * (v / (2 ^ (128 - k) * 2 ^ d)) + (2 ^ (128 - k) * 2 ^ d - 2 ^ (128 - k)) = (2 ^ (128 - k) : Int) * (2 ^ d * (v / (2 ^ (128 - k) * 2 ^ d)) + 2 ^ d - 1) := by
      rw [Int.mul_sub, Int.mul_add, Int.mul_one, ← Int.mul_assoc]
      omega
    rw [this]
    exact Int.mul_emod_right _ _
  have hb : x / 2 ^ t % 2 = 0 := by
    rw [← bit_mid A x lo B t ht hpB h0 h1, ← hY, ← hPB]
    rw [hP2] at hdiv
    have e := Int.mul_ediv_add_emod Y (2 * 2 ^ (127 - k))
    rw [hdiv, Int.add_zero, Int.mul_comm 2 (2 ^ (127 - k)), Int.mul_assoc] at e
    rw [← e, Int.mul_ediv_cancel_left _ (by have := pow_pos2 (127 - k); omega)]
    exact Int.mul_emod_right _ _
  rw [or_bit x t hx0 hx1 ht hb]
  have hle : x + 2 ^ t ≤ 65535 := by
    have e : (65536 : Int) = 2 * 2 ^ t * 2 ^ (15 - t) := by
      rw [Int.mul_assoc, ← pow_add2, show t + (15 - t) = 15 from by omega]; rfl
    have e2 := Int.mul_ediv_add_emod x (2 ^ t)
    have e3 := Int.emod_lt_of_pos x hp
    have hq := pow_pos2 (15 - t)
    have e4 : x / 2 ^ t = 2 * (x / 2 ^ t / 2) := by omega
    generalize x / 2 ^ t / 2 = q at *
    rw [e4] at e2
    have e5 : q < 2 ^ (15 - t) := by
      apply Int.lt_of_mul_lt_mul_left (a := 2 * 2 ^ t) _ (by omega)
      rw [← e]
      have : 2 ^ t * (2 * q) = 2 * 2 ^ t * q := by ac_rfl
      have := Int.emod_nonneg x (show (2 : Int) ^ t ≠ 0 by omega)
      omega
    have e6 := Int.mul_le_mul_of_nonneg_left (show q + 1 ≤ 2 ^ (15 - t) by omega) (show (0 : Int) ≤ 2 * 2 ^ t by omega)
    rw [← e, Int.mul_add, Int.mul_one] at e6
    have : 2 ^ t * (2 * q) = 2 * 2 ^ t * q := by ac_rfl
    omega
  refine ⟨_, rfl, by omega, hle, ?_⟩
  rw [show 128 - (k + 1) = 127 - k from by omega]
  have e : (A * 65536 + (x + 2 ^ t)) * B + lo = (A * 65536 + x) * B + lo + 2 ^ t * B := by
    rw [← Int.add_assoc, Int.add_mul _ (2 ^ t) B]; omega
  rw [e, ← hY, hv, ← hPB, hP2]
  omega
/-- What stands at the head of a round of Last. -/
def LastRel (v n : Int) (x0 x1 x2 x3 x4 x5 x6 x7 : Int) (w : World) (i : Value) (W : World) : Prop :=
  ∃ (k : Nat) (y0 y1 y2 y3 y4 y5 y6 y7 : Int), n ≤ k ∧ k ≤ 128 ∧ i = .int .i64 k ∧ R8 y0 y1 y2 y3 y4 y5 y6 y7 ∧ V8 y0 y1 y2 y3 y4 y5 y6 y7 = v + (2 ^ (128 - n).toNat - 2 ^ (128 - k)) ∧ W = ((w.alloc (.cells #[.int .u16 x0, .int .u16 x1, .int .u16 x2, .int .u16 x3, .int .u16 x4, .int .u16 x5, .int .u16 x6, .int .u16 x7, .int .i64 n] 32)).alloc (.cells #[.int .u16 0, .int .u16 0, .int .u16 0, .int .u16 0, .int .u16 0, .int .u16 0, .int .u16 0, .int .u16 0] 30)).alloc (.cells #[.int .u16 y0, .int .u16 y1, .int .u16 y2, .int .u16 y3, .int .u16 y4, .int .u16 y5, .int .u16 y6, .int .u16 y7] 30)
theorem last_step_0 {v n : Int} {w : World} {k t : Nat} {x0 x1 x2 x3 x4 x5 x6 x7 y0 y1 y2 y3 y4 y5 y6 y7 : Int} (n0 : 0 ≤ n) (hk : k < 128) (h : n ≤ (k : Int)) (ht : 127 - k = t + 112) (ht2 : t ≤ 15) (hr : R8 y0 y1 y2 y3 y4 y5 y6 y7) (hz : v % 2 ^ (128 - n).toNat = 0) (hy : V8 y0 y1 y2 y3 y4 y5 y6 y7 = v + (2 ^ (128 - n).toNat - 2 ^ (128 - k))) :
    LastRel v n x0 x1 x2 x3 x4 x5 x6 x7 w (.int .i64 ((k : Int) + 1)) (((w.alloc (.cells #[.int .u16 x0, .int .u16 x1, .int .u16 x2, .int .u16 x3, .int .u16 x4, .int .u16 x5, .int .u16 x6, .int .u16 x7, .int .i64 n] 32)).alloc (.cells #[.int .u16 0, .int .u16 0, .int .u16 0, .int .u16 0, .int .u16 0, .int .u16 0, .int .u16 0, .int .u16 0] 30)).alloc (.cells #[.int .u16 (bits .or .u16 y0 (IntKind.u16.wrap (2 ^ t))), .int .u16 y1, .int .u16 y2, .int .u16 y3, .int .u16 y4, .int .u16 y5, .int .u16 y6, .int .u16 y7] 30)) := by
  have hR := hr
  obtain ⟨⟨_, _⟩, ⟨_, _⟩, ⟨_, _⟩, ⟨_, _⟩, ⟨_, _⟩, ⟨_, _⟩, ⟨_, _⟩, ⟨_, _⟩⟩ := hr
  obtain ⟨z, hz1, z0, z1, he⟩ := piece_or (A := 0) (x := y0) (lo := ((((((y1 * 65536 + y2) * 65536 + y3) * 65536 + y4) * 65536 + y5) * 65536 + y6) * 65536 + y7)) (B := 5192296858534827628530496329220096) (t := t) n0 h hk (by assumption) (by assumption) ht2 (by rw [show 127 - k - t = 112 from by omega]; rfl) (by omega) (by omega) (by omega) (show V8 y0 y1 y2 y3 y4 y5 y6 y7 = _ from by unfold V8; omega) hy hz
  refine ⟨k + 1, z, y1, y2, y3, y4, y5, y6, y7, by omega, by omega, by simp, ?_, ?_, by rw [hz1]⟩
  · constructor <;> omega
  · rw [← he]
    unfold V8
    omega
theorem last_step_1 {v n : Int} {w : World} {k t : Nat} {x0 x1 x2 x3 x4 x5 x6 x7 y0 y1 y2 y3 y4 y5 y6 y7 : Int} (n0 : 0 ≤ n) (hk : k < 128) (h : n ≤ (k : Int)) (ht : 127 - k = t + 96) (ht2 : t ≤ 15) (hr : R8 y0 y1 y2 y3 y4 y5 y6 y7) (hz : v % 2 ^ (128 - n).toNat = 0) (hy : V8 y0 y1 y2 y3 y4 y5 y6 y7 = v + (2 ^ (128 - n).toNat - 2 ^ (128 - k))) :
    LastRel v n x0 x1 x2 x3 x4 x5 x6 x7 w (.int .i64 ((k : Int) + 1)) (((w.alloc (.cells #[.int .u16 x0, .int .u16 x1, .int .u16 x2, .int .u16 x3, .int .u16 x4, .int .u16 x5, .int .u16 x6, .int .u16 x7, .int .i64 n] 32)).alloc (.cells #[.int .u16 0, .int .u16 0, .int .u16 0, .int .u16 0, .int .u16 0, .int .u16 0, .int .u16 0, .int .u16 0] 30)).alloc (.cells #[.int .u16 y0, .int .u16 (bits .or .u16 y1 (IntKind.u16.wrap (2 ^ t))), .int .u16 y2, .int .u16 y3, .int .u16 y4, .int .u16 y5, .int .u16 y6, .int .u16 y7] 30)) := by
  have hR := hr
  obtain ⟨⟨_, _⟩, ⟨_, _⟩, ⟨_, _⟩, ⟨_, _⟩, ⟨_, _⟩, ⟨_, _⟩, ⟨_, _⟩, ⟨_, _⟩⟩ := hr
  obtain ⟨z, hz1, z0, z1, he⟩ := piece_or (A := y0) (x := y1) (lo := (((((y2 * 65536 + y3) * 65536 + y4) * 65536 + y5) * 65536 + y6) * 65536 + y7)) (B := 79228162514264337593543950336) (t := t) n0 h hk (by assumption) (by assumption) ht2 (by rw [show 127 - k - t = 96 from by omega]; rfl) (by omega) (by omega) (by omega) (show V8 y0 y1 y2 y3 y4 y5 y6 y7 = _ from by unfold V8; omega) hy hz
  refine ⟨k + 1, y0, z, y2, y3, y4, y5, y6, y7, by omega, by omega, by simp, ?_, ?_, by rw [hz1]⟩
  · constructor <;> omega
  · rw [← he]
    unfold V8
    omega
theorem last_step_2 {v n : Int} {w : World} {k t : Nat} {x0 x1 x2 x3 x4 x5 x6 x7 y0 y1 y2 y3 y4 y5 y6 y7 : Int} (n0 : 0 ≤ n) (hk : k < 128) (h : n ≤ (k : Int)) (ht : 127 - k = t + 80) (ht2 : t ≤ 15) (hr : R8 y0 y1 y2 y3 y4 y5 y6 y7) (hz : v % 2 ^ (128 - n).toNat = 0) (hy : V8 y0 y1 y2 y3 y4 y5 y6 y7 = v + (2 ^ (128 - n).toNat - 2 ^ (128 - k))) :
    LastRel v n x0 x1 x2 x3 x4 x5 x6 x7 w (.int .i64 ((k : Int) + 1)) (((w.alloc (.cells #[.int .u16 x0, .int .u16 x1, .int .u16 x2, .int .u16 x3, .int .u16 x4, .int .u16 x5, .int .u16 x6, .int .u16 x7, .int .i64 n] 32)).alloc (.cells #[.int .u16 0, .int .u16 0, .int .u16 0, .int .u16 0, .int .u16 0, .int .u16 0, .int .u16 0, .int .u16 0] 30)).alloc (.cells #[.int .u16 y0, .int .u16 y1, .int .u16 (bits .or .u16 y2 (IntKind.u16.wrap (2 ^ t))), .int .u16 y3, .int .u16 y4, .int .u16 y5, .int .u16 y6, .int .u16 y7] 30)) := by
  have hR := hr
  obtain ⟨⟨_, _⟩, ⟨_, _⟩, ⟨_, _⟩, ⟨_, _⟩, ⟨_, _⟩, ⟨_, _⟩, ⟨_, _⟩, ⟨_, _⟩⟩ := hr
  obtain ⟨z, hz1, z0, z1, he⟩ := piece_or (A := (y0 * 65536 + y1)) (x := y2) (lo := ((((y3 * 65536 + y4) * 65536 + y5) * 65536 + y6) * 65536 + y7)) (B := 1208925819614629174706176) (t := t) n0 h hk (by assumption) (by assumption) ht2 (by rw [show 127 - k - t = 80 from by omega]; rfl) (by omega) (by omega) (by omega) (show V8 y0 y1 y2 y3 y4 y5 y6 y7 = _ from by unfold V8; omega) hy hz
  refine ⟨k + 1, y0, y1, z, y3, y4, y5, y6, y7, by omega, by omega, by simp, ?_, ?_, by rw [hz1]⟩
  · constructor <;> omega
  · rw [← he]
    unfold V8
    omega
theorem last_step_3 {v n : Int} {w : World} {k t : Nat} {x0 x1 x2 x3 x4 x5 x6 x7 y0 y1 y2 y3 y4 y5 y6 y7 : Int} (n0 : 0 ≤ n) (hk : k < 128) (h : n ≤ (k : Int)) (ht : 127 - k = t + 64) (ht2 : t ≤ 15) (hr : R8 y0 y1 y2 y3 y4 y5 y6 y7) (hz : v % 2 ^ (128 - n).toNat = 0) (hy : V8 y0 y1 y2 y3 y4 y5 y6 y7 = v + (2 ^ (128 - n).toNat - 2 ^ (128 - k))) :
    LastRel v n x0 x1 x2 x3 x4 x5 x6 x7 w (.int .i64 ((k : Int) + 1)) (((w.alloc (.cells #[.int .u16 x0, .int .u16 x1, .int .u16 x2, .int .u16 x3, .int .u16 x4, .int .u16 x5, .int .u16 x6, .int .u16 x7, .int .i64 n] 32)).alloc (.cells #[.int .u16 0, .int .u16 0, .int .u16 0, .int .u16 0, .int .u16 0, .int .u16 0, .int .u16 0, .int .u16 0] 30)).alloc (.cells #[.int .u16 y0, .int .u16 y1, .int .u16 y2, .int .u16 (bits .or .u16 y3 (IntKind.u16.wrap (2 ^ t))), .int .u16 y4, .int .u16 y5, .int .u16 y6, .int .u16 y7] 30)) := by
  have hR := hr
  obtain ⟨⟨_, _⟩, ⟨_, _⟩, ⟨_, _⟩, ⟨_, _⟩, ⟨_, _⟩, ⟨_, _⟩, ⟨_, _⟩, ⟨_, _⟩⟩ := hr
  obtain ⟨z, hz1, z0, z1, he⟩ := piece_or (A := ((y0 * 65536 + y1) * 65536 + y2)) (x := y3) (lo := (((y4 * 65536 + y5) * 65536 + y6) * 65536 + y7)) (B := 18446744073709551616) (t := t) n0 h hk (by assumption) (by assumption) ht2 (by rw [show 127 - k - t = 64 from by omega]; rfl) (by omega) (by omega) (by omega) (show V8 y0 y1 y2 y3 y4 y5 y6 y7 = _ from by unfold V8; omega) hy hz
  refine ⟨k + 1, y0, y1, y2, z, y4, y5, y6, y7, by omega, by omega, by simp, ?_, ?_, by rw [hz1]⟩
  · constructor <;> omega
  · rw [← he]
    unfold V8
    omega
theorem last_step_4 {v n : Int} {w : World} {k t : Nat} {x0 x1 x2 x3 x4 x5 x6 x7 y0 y1 y2 y3 y4 y5 y6 y7 : Int} (n0 : 0 ≤ n) (hk : k < 128) (h : n ≤ (k : Int)) (ht : 127 - k = t + 48) (ht2 : t ≤ 15) (hr : R8 y0 y1 y2 y3 y4 y5 y6 y7) (hz : v % 2 ^ (128 - n).toNat = 0) (hy : V8 y0 y1 y2 y3 y4 y5 y6 y7 = v + (2 ^ (128 - n).toNat - 2 ^ (128 - k))) :
    LastRel v n x0 x1 x2 x3 x4 x5 x6 x7 w (.int .i64 ((k : Int) + 1)) (((w.alloc (.cells #[.int .u16 x0, .int .u16 x1, .int .u16 x2, .int .u16 x3, .int .u16 x4, .int .u16 x5, .int .u16 x6, .int .u16 x7, .int .i64 n] 32)).alloc (.cells #[.int .u16 0, .int .u16 0, .int .u16 0, .int .u16 0, .int .u16 0, .int .u16 0, .int .u16 0, .int .u16 0] 30)).alloc (.cells #[.int .u16 y0, .int .u16 y1, .int .u16 y2, .int .u16 y3, .int .u16 (bits .or .u16 y4 (IntKind.u16.wrap (2 ^ t))), .int .u16 y5, .int .u16 y6, .int .u16 y7] 30)) := by
  have hR := hr
  obtain ⟨⟨_, _⟩, ⟨_, _⟩, ⟨_, _⟩, ⟨_, _⟩, ⟨_, _⟩, ⟨_, _⟩, ⟨_, _⟩, ⟨_, _⟩⟩ := hr
  obtain ⟨z, hz1, z0, z1, he⟩ := piece_or (A := (((y0 * 65536 + y1) * 65536 + y2) * 65536 + y3)) (x := y4) (lo := ((y5 * 65536 + y6) * 65536 + y7)) (B := 281474976710656) (t := t) n0 h hk (by assumption) (by assumption) ht2 (by rw [show 127 - k - t = 48 from by omega]; rfl) (by omega) (by omega) (by omega) (show V8 y0 y1 y2 y3 y4 y5 y6 y7 = _ from by unfold V8; omega) hy hz
  refine ⟨k + 1, y0, y1, y2, y3, z, y5, y6, y7, by omega, by omega, by simp, ?_, ?_, by rw [hz1]⟩
  · constructor <;> omega
  · rw [← he]
    unfold V8
    omega
theorem last_step_5 {v n : Int} {w : World} {k t : Nat} {x0 x1 x2 x3 x4 x5 x6 x7 y0 y1 y2 y3 y4 y5 y6 y7 : Int} (n0 : 0 ≤ n) (hk : k < 128) (h : n ≤ (k : Int)) (ht : 127 - k = t + 32) (ht2 : t ≤ 15) (hr : R8 y0 y1 y2 y3 y4 y5 y6 y7) (hz : v % 2 ^ (128 - n).toNat = 0) (hy : V8 y0 y1 y2 y3 y4 y5 y6 y7 = v + (2 ^ (128 - n).toNat - 2 ^ (128 - k))) :
    LastRel v n x0 x1 x2 x3 x4 x5 x6 x7 w (.int .i64 ((k : Int) + 1)) (((w.alloc (.cells #[.int .u16 x0, .int .u16 x1, .int .u16 x2, .int .u16 x3, .int .u16 x4, .int .u16 x5, .int .u16 x6, .int .u16 x7, .int .i64 n] 32)).alloc (.cells #[.int .u16 0, .int .u16 0, .int .u16 0, .int .u16 0, .int .u16 0, .int .u16 0, .int .u16 0, .int .u16 0] 30)).alloc (.cells #[.int .u16 y0, .int .u16 y1, .int .u16 y2, .int .u16 y3, .int .u16 y4, .int .u16 (bits .or .u16 y5 (IntKind.u16.wrap (2 ^ t))), .int .u16 y6, .int .u16 y7] 30)) := by
  have hR := hr
  obtain ⟨⟨_, _⟩, ⟨_, _⟩, ⟨_, _⟩, ⟨_, _⟩, ⟨_, _⟩, ⟨_, _⟩, ⟨_, _⟩, ⟨_, _⟩⟩ := hr
  obtain ⟨z, hz1, z0, z1, he⟩ := piece_or (A := ((((y0 * 65536 + y1) * 65536 + y2) * 65536 + y3) * 65536 + y4)) (x := y5) (lo := (y6 * 65536 + y7)) (B := 4294967296) (t := t) n0 h hk (by assumption) (by assumption) ht2 (by rw [show 127 - k - t = 32 from by omega]; rfl) (by omega) (by omega) (by omega) (show V8 y0 y1 y2 y3 y4 y5 y6 y7 = _ from by unfold V8; omega) hy hz
  refine ⟨k + 1, y0, y1, y2, y3, y4, z, y6, y7, by omega, by omega, by simp, ?_, ?_, by rw [hz1]⟩
  · constructor <;> omega
  · rw [← he]
    unfold V8
    omega
theorem last_step_6 {v n : Int} {w : World} {k t : Nat} {x0 x1 x2 x3 x4 x5 x6 x7 y0 y1 y2 y3 y4 y5 y6 y7 : Int} (n0 : 0 ≤ n) (hk : k < 128) (h : n ≤ (k : Int)) (ht : 127 - k = t + 16) (ht2 : t ≤ 15) (hr : R8 y0 y1 y2 y3 y4 y5 y6 y7) (hz : v % 2 ^ (128 - n).toNat = 0) (hy : V8 y0 y1 y2 y3 y4 y5 y6 y7 = v + (2 ^ (128 - n).toNat - 2 ^ (128 - k))) :
    LastRel v n x0 x1 x2 x3 x4 x5 x6 x7 w (.int .i64 ((k : Int) + 1)) (((w.alloc (.cells #[.int .u16 x0, .int .u16 x1, .int .u16 x2, .int .u16 x3, .int .u16 x4, .int .u16 x5, .int .u16 x6, .int .u16 x7, .int .i64 n] 32)).alloc (.cells #[.int .u16 0, .int .u16 0, .int .u16 0, .int .u16 0, .int .u16 0, .int .u16 0, .int .u16 0, .int .u16 0] 30)).alloc (.cells #[.int .u16 y0, .int .u16 y1, .int .u16 y2, .int .u16 y3, .int .u16 y4, .int .u16 y5, .int .u16 (bits .or .u16 y6 (IntKind.u16.wrap (2 ^ t))), .int .u16 y7] 30)) := by
  have hR := hr
  obtain ⟨⟨_, _⟩, ⟨_, _⟩, ⟨_, _⟩, ⟨_, _⟩, ⟨_, _⟩, ⟨_, _⟩, ⟨_, _⟩, ⟨_, _⟩⟩ := hr
  obtain ⟨z, hz1, z0, z1, he⟩ := piece_or (A := (((((y0 * 65536 + y1) * 65536 + y2) * 65536 + y3) * 65536 + y4) * 65536 + y5)) (x := y6) (lo := y7) (B := 65536) (t := t) n0 h hk (by assumption) (by assumption) ht2 (by rw [show 127 - k - t = 16 from by omega]; rfl) (by omega) (by omega) (by omega) (show V8 y0 y1 y2 y3 y4 y5 y6 y7 = _ from by unfold V8; omega) hy hz
  refine ⟨k + 1, y0, y1, y2, y3, y4, y5, z, y7, by omega, by omega, by simp, ?_, ?_, by rw [hz1]⟩
  · constructor <;> omega
  · rw [← he]
    unfold V8
    omega
theorem last_step_7 {v n : Int} {w : World} {k t : Nat} {x0 x1 x2 x3 x4 x5 x6 x7 y0 y1 y2 y3 y4 y5 y6 y7 : Int} (n0 : 0 ≤ n) (hk : k < 128) (h : n ≤ (k : Int)) (ht : 127 - k = t + 0) (ht2 : t ≤ 15) (hr : R8 y0 y1 y2 y3 y4 y5 y6 y7) (hz : v % 2 ^ (128 - n).toNat = 0) (hy : V8 y0 y1 y2 y3 y4 y5 y6 y7 = v + (2 ^ (128 - n).toNat - 2 ^ (128 - k))) :
    LastRel v n x0 x1 x2 x3 x4 x5 x6 x7 w (.int .i64 ((k : Int) + 1)) (((w.alloc (.cells #[.int .u16 x0, .int .u16 x1, .int .u16 x2, .int .u16 x3, .int .u16 x4, .int .u16 x5, .int .u16 x6, .int .u16 x7, .int .i64 n] 32)).alloc (.cells #[.int .u16 0, .int .u16 0, .int .u16 0, .int .u16 0, .int .u16 0, .int .u16 0, .int .u16 0, .int .u16 0] 30)).alloc (.cells #[.int .u16 y0, .int .u16 y1, .int .u16 y2, .int .u16 y3, .int .u16 y4, .int .u16 y5, .int .u16 y6, .int .u16 (bits .or .u16 y7 (IntKind.u16.wrap (2 ^ t)))] 30)) := by
  have hR := hr
  obtain ⟨⟨_, _⟩, ⟨_, _⟩, ⟨_, _⟩, ⟨_, _⟩, ⟨_, _⟩, ⟨_, _⟩, ⟨_, _⟩, ⟨_, _⟩⟩ := hr
  obtain ⟨z, hz1, z0, z1, he⟩ := piece_or (A := ((((((y0 * 65536 + y1) * 65536 + y2) * 65536 + y3) * 65536 + y4) * 65536 + y5) * 65536 + y6)) (x := y7) (lo := 0) (B := 1) (t := t) n0 h hk (by assumption) (by assumption) ht2 (by rw [show 127 - k - t = 0 from by omega]; rfl) (by omega) (by omega) (by omega) (show V8 y0 y1 y2 y3 y4 y5 y6 y7 = _ from by unfold V8; omega) hy hz
  refine ⟨k + 1, y0, y1, y2, y3, y4, y5, y6, z, by omega, by omega, by simp, ?_, ?_, by rw [hz1]⟩
  · constructor <;> omega
  · rw [← he]
    unfold V8
    omega
theorem last_meas {k : Nat} (h : k < 128) : 128 - (intOf (.int .i64 ((k : Int) + 1))).toNat < 128 - (intOf (.int .i64 (k : Int))).toNat := by simp [intOf]; omega
set_option maxHeartbeats 1000000 in
set_option maxRecDepth 100000 in
theorem refLast_walk (x0 x1 x2 x3 x4 x5 x6 x7 : Int) (h : R8 x0 x1 x2 x3 x4 x5 x6 x7) (n : Int) (n0 : 0 ≤ n) (n1 : n ≤ 128) (hz : V8 x0 x1 x2 x3 x4 x5 x6 x7 % 2 ^ (128 - n).toNat = 0) (w : World) :
    Calls Tryz.prog 15 #[.agg #[.int .u16 x0, .int .u16 x1, .int .u16 x2, .int .u16 x3, .int .u16 x4, .int .u16 x5, .int .u16 x6, .int .u16 x7, .int .i64 n]] w fun e w' => ∃ y0 y1 y2 y3 y4 y5 y6 y7 : Int, e = .returned (A8 y0 y1 y2 y3 y4 y5 y6 y7) ∧ R8 y0 y1 y2 y3 y4 y5 y6 y7 ∧ V8 y0 y1 y2 y3 y4 y5 y6 y7 = V8 x0 x1 x2 x3 x4 x5 x6 x7 + 2 ^ (128 - n).toNat - 1 ∧ Below w.heap.size w w' := by
  obtain ⟨v, hv⟩ : ∃ v, v = V8 x0 x1 x2 x3 x4 x5 x6 x7 := ⟨_, rfl⟩
  rw [← hv] at hz ⊢
  obtain ⟨m, rfl⟩ := Int.eq_ofNat_of_zero_le n0
  go_enter Tryz.func15, Tryz.ntmps15
  go_wp2_with fail
  go_loopw [4] (fun i W => LastRel v m x0 x1 x2 x3 x4 x5 x6 x7 w i W) (fun i _ => 128 - (intOf i).toNat)
  case atStart => exact ⟨m, x0, x1, x2, x3, x4, x5, x6, x7, by omega, by omega, rfl, h, by rw [← hv, show (128 - (m : Int)).toNat = 128 - m from by omega]; omega, rfl⟩
  case round =>
    obtain ⟨k, y0, y1, y2, y3, y4, y5, y6, y7, hn, hk, rfl, hr, hy, rfl⟩ := hrel
    have HY := Lib.hid hy
    have HV := Lib.hid hv
    have HR := Lib.hid hr
    have HZ := Lib.hid hz
    clear hy hv hr h hz
    by_cases hlt : k < 128
    · have hj : k / 16 = 0 ∨ k / 16 = 1 ∨ k / 16 = 2 ∨ k / 16 = 3 ∨ k / 16 = 4 ∨ k / 16 = 5 ∨ k / 16 = 6 ∨ k / 16 = 7 := by omega
      rcases hj with hj | hj | hj | hj | hj | hj | hj | hj
      · have hq : (k : Int) / 16 = 0 := by omega
        go_wp2
        exact ⟨last_step_0 n0 hlt hn (by omega) (by omega) HR.out HZ.out HY.out, last_meas hlt⟩
      · have hq : (k : Int) / 16 = 1 := by omega
        go_wp2
        exact ⟨last_step_1 n0 hlt hn (by omega) (by omega) HR.out HZ.out HY.out, last_meas hlt⟩
      · have hq : (k : Int) / 16 = 2 := by omega
        go_wp2
        exact ⟨last_step_2 n0 hlt hn (by omega) (by omega) HR.out HZ.out HY.out, last_meas hlt⟩
      · have hq : (k : Int) / 16 = 3 := by omega
        go_wp2
        exact ⟨last_step_3 n0 hlt hn (by omega) (by omega) HR.out HZ.out HY.out, last_meas hlt⟩
      · have hq : (k : Int) / 16 = 4 := by omega
        go_wp2
        exact ⟨last_step_4 n0 hlt hn (by omega) (by omega) HR.out HZ.out HY.out, last_meas hlt⟩
      · have hq : (k : Int) / 16 = 5 := by omega
        go_wp2
        exact ⟨last_step_5 n0 hlt hn (by omega) (by omega) HR.out HZ.out HY.out, last_meas hlt⟩
      · have hq : (k : Int) / 16 = 6 := by omega
        go_wp2
        exact ⟨last_step_6 n0 hlt hn (by omega) (by omega) HR.out HZ.out HY.out, last_meas hlt⟩
      · have hq : (k : Int) / 16 = 7 := by omega
        go_wp2
        exact ⟨last_step_7 n0 hlt hn (by omega) (by omega) HR.out HZ.out HY.out, last_meas hlt⟩
    · obtain rfl : k = 128 := by omega
      go_wp2
      go_returns
      refine ⟨_, _, _, _, _, _, _, _, rfl, HR.out, ?_, by go_grown⟩
      rw [HY.out]
      simp
      omega
end Go.Proofs.YtcgdjnmfeibnoaaGreatDoor
/-! SixCoverV -/
namespace Go.Proofs.YtcgdjnmfeibnoaaGreatDoor
open Go.RowKit
set_option linter.unusedVariables false
set_option linter.unusedSimpArgs false
/-- The pieces of a number. -/
def pc (i : Nat) (v : Int) : Int := v / 65536 ^ (7 - i) % 65536
theorem pc_range (i : Nat) (v : Int) : 0 ≤ pc i v ∧ pc i v ≤ 65535 := by unfold pc; omega
/-- A number of 128 bits. -/
def Wide (v : Int) : Prop := 0 ≤ v ∧ v < 340282366920938463463374607431768211456
theorem v8_wide {x0 x1 x2 x3 x4 x5 x6 x7 : Int} (h : R8 x0 x1 x2 x3 x4 x5 x6 x7) : Wide (V8 x0 x1 x2 x3 x4 x5 x6 x7) := by
  obtain ⟨⟨_, _⟩, ⟨_, _⟩, ⟨_, _⟩, ⟨_, _⟩, ⟨_, _⟩, ⟨_, _⟩, ⟨_, _⟩, ⟨_, _⟩⟩ := h
  unfold Wide V8
  omega
theorem pc_of {x0 x1 x2 x3 x4 x5 x6 x7 : Int} (h : R8 x0 x1 x2 x3 x4 x5 x6 x7) {v : Int} (hv : V8 x0 x1 x2 x3 x4 x5 x6 x7 = v) :
    x0 = pc 0 v ∧ x1 = pc 1 v ∧ x2 = pc 2 v ∧ x3 = pc 3 v ∧ x4 = pc 4 v ∧ x5 = pc 5 v ∧ x6 = pc 6 v ∧ x7 = pc 7 v := by
  obtain ⟨⟨_, _⟩, ⟨_, _⟩, ⟨_, _⟩, ⟨_, _⟩, ⟨_, _⟩, ⟨_, _⟩, ⟨_, _⟩, ⟨_, _⟩⟩ := h
  subst hv
  unfold V8 pc
  simp only [show (65536 : Int) ^ (7 - 0) = 5192296858534827628530496329220096 from by decide, show (65536 : Int) ^ (7 - 1) = 79228162514264337593543950336 from by decide, show (65536 : Int) ^ (7 - 2) = 1208925819614629174706176 from by decide,
    show (65536 : Int) ^ (7 - 3) = 18446744073709551616 from by decide, show (65536 : Int) ^ (7 - 4) = 281474976710656 from by decide, show (65536 : Int) ^ (7 - 5) = 4294967296 from by decide, show (65536 : Int) ^ (7 - 6) = 65536 from by decide, show (65536 : Int) ^ (7 - 7) = 1 from by decide]
  refine ⟨?_, ?_, ?_, ?_, ?_, ?_, ?_, ?_⟩ <;> omega
theorem pc_r8 (v : Int) : R8 (pc 0 v) (pc 1 v) (pc 2 v) (pc 3 v) (pc 4 v) (pc 5 v) (pc 6 v) (pc 7 v) :=
  ⟨pc_range _ _, pc_range _ _, pc_range _ _, pc_range _ _, pc_range _ _, pc_range _ _, pc_range _ _, pc_range _ _⟩
theorem pc_v8 {v : Int} (h : Wide v) : V8 (pc 0 v) (pc 1 v) (pc 2 v) (pc 3 v) (pc 4 v) (pc 5 v) (pc 6 v) (pc 7 v) = v := by
  obtain ⟨h0, h1⟩ := h
  unfold V8 pc
  simp only [show (65536 : Int) ^ (7 - 0) = 5192296858534827628530496329220096 from by decide, show (65536 : Int) ^ (7 - 1) = 79228162514264337593543950336 from by decide, show (65536 : Int) ^ (7 - 2) = 1208925819614629174706176 from by decide,
    show (65536 : Int) ^ (7 - 3) = 18446744073709551616 from by decide, show (65536 : Int) ^ (7 - 4) = 281474976710656 from by decide, show (65536 : Int) ^ (7 - 5) = 4294967296 from by decide, show (65536 : Int) ^ (7 - 6) = 65536 from by decide, show (65536 : Int) ^ (7 - 7) = 1 from by decide]
  omega
/-- A prefix of so many bits begins at f and does not go beyond t. -/
def OkKeep (f t : Int) (k : Nat) : Prop := f % 2 ^ (128 - k) = 0 ∧ f + 2 ^ (128 - k) - 1 ≤ t
instance (f t : Int) (k : Nat) : Decidable (OkKeep f t k) := inferInstanceAs (Decidable (_ ∧ _))
/-- The widest such prefix. -/
structure Keep (f t : Int) (k : Nat) : Prop where
  le : k ≤ 128
  ok : OkKeep f t k
  least : ∀ j, j < k → ¬ OkKeep f t j
theorem Keep.one {f t : Int} {j k : Nat} (h : Keep f t j) (g : Keep f t k) : j = k := by
  rcases Nat.lt_trichotomy j k with c | c | c
  · exact absurd h.ok (g.least j c)
  · exact c
  · exact absurd g.ok (h.least k c)
theorem pow_le_pow {a b : Nat} (h : a ≤ b) : (2 : Int) ^ a ≤ 2 ^ b := by
  have := Nat.pow_le_pow_right (n := 2) (by omega) h
  have h : ((2 ^ a : Nat) : Int) ≤ ((2 ^ b : Nat) : Int) := by exact_mod_cast this
  simpa using h
theorem pow_lt_pow {a b : Nat} (h : (2 : Int) ^ a < 2 ^ b) : a < b := by
  rcases Nat.lt_or_ge a b with c | c
  · exact c
  · have := pow_le_pow c; omega
theorem mod_less {f : Int} {a b : Nat} (h : a ≤ b) (hz : f % 2 ^ b = 0) : f % 2 ^ a = 0 := by
  obtain ⟨d, rfl⟩ : ∃ d, b = a + d := ⟨b - a, by omega⟩
  rw [pow_add2] at hz
  have e := Int.mul_ediv_add_emod f (2 ^ a * 2 ^ d)
  rw [hz, Int.add_zero, Int.mul_assoc] at e
  rw [← e]
  exact Int.mul_emod_right _ _
/-- How many prefixes there may be ahead of f: an invariant. -/
def Phase (k : Nat) (f t : Int) : Prop := (k ≤ 128 ∧ f % 2 ^ k = 0) ∨ ∃ m : Nat, m ≤ 128 ∧ t + 1 - f < 2 ^ m ∧ f % 2 ^ m = 0 ∧ k + m ≤ 257
theorem add_mod {f : Int} {s : Nat} (h : f % 2 ^ s = 0) : (f + 2 ^ s) % 2 ^ s = 0 := by simp [h]
theorem Phase.step {k q : Nat} {f t : Int} (h0 : 0 ≤ f) (ht : t < 340282366920938463463374607431768211456) (h : Phase k f t) (hq : Keep f t q) (hm : f + 2 ^ (128 - q) ≤ t) : Phase (k + 1) (f + 2 ^ (128 - q)) t := by
  obtain ⟨hqle, ⟨ho1, ho2⟩, hl⟩ := hq
  obtain ⟨s, hs⟩ : ∃ s, s = 128 - q := ⟨_, rfl⟩
  rw [← hs] at ho1 ho2 hm ⊢
  have hs1 : s ≤ 128 := by omega
  -- one bit more does not serve
  have hmax : s < 128 → f % 2 ^ (s + 1) = 0 → t + 1 - f < 2 ^ (s + 1) := by
    intro hs2 hz
    have := hl (q - 1) (by omega)
    unfold OkKeep at this
    rw [show 128 - (q - 1) = s + 1 from by omega] at this
    rcases Int.lt_or_le (t + 1 - f) (2 ^ (s + 1)) with c | c
    · exact c
    · exact absurd ⟨hz, by omega⟩ this
  have e2 : (2 : Int) ^ (s + 1) = 2 * 2 ^ s := by rw [Int.pow_succ]; omega
  have hp := pow_pos2 s
  have hs128 : s < 128 := by
    rcases Nat.lt_or_ge s 128 with c | c
    · exact c
    · obtain rfl : s = 128 := by omega
      rw [show (2 : Int) ^ 128 = 340282366920938463463374607431768211456 from by decide] at hm
      omega
  have two : t + 1 - f < 2 ^ (s + 1) → k + 1 + s ≤ 257 → Phase (k + 1) (f + 2 ^ s) t := fun c d => Or.inr ⟨s, hs1, by omega, add_mod ho1, d⟩
  rcases h with ⟨a1, a2⟩ | ⟨m, b1, b2, b3, b4⟩
  · by_cases hz : f % 2 ^ (s + 1) = 0
    · exact two (hmax hs128 hz) (by omega)
    · have hks : k ≤ s := by
        rcases Nat.lt_or_ge s k with c | c
        · exact absurd (mod_less (show s + 1 ≤ k by omega) a2) hz
        · exact c
      refine Or.inl ⟨by omega, mod_less (show k + 1 ≤ s + 1 by omega) ?_⟩
      have g1 := Int.mul_ediv_add_emod f (2 ^ s)
      rw [ho1, Int.add_zero] at g1
      generalize f / 2 ^ s = d at g1
      have g2 : d % 2 = 1 := by
        rcases (show d % 2 = 0 ∨ d % 2 = 1 by omega) with c | c
        · exfalso
          apply hz
          rw [← g1, Int.pow_succ, Int.mul_emod_mul_of_pos _ _ hp, c, Int.mul_zero]
        · exact c
      have g3 : f + 2 ^ s = 2 ^ s * (d + 1) := by rw [Int.mul_add, g1, Int.mul_one]
      rw [g3, Int.pow_succ, Int.mul_emod_mul_of_pos _ _ hp, show (d + 1) % 2 = 0 from by omega, Int.mul_zero]
  · have hsm : s < m := pow_lt_pow (by omega)
    exact two (hmax hs128 (mod_less (show s + 1 ≤ m by omega) b3)) (by omega)
end Go.Proofs.YtcgdjnmfeibnoaaGreatDoor
/-! SixRefPre -/
namespace Go.Proofs.YtcgdjnmfeibnoaaGreatDoor
open Go.RowKit
set_option linter.unusedVariables false
set_option linter.unusedSimpArgs false
abbrev P9 (x0 x1 x2 x3 x4 x5 x6 x7 n : Int) : Value := .agg #[.int .u16 x0, .int .u16 x1, .int .u16 x2, .int .u16 x3, .int .u16 x4, .int .u16 x5, .int .u16 x6, .int .u16 x7, .int .i64 n]
/-- Is it a prefix? -/
def isPre (v n : Int) : Bool := decide (0 ≤ n ∧ n ≤ 128 ∧ tailOf v n = 0)
set_option maxHeartbeats 1000000 in
set_option maxRecDepth 100000 in
theorem refIsPrefix_walk (x0 x1 x2 x3 x4 x5 x6 x7 : Int) (h : R8 x0 x1 x2 x3 x4 x5 x6 x7) (n : Int) (w : World) :
    Calls Tryz.prog 13 #[P9 x0 x1 x2 x3 x4 x5 x6 x7 n] w fun e w' => e = .returned (.bool (isPre (V8 x0 x1 x2 x3 x4 x5 x6 x7) n)) ∧ Below w.heap.size w w' := by
  go_enter Tryz.func13, Tryz.ntmps13
  go_wp2_with fail
  refine (refMask_all _ _ _ _ _ _ _ _ h n _).mono ?_
  rintro e w1 ⟨y0, y1, y2, y3, y4, y5, y6, y7, rfl, hy, hv, hb1⟩
  have B1 : Below w.heap.size w w1 := chain (by go_grown) hb1
  obtain ⟨hc1, _, hs1⟩ := after hb1
  simp only [World.size_alloc] at hs1
  have l0 : w.heap.size < w1.heap.size := by omega
  have HV := Lib.hid hv
  clear hv hs1
  by_cases hn : 0 ≤ n ∧ n ≤ 128
  · rw [show maskE n = 0 from if_pos hn]
    go_wp2_with fail
    go_returns
    rw [eq8_dec hy h, HV.out, maskV, if_pos hn]
    refine ⟨ret_bool ?_, B1.alloc B1.size _⟩
    unfold isPre
    rw [decide_eq_decide]
    omega
  · rw [show maskE n = 211 from if_neg hn]
    go_wp2_with fail
    go_returns
    refine ⟨ret_bool ?_, B1.alloc B1.size _⟩
    rw [show isPre (V8 x0 x1 x2 x3 x4 x5 x6 x7) n = false from decide_eq_false (by omega)]
/-- The pieces of a number, as the document has it. -/
abbrev AV (v : Int) : Value := A8 (pc 0 v) (pc 1 v) (pc 2 v) (pc 3 v) (pc 4 v) (pc 5 v) (pc 6 v) (pc 7 v)
abbrev PV (v n : Int) : Value := P9 (pc 0 v) (pc 1 v) (pc 2 v) (pc 3 v) (pc 4 v) (pc 5 v) (pc 6 v) (pc 7 v) n
theorem isPrefix_at {v : Int} (hv : Wide v) (n : Int) (w : World) :
    Calls Tryz.prog 13 #[PV v n] w fun e w' => e = .returned (.bool (isPre v n)) ∧ Below w.heap.size w w' := by
  have h := refIsPrefix_walk _ _ _ _ _ _ _ _ (pc_r8 v) n w
  rw [pc_v8 hv] at h
  exact h
theorem refLast_at {v : Int} {n : Nat} (hv : Wide v) (hn : n ≤ 128) (hz : v % 2 ^ (128 - n) = 0) (w : World) :
    Calls Tryz.prog 15 #[PV v n] w fun e w' => e = .returned (AV (v + 2 ^ (128 - n) - 1)) ∧ Below w.heap.size w w' := by
  have e : (128 - (n : Int)).toNat = 128 - n := by omega
  have h := refLast_walk _ _ _ _ _ _ _ _ (pc_r8 v) n (by omega) (by omega) (by rw [pc_v8 hv, e]; exact hz) w
  rw [pc_v8 hv, e] at h
  refine h.mono ?_
  rintro e1 w' ⟨y0, y1, y2, y3, y4, y5, y6, y7, rfl, hr, hv2, hb⟩
  obtain ⟨rfl, rfl, rfl, rfl, rfl, rfl, rfl, rfl⟩ := pc_of hr hv2
  exact ⟨rfl, hb⟩
end Go.Proofs.YtcgdjnmfeibnoaaGreatDoor
/-! SixPfxP -/
namespace Go.Proofs.YtcgdjnmfeibnoaaGreatDoor
set_option linter.unusedVariables false
set_option linter.unusedSimpArgs false
def Rng16 (l : List Int) : Prop := ∀ x ∈ l, 0 ≤ x ∧ x ≤ 65535
theorem written_rng (t : List UInt8) : Rng16 (writtenV t) := by
  intro x hx
  unfold writtenV at hx
  split at hx
  · simp at hx
  · obtain ⟨p, _, hp⟩ := List.mem_flatMap.1 hx
    unfold grpV at hp
    split at hp
    · simp at hp
      omega
    · simp at hp
      omega
theorem getD_rng {l : List Int} (h : Rng16 l) (j : Nat) : 0 ≤ l.getD j 0 ∧ l.getD j 0 ≤ 65535 := by
  rw [List.getD_eq_getElem?_getD]
  cases hj : l[j]? with
  | none => simp
  | some x => exact h x (List.mem_of_getElem? hj)
theorem out_rng {F B : List Int} (hF : Rng16 F) (hB : Rng16 B) (j : Nat) : 0 ≤ outOf F B j ∧ outOf F B j ≤ 65535 := by
  unfold outOf
  split
  · exact getD_rng hB _
  · exact getD_rng hF _
theorem parseP_rng (s : List UInt8) (j : Nat) : 0 ≤ (parseP s).1 j ∧ (parseP s).1 j ≤ 65535 := by
  unfold parseP
  split
  · simp
  · split
    · exact out_rng (written_rng _) (written_rng _) j
    · simp
theorem parseR_rng (s : List UInt8) (j : Nat) (hj : j < 8) : 0 ≤ (parseR s).1 j ∧ (parseR s).1 j ≤ 65535 := by
  rw [← (parse_same s).1 j hj]
  exact parseP_rng s j
theorem parseR_r8 (s : List UInt8) : R8 ((parseR s).1 0) ((parseR s).1 1) ((parseR s).1 2) ((parseR s).1 3) ((parseR s).1 4) ((parseR s).1 5) ((parseR s).1 6) ((parseR s).1 7) :=
  ⟨parseR_rng s 0 (by decide), parseR_rng s 1 (by decide), parseR_rng s 2 (by decide), parseR_rng s 3 (by decide), parseR_rng s 4 (by decide), parseR_rng s 5 (by decide), parseR_rng s 6 (by decide), parseR_rng s 7 (by decide)⟩
/-- The place of the last stroke among the first m bytes; -1: there is none. -/
def LastR (D : List UInt8) (m : Nat) (c : Int) : Prop := (c = -1 ∧ ∀ j, j < m → D[j]? ≠ some 47) ∨ ∃ k : Nat, k < m ∧ c = k ∧ D[k]? = some 47 ∧ ∀ j, k < j → j < m → D[j]? ≠ some 47
theorem LastR.one {D : List UInt8} {m : Nat} {c c' : Int} (h : LastR D m c) (g : LastR D m c') : c = c' := by
  rcases h with ⟨rfl, h⟩ | ⟨k, hk, rfl, h1, h2⟩ <;> rcases g with ⟨rfl, g⟩ | ⟨k', hk', rfl, g1, g2⟩
  · rfl
  · exact absurd g1 (h k' hk')
  · exact absurd h1 (g k hk)
  · rcases Nat.lt_trichotomy k k' with c | c | c
    · exact absurd g1 (h2 k' c hk')
    · rw [c]
    · exact absurd h1 (g2 k c hk)
theorem lastR_zero (D : List UInt8) : LastR D 0 (-1) := .inl ⟨rfl, fun j h => absurd h (Nat.not_lt_zero _)⟩
theorem LastR.hit {D : List UInt8} {m : Nat} {c : Int} (h : D[m]? = some 47) : LastR D (m + 1) m := .inr ⟨m, by omega, rfl, h, fun j h1 h2 => by omega⟩
theorem LastR.miss {D : List UInt8} {m : Nat} {c : Int} (g : LastR D m c) (h : D[m]? ≠ some 47) : LastR D (m + 1) c := by
  rcases g with ⟨rfl, g⟩ | ⟨k, hk, rfl, g1, g2⟩
  · refine .inl ⟨rfl, fun j hj => ?_⟩
    by_cases e : j = m
    · subst e; exact h
    · exact g j (by omega)
  · refine .inr ⟨k, by omega, rfl, g1, fun j h1 h2 => ?_⟩
    by_cases e : j = m
    · subst e; exact h
    · exact g2 j h1 (by omega)
/-- The prefix of a text: its pieces, its bits, the place, the fault. -/
def pfxR (D : List UInt8) (c : Int) : (Nat → Int) × Int × Int × Int :=
  if c < 0 then (fun _ => 0, 0, (D.length : Int), 211)
  else if (parseR (D.take c.toNat)).2.2 = 0 then
    match bitsP (D.drop (c.toNat + 1)) with
    | some n => if isPre (V8 ((parseR (D.take c.toNat)).1 0) ((parseR (D.take c.toNat)).1 1) ((parseR (D.take c.toNat)).1 2) ((parseR (D.take c.toNat)).1 3) ((parseR (D.take c.toNat)).1 4) ((parseR (D.take c.toNat)).1 5) ((parseR (D.take c.toNat)).1 6) ((parseR (D.take c.toNat)).1 7)) n = true then ((parseR (D.take c.toNat)).1, (n : Int), 0, 0) else (fun _ => 0, 0, c + 1, 211)
    | none => (fun _ => 0, 0, c + 1, 211)
  else (fun _ => 0, 0, (parseR (D.take c.toNat)).2.1, (parseR (D.take c.toNat)).2.2)
end Go.Proofs.YtcgdjnmfeibnoaaGreatDoor
/-! Tail -/
namespace Go.Proofs.YtcgdjnmfeibnoaaGreatDoor
open Go.RowKit Go
set_option linter.unusedVariables false
set_option linter.unusedSimpArgs false
section
variable {P : Program} {ops : Array Oper} {md : Region.Mode} {C : World → Prop}
/-- The head's operations, in whatever order; then L. -/
def headQ (P : Program) (md : Region.Mode) (ops : Array Oper) (C : World → Prop) (n : Nat) (L : Array Bool → Act → Prop) : Nat → Array Bool → Act → Prop
  | 0, listed, a => L listed a
  | f + 1, listed, a => Region.ready md ops listed ≠ [] ∧ ∀ i ∈ Region.ready md ops listed, i < n ∧ qOp P ops C i (headQ P md ops C n L f (listed.setIfInBounds i true)) a
theorem any_of_headQ {n g : Nat} {L : Array Bool → Act → Prop} {Q' : Exit → Act → World → Prop} (hL : ∀ listed a w, C w → L listed a → wpAny P md ops Q' g listed a w) :
    ∀ (f : Nat) (listed : Array Bool) (a : Act) (w : World), C w → headQ P md ops C n L f listed a → wpAny P md ops Q' (f + g) listed a w
  | 0, listed, a, w, hw, h => by rw [Nat.zero_add]; exact hL _ _ _ hw h
  | f + 1, listed, a, w, hw, h => by
    rw [show f + 1 + g = (f + g) + 1 from by omega]
    exact ⟨fun h0 => absurd h0 h.1, fun i hi => wpOp_of_qOp hw (fun a' w' hw' h' => any_of_headQ hL f _ a' w' hw' h') (h.2 i hi).2⟩
theorem headQ_first {n i : Nat} {oi : Oper} {v : Value} {L : Array Bool → Act → Prop} (hi : ops[i]? = some oi) (hsel : ∀ (j : Nat) (o : Oper) cs b, ops[j]? = some o → o.op ≠ .select cs b)
    (hs : Region.sinkB md ops n = true) (hc : Region.chainB md ops n = true) (hn : n < ops.size) (hin : i < n)
    (hdone : ∀ listed a, L listed a → ∀ j ∈ Region.ready md ops listed, n ≤ j) :
    ∀ (f : Nat) (listed : Array Bool) (a : Act), HeadInv md ops n listed →
      (∀ j oj, ops[j]? = some oj → j ≠ i → listed.getD j true = false → (∀ e ∈ oj.after, Region.binds md e = true → e.on ≠ i) → oi.apart ops oj = true) →
      i ∈ Region.ready md ops listed → YieldsIn P ops C oi v a →
      headQ P md ops C n L f (listed.setIfInBounds i true) (a.put oi.dst v) → headQ P md ops C n L (f + 1) listed a := by
  intro f
  induction f with
  | zero =>
    intro listed a inv _ hr hy H
    have hun := (mem_ready.1 hr).1
    refine ⟨fun h => (by rw [h] at hr; cases hr), fun j hj => ?_⟩
    have hjn : j < n := by
      rcases Nat.lt_or_ge j n with h | h
      · exact h
      · exact absurd hj (tail_waits hs hc hn inv _ i rfl hin hun j h)
    refine ⟨hjn, ?_⟩
    by_cases hji : j = i
    · subst hji; exact hy.qOp hi H
    · have := hdone _ _ H j (ready_mono hj hji)
      omega
  | succ f ih =>
    intro listed a inv hfree hr hy H
    have hun := (mem_ready.1 hr).1
    refine ⟨fun h => (by rw [h] at hr; cases hr), fun j hj => ?_⟩
    have hjn : j < n := by
      rcases Nat.lt_or_ge j n with h | h
      · exact h
      · exact absurd hj (tail_waits hs hc hn inv _ i rfl hin hun j h)
    refine ⟨hjn, ?_⟩
    by_cases hji : j = i
    · subst hji; exact hy.qOp hi H
    · have h1 := (H.2 j (ready_mono hj hji)).2
      obtain ⟨hjun, oj, hoj, hall⟩ := mem_ready.1 hj
      have hnot : ∀ e ∈ oj.after, Region.binds md e = true → e.on ≠ i := fun e he hb heq => by
        have h1 := hall e he hb
        rw [heq, getD_both hun] at h1
        cases h1
      have h2 := qOp_put hoj (hfree j oj hoj hji hjun hnot) (fun cs b => hsel i oi cs b hi) (fun cs b => hsel j oj cs b hoj) hy h1
      have hfree' : ∀ k ok, ops[k]? = some ok → k ≠ i → (listed.setIfInBounds j true).getD k true = false →
          (∀ e ∈ ok.after, Region.binds md e = true → e.on ≠ i) → oi.apart ops ok = true := fun k ok hk hki hun hno => by
        refine hfree k ok hk hki ?_ hno
        by_cases hjk : j = k
        · subst hjk; exact hjun
        · rw [getD_set_ne true hjk] at hun; exact hun
      refine qOp_mono (fun a' h3 => ih (listed.setIfInBounds j true) a' (inv.set hj hjn) hfree' (ready_mono hr (Ne.symm hji)) h3.1 ?_) h2
      rw [Array.setIfInBounds_comm _ _ hji]
      exact h3.2
theorem headQ_lex {n g : Nat} {Lq : Act → Prop} (hsel : Region.noSelect ops = true) (hs : Region.sinkB md ops n = true) (hc : Region.chainB md ops n = true) (hn : n < ops.size) :
    ∀ (l : List Oper) (k : Nat) (listed : Array Bool) (a : Act), (∀ j, j < l.length → l[j]? = ops[k + j]?) → k + l.length = n → HeadInv md ops n listed →
    Region.lexHead md ops g l.length k listed = true → wpQuiet P ops C Lq l a →
    headQ P md ops C n (fun listed' a' => Region.seqB md ops g n listed' = true ∧ Lq a') l.length listed a
  | [], k, listed, a, _, hk, _, hB, h => by
    have : k = n := by simpa using hk
    subst this
    exact ⟨by simpa [Region.lexHead] using hB, h⟩
  | o :: l, k, listed, a, hl, hk, inv, hB, h => by
    have h0 : ops[k]? = some o := by simpa using (hl 0 (by simp)).symm
    simp only [List.length_cons, Region.lexHead, Bool.and_eq_true] at hB
    obtain ⟨⟨hr, hf⟩, hB'⟩ := hB
    have hkn : k < n := by simp only [List.length_cons] at hk; omega
    have hr' : k ∈ Region.ready md ops listed := by simpa using hr
    have hst : qOp P ops C k (wpQuiet P ops C Lq l) a := by unfold qOp; simp only [h0]; exact h
    obtain ⟨v, hy, hK⟩ := yieldsIn_of_qOp h0 hst
    exact headQ_first h0 (Region.noSelect_spec hsel) hs hc hn hkn (fun listed' a' hL => seqB_ready hL.1) l.length listed a inv (Region.free_spec h0 hf) hr' hy
      (headQ_lex hsel hs hc hn l (k + 1) _ _ (fun j hj => by have := hl (j + 1) (by simp; omega); simpa [Nat.add_assoc, Nat.add_comm 1 j] using this) (by simp only [List.length_cons] at hk; omega) (inv.set hr' hkn) hB' hK)
theorem wp_region_quiet_tail {id : Nat} {Q : Exit → Act → World → Prop} {a : Act} {w : World} {l : List Oper} (n : Nat) (hm : P.follows .mixedOrders = true) (hB : Region.lexTailB .any l.toArray n = true) (hC : C { w with drawn := w.drawn + 1 })
    (h : wpQuiet P l.toArray C (fun a' => ∀ w', C w' → wpList P l.toArray Q (l.drop n) a' w') (l.take n) a) : (Code.region id l.toArray true).wp P Q a w := by
  simp only [Region.lexTailB, Bool.and_eq_true, decide_eq_true_eq] at hB
  obtain ⟨⟨⟨⟨hsel, hn⟩, hs⟩, hc⟩, hlex⟩ := hB
  have hn' : n < l.length := by simpa using hn
  have htl : (l.take n).length = n := by simp; omega
  have hdl : (l.drop n).length = l.toArray.size - n := by simp
  have inv0 : HeadInv .any l.toArray n (Array.replicate l.toArray.size false) :=
    ⟨by simp, fun j oj _ hl => (by rw [getD_replicate_false] at hl; cases hl), fun t _ ht => getD_in (by simpa using ht) (getD_replicate_false _ _)⟩
  have H := headQ_lex (md := .any) (g := l.toArray.size - n) hsel hs hc hn (l.take n) 0 _ a (fun j hj => by
    have hj' : j < n := by rw [htl] at hj; exact hj
    simp [hj']) (by simpa using htl) inv0 (by rw [htl]; exact hlex) h
  refine wp_region_any hm ?_
  have := any_of_headQ (Q' := Q) (g := l.toArray.size - n) (fun listed a' w' hw' hL => by
    have := wpAny_of_seq (md := .any) (Q' := Q) (l.drop n) n listed a' w' (fun j => by simp [List.getElem?_drop]) (by rw [hdl]; exact hL.1) (hL.2 w' hw')
    rwa [hdl] at this) _ _ _ _ hC H
  rw [htl, show n + (l.toArray.size - n) = l.toArray.size from by omega] at this
  exact this
/-- Callees in the head make memory of their own. -/
theorem wp_region_ext_tail {id : Nat} {Q : Exit → Act → World → Prop} {a : Act} {w : World} {l : List Oper} (n : Nat) (hm : P.follows .mixedOrders = true) (hB : Region.lexTailB .any l.toArray n = true)
    (h : wpQuiet P l.toArray (fun w' => ∃ x : Ext w, w' = x.wd) (fun a' => ∀ w', (∃ x : Ext w, w' = x.wd) → wpList P l.toArray Q (l.drop n) a' w') (l.take n) a) : (Code.region id l.toArray true).wp P Q a w :=
  wp_region_quiet_tail (C := fun w' => ∃ x : Ext w, w' = x.wd) n hm hB ⟨⟨_, (Below.refl _ w).drew⟩, rfl⟩ h
/-- The same, where the calls draw at most: the world stays in sight. -/
theorem wp_region_drew_tail {id : Nat} {Q : Exit → Act → World → Prop} {a : Act} {w : World} {l : List Oper} (n : Nat) (hm : P.follows .mixedOrders = true) (hB : Region.lexTailB .any l.toArray n = true)
    (h : wpQuiet P l.toArray (fun w' => ∃ m : Nat, w' = w.drewN m) (fun a' => ∀ w', (∃ m : Nat, w' = w.drewN m) → wpList P l.toArray Q (l.drop n) a' w') (l.take n) a) : (Code.region id l.toArray true).wp P Q a w :=
  wp_region_quiet_tail (C := fun w' => ∃ m : Nat, w' = w.drewN m) n hm hB ⟨1, rfl⟩ h
end
end Go.Proofs.YtcgdjnmfeibnoaaGreatDoor
/-! SixBox -/
namespace Go.Proofs.YtcgdjnmfeibnoaaGreatDoor
open Go.RowKit
set_option linter.unusedVariables false
set_option linter.unusedSimpArgs false
theorem heap_at (W : World) (o : Obj) : (W.alloc o).heap[W.heap.size]? = some o := heap_alloc_last W o
theorem heap_below (W : World) (o : Obj) (g : Nat) (h : g < W.heap.size) : (W.alloc o).heap[g]? = W.heap[g]? := by
  show (W.heap.push o)[g]? = _
  rw [Array.getElem?_push, if_neg (by omega)]
theorem setRow_new (W : World) (c c' : Array Value) (t : TypeId) : (W.alloc (.cells c t)).setRow W.heap.size c' = W.alloc (.cells c' t) := World.setRow_alloc_new W c c' t
theorem setRow_below (W : World) (o : Obj) (g : Nat) (c : Array Value) (h : g < W.heap.size) : (W.alloc o).setRow g c = (W.setRow g c).alloc o := by
  simp only [World.setRow, World.alloc]
  congr 1
  apply Array.ext_getElem?
  intro i
  rw [Array.getElem?_modify, Array.getElem?_push, Array.getElem?_push, Array.size_modify, Array.getElem?_modify]
  by_cases h1 : i = W.heap.size
  · have h2 : ¬ g = i := by omega
    simp [h1, h2]
    intro e
    omega
  · by_cases h2 : g = i
    · simp [h1, h2]
    · simp [h1, h2]
theorem results_cell {fn : Func} {t : Tmp} {ty : TypeId} {P : Program} {tmps : Array Value} {w : World} {a : Addr} {v : Value} (h : fn.results = #[.cell t ty]) (ht : tmps.getD t undef = .pointer (some a)) (hl : (loadVar ty a).run P w = .ok v w) :
    (results fn tmps).run P w = .ok v w := by
  have ht' := ht
  simp at ht'
  simp [results, h, ht', asAddr, hl]
theorem drewN_alloc (w : World) (o : Obj) (n : Nat) : (w.alloc o).drewN n = (w.drewN n).alloc o := rfl
/-- The whole variable, read and written. -/
@[irreducible] def loadS (x : Value) : Sem Value := Instr.loadAt 87 x
@[irreducible] def loadVS (x : Addr) : Sem Value := loadVar 87 x
@[irreducible] def storeS (x v : Value) : Sem Unit := Instr.storeAt 87 x v
@[go_sem ↓ high] theorem loadS_of (x : Value) : Instr.loadAt 87 x = loadS x := by unfold loadS; rfl
@[go_sem ↓ high] theorem loadVS_of (x : Addr) : loadVar 87 x = loadVS x := by unfold loadVS; rfl
@[go_sem ↓ high] theorem storeS_of (x v : Value) : Instr.storeAt 87 x v = storeS x v := by unfold storeS; rfl
theorem scan_ld0 {n : Nat} (W : World) (x0 x1 x2 x3 x4 x5 x6 x7 x8 x9 x10 x11 x12 x13 x14 x15 : Int) (hn : n = W.heap.size) :
    (loadVar 87 ⟨n, 0, none⟩).run Tryz.prog (W.alloc (.cells #[.int .u16 x0, .int .u16 x1, .int .u16 x2, .int .u16 x3, .int .u16 x4, .int .u16 x5, .int .u16 x6, .int .u16 x7, .int .i64 x8, .int .i64 x9, .int .i64 x10, .int .i64 x11, .int .i64 x12, .int .i64 x13, .int .i64 x14, .int .i64 x15] 87)) = .ok (.agg #[.int .u16 x0, .int .u16 x1, .int .u16 x2, .int .u16 x3, .int .u16 x4, .int .u16 x5, .int .u16 x6, .int .u16 x7, .int .i64 x8, .int .i64 x9, .int .i64 x10, .int .i64 x11, .int .i64 x12, .int .i64 x13, .int .i64 x14, .int .i64 x15]) (W.alloc (.cells #[.int .u16 x0, .int .u16 x1, .int .u16 x2, .int .u16 x3, .int .u16 x4, .int .u16 x5, .int .u16 x6, .int .u16 x7, .int .i64 x8, .int .i64 x9, .int .i64 x10, .int .i64 x11, .int .i64 x12, .int .i64 x13, .int .i64 x14, .int .i64 x15] 87)) := by
  subst hn
  exact run_loadVar_row _ _ 87 87 #[.int .u16 x0, .int .u16 x1, .int .u16 x2, .int .u16 x3, .int .u16 x4, .int .u16 x5, .int .u16 x6, .int .u16 x7, .int .i64 x8, .int .i64 x9, .int .i64 x10, .int .i64 x11, .int .i64 x12, .int .i64 x13, .int .i64 x14, .int .i64 x15] (0, 0) _ (heap_at W _) Tryz.underlying87 rfl (by kernel_rfl)
theorem scan_st0 {n : Nat} (W : World) (x0 x1 x2 x3 x4 x5 x6 x7 x8 x9 x10 x11 x12 x13 x14 x15 y0 y1 y2 y3 y4 y5 y6 y7 y8 y9 y10 y11 y12 y13 y14 y15 : Int) (hn : n = W.heap.size) :
    (storeVar 87 ⟨n, 0, none⟩ (.agg #[.int .u16 y0, .int .u16 y1, .int .u16 y2, .int .u16 y3, .int .u16 y4, .int .u16 y5, .int .u16 y6, .int .u16 y7, .int .i64 y8, .int .i64 y9, .int .i64 y10, .int .i64 y11, .int .i64 y12, .int .i64 y13, .int .i64 y14, .int .i64 y15])).run Tryz.prog (W.alloc (.cells #[.int .u16 x0, .int .u16 x1, .int .u16 x2, .int .u16 x3, .int .u16 x4, .int .u16 x5, .int .u16 x6, .int .u16 x7, .int .i64 x8, .int .i64 x9, .int .i64 x10, .int .i64 x11, .int .i64 x12, .int .i64 x13, .int .i64 x14, .int .i64 x15] 87)) = .ok () (W.alloc (.cells #[.int .u16 y0, .int .u16 y1, .int .u16 y2, .int .u16 y3, .int .u16 y4, .int .u16 y5, .int .u16 y6, .int .u16 y7, .int .i64 y8, .int .i64 y9, .int .i64 y10, .int .i64 y11, .int .i64 y12, .int .i64 y13, .int .i64 y14, .int .i64 y15] 87)) := by
  subst hn
  rw [run_storeVar_row _ _ 87 87 #[.int .u16 x0, .int .u16 x1, .int .u16 x2, .int .u16 x3, .int .u16 x4, .int .u16 x5, .int .u16 x6, .int .u16 x7, .int .i64 x8, .int .i64 x9, .int .i64 x10, .int .i64 x11, .int .i64 x12, .int .i64 x13, .int .i64 x14, .int .i64 x15] #[.int .u16 y0, .int .u16 y1, .int .u16 y2, .int .u16 y3, .int .u16 y4, .int .u16 y5, .int .u16 y6, .int .u16 y7, .int .i64 y8, .int .i64 y9, .int .i64 y10, .int .i64 y11, .int .i64 y12, .int .i64 y13, .int .i64 y14, .int .i64 y15] (heap_at W _) (by kernel_rfl) rfl (by simp [Value.oneCell'])]
  congr 1
  exact setRow_new W _ _ _
theorem scan_ld1 {n : Nat} (W : World) (x0 x1 x2 x3 x4 x5 x6 x7 x8 x9 x10 x11 x12 x13 x14 x15 : Int) (o1 : Obj) (hn : n = W.heap.size) :
    (loadVar 87 ⟨n, 0, none⟩).run Tryz.prog ((W.alloc (.cells #[.int .u16 x0, .int .u16 x1, .int .u16 x2, .int .u16 x3, .int .u16 x4, .int .u16 x5, .int .u16 x6, .int .u16 x7, .int .i64 x8, .int .i64 x9, .int .i64 x10, .int .i64 x11, .int .i64 x12, .int .i64 x13, .int .i64 x14, .int .i64 x15] 87)).alloc o1) = .ok (.agg #[.int .u16 x0, .int .u16 x1, .int .u16 x2, .int .u16 x3, .int .u16 x4, .int .u16 x5, .int .u16 x6, .int .u16 x7, .int .i64 x8, .int .i64 x9, .int .i64 x10, .int .i64 x11, .int .i64 x12, .int .i64 x13, .int .i64 x14, .int .i64 x15]) ((W.alloc (.cells #[.int .u16 x0, .int .u16 x1, .int .u16 x2, .int .u16 x3, .int .u16 x4, .int .u16 x5, .int .u16 x6, .int .u16 x7, .int .i64 x8, .int .i64 x9, .int .i64 x10, .int .i64 x11, .int .i64 x12, .int .i64 x13, .int .i64 x14, .int .i64 x15] 87)).alloc o1) := by
  subst hn
  exact run_loadVar_row _ _ 87 87 #[.int .u16 x0, .int .u16 x1, .int .u16 x2, .int .u16 x3, .int .u16 x4, .int .u16 x5, .int .u16 x6, .int .u16 x7, .int .i64 x8, .int .i64 x9, .int .i64 x10, .int .i64 x11, .int .i64 x12, .int .i64 x13, .int .i64 x14, .int .i64 x15] (0, 0) _ ((heap_below _ _ _ (by simp only [World.size_alloc]; omega)).trans (heap_at W _)) Tryz.underlying87 rfl (by kernel_rfl)
theorem scan_st1 {n : Nat} (W : World) (x0 x1 x2 x3 x4 x5 x6 x7 x8 x9 x10 x11 x12 x13 x14 x15 y0 y1 y2 y3 y4 y5 y6 y7 y8 y9 y10 y11 y12 y13 y14 y15 : Int) (o1 : Obj) (hn : n = W.heap.size) :
    (storeVar 87 ⟨n, 0, none⟩ (.agg #[.int .u16 y0, .int .u16 y1, .int .u16 y2, .int .u16 y3, .int .u16 y4, .int .u16 y5, .int .u16 y6, .int .u16 y7, .int .i64 y8, .int .i64 y9, .int .i64 y10, .int .i64 y11, .int .i64 y12, .int .i64 y13, .int .i64 y14, .int .i64 y15])).run Tryz.prog ((W.alloc (.cells #[.int .u16 x0, .int .u16 x1, .int .u16 x2, .int .u16 x3, .int .u16 x4, .int .u16 x5, .int .u16 x6, .int .u16 x7, .int .i64 x8, .int .i64 x9, .int .i64 x10, .int .i64 x11, .int .i64 x12, .int .i64 x13, .int .i64 x14, .int .i64 x15] 87)).alloc o1) = .ok () ((W.alloc (.cells #[.int .u16 y0, .int .u16 y1, .int .u16 y2, .int .u16 y3, .int .u16 y4, .int .u16 y5, .int .u16 y6, .int .u16 y7, .int .i64 y8, .int .i64 y9, .int .i64 y10, .int .i64 y11, .int .i64 y12, .int .i64 y13, .int .i64 y14, .int .i64 y15] 87)).alloc o1) := by
  subst hn
  rw [run_storeVar_row _ _ 87 87 #[.int .u16 x0, .int .u16 x1, .int .u16 x2, .int .u16 x3, .int .u16 x4, .int .u16 x5, .int .u16 x6, .int .u16 x7, .int .i64 x8, .int .i64 x9, .int .i64 x10, .int .i64 x11, .int .i64 x12, .int .i64 x13, .int .i64 x14, .int .i64 x15] #[.int .u16 y0, .int .u16 y1, .int .u16 y2, .int .u16 y3, .int .u16 y4, .int .u16 y5, .int .u16 y6, .int .u16 y7, .int .i64 y8, .int .i64 y9, .int .i64 y10, .int .i64 y11, .int .i64 y12, .int .i64 y13, .int .i64 y14, .int .i64 y15] ((heap_below _ _ _ (by simp only [World.size_alloc]; omega)).trans (heap_at W _)) (by kernel_rfl) rfl (by simp [Value.oneCell'])]
  congr 1
  exact (setRow_below _ _ _ _ (by simp only [World.size_alloc]; omega)).trans (congrArg (fun w => World.alloc w _) (setRow_new W _ _ _))
theorem scan_ld2 {n : Nat} (W : World) (x0 x1 x2 x3 x4 x5 x6 x7 x8 x9 x10 x11 x12 x13 x14 x15 : Int) (o1 o2 : Obj) (hn : n = W.heap.size) :
    (loadVar 87 ⟨n, 0, none⟩).run Tryz.prog (((W.alloc (.cells #[.int .u16 x0, .int .u16 x1, .int .u16 x2, .int .u16 x3, .int .u16 x4, .int .u16 x5, .int .u16 x6, .int .u16 x7, .int .i64 x8, .int .i64 x9, .int .i64 x10, .int .i64 x11, .int .i64 x12, .int .i64 x13, .int .i64 x14, .int .i64 x15] 87)).alloc o1).alloc o2) = .ok (.agg #[.int .u16 x0, .int .u16 x1, .int .u16 x2, .int .u16 x3, .int .u16 x4, .int .u16 x5, .int .u16 x6, .int .u16 x7, .int .i64 x8, .int .i64 x9, .int .i64 x10, .int .i64 x11, .int .i64 x12, .int .i64 x13, .int .i64 x14, .int .i64 x15]) (((W.alloc (.cells #[.int .u16 x0, .int .u16 x1, .int .u16 x2, .int .u16 x3, .int .u16 x4, .int .u16 x5, .int .u16 x6, .int .u16 x7, .int .i64 x8, .int .i64 x9, .int .i64 x10, .int .i64 x11, .int .i64 x12, .int .i64 x13, .int .i64 x14, .int .i64 x15] 87)).alloc o1).alloc o2) := by
  subst hn
  exact run_loadVar_row _ _ 87 87 #[.int .u16 x0, .int .u16 x1, .int .u16 x2, .int .u16 x3, .int .u16 x4, .int .u16 x5, .int .u16 x6, .int .u16 x7, .int .i64 x8, .int .i64 x9, .int .i64 x10, .int .i64 x11, .int .i64 x12, .int .i64 x13, .int .i64 x14, .int .i64 x15] (0, 0) _ ((heap_below _ _ _ (by simp only [World.size_alloc]; omega)).trans ((heap_below _ _ _ (by simp only [World.size_alloc]; omega)).trans (heap_at W _))) Tryz.underlying87 rfl (by kernel_rfl)
theorem scan_st2 {n : Nat} (W : World) (x0 x1 x2 x3 x4 x5 x6 x7 x8 x9 x10 x11 x12 x13 x14 x15 y0 y1 y2 y3 y4 y5 y6 y7 y8 y9 y10 y11 y12 y13 y14 y15 : Int) (o1 o2 : Obj) (hn : n = W.heap.size) :
    (storeVar 87 ⟨n, 0, none⟩ (.agg #[.int .u16 y0, .int .u16 y1, .int .u16 y2, .int .u16 y3, .int .u16 y4, .int .u16 y5, .int .u16 y6, .int .u16 y7, .int .i64 y8, .int .i64 y9, .int .i64 y10, .int .i64 y11, .int .i64 y12, .int .i64 y13, .int .i64 y14, .int .i64 y15])).run Tryz.prog (((W.alloc (.cells #[.int .u16 x0, .int .u16 x1, .int .u16 x2, .int .u16 x3, .int .u16 x4, .int .u16 x5, .int .u16 x6, .int .u16 x7, .int .i64 x8, .int .i64 x9, .int .i64 x10, .int .i64 x11, .int .i64 x12, .int .i64 x13, .int .i64 x14, .int .i64 x15] 87)).alloc o1).alloc o2) = .ok () (((W.alloc (.cells #[.int .u16 y0, .int .u16 y1, .int .u16 y2, .int .u16 y3, .int .u16 y4, .int .u16 y5, .int .u16 y6, .int .u16 y7, .int .i64 y8, .int .i64 y9, .int .i64 y10, .int .i64 y11, .int .i64 y12, .int .i64 y13, .int .i64 y14, .int .i64 y15] 87)).alloc o1).alloc o2) := by
  subst hn
  rw [run_storeVar_row _ _ 87 87 #[.int .u16 x0, .int .u16 x1, .int .u16 x2, .int .u16 x3, .int .u16 x4, .int .u16 x5, .int .u16 x6, .int .u16 x7, .int .i64 x8, .int .i64 x9, .int .i64 x10, .int .i64 x11, .int .i64 x12, .int .i64 x13, .int .i64 x14, .int .i64 x15] #[.int .u16 y0, .int .u16 y1, .int .u16 y2, .int .u16 y3, .int .u16 y4, .int .u16 y5, .int .u16 y6, .int .u16 y7, .int .i64 y8, .int .i64 y9, .int .i64 y10, .int .i64 y11, .int .i64 y12, .int .i64 y13, .int .i64 y14, .int .i64 y15] ((heap_below _ _ _ (by simp only [World.size_alloc]; omega)).trans ((heap_below _ _ _ (by simp only [World.size_alloc]; omega)).trans (heap_at W _))) (by kernel_rfl) rfl (by simp [Value.oneCell'])]
  congr 1
  exact (setRow_below _ _ _ _ (by simp only [World.size_alloc]; omega)).trans (congrArg (fun w => World.alloc w _) ((setRow_below _ _ _ _ (by simp only [World.size_alloc]; omega)).trans (congrArg (fun w => World.alloc w _) (setRow_new W _ _ _))))
theorem scan_ld3 {n : Nat} (W : World) (x0 x1 x2 x3 x4 x5 x6 x7 x8 x9 x10 x11 x12 x13 x14 x15 : Int) (o1 o2 o3 : Obj) (hn : n = W.heap.size) :
    (loadVar 87 ⟨n, 0, none⟩).run Tryz.prog ((((W.alloc (.cells #[.int .u16 x0, .int .u16 x1, .int .u16 x2, .int .u16 x3, .int .u16 x4, .int .u16 x5, .int .u16 x6, .int .u16 x7, .int .i64 x8, .int .i64 x9, .int .i64 x10, .int .i64 x11, .int .i64 x12, .int .i64 x13, .int .i64 x14, .int .i64 x15] 87)).alloc o1).alloc o2).alloc o3) = .ok (.agg #[.int .u16 x0, .int .u16 x1, .int .u16 x2, .int .u16 x3, .int .u16 x4, .int .u16 x5, .int .u16 x6, .int .u16 x7, .int .i64 x8, .int .i64 x9, .int .i64 x10, .int .i64 x11, .int .i64 x12, .int .i64 x13, .int .i64 x14, .int .i64 x15]) ((((W.alloc (.cells #[.int .u16 x0, .int .u16 x1, .int .u16 x2, .int .u16 x3, .int .u16 x4, .int .u16 x5, .int .u16 x6, .int .u16 x7, .int .i64 x8, .int .i64 x9, .int .i64 x10, .int .i64 x11, .int .i64 x12, .int .i64 x13, .int .i64 x14, .int .i64 x15] 87)).alloc o1).alloc o2).alloc o3) := by
  subst hn
  exact run_loadVar_row _ _ 87 87 #[.int .u16 x0, .int .u16 x1, .int .u16 x2, .int .u16 x3, .int .u16 x4, .int .u16 x5, .int .u16 x6, .int .u16 x7, .int .i64 x8, .int .i64 x9, .int .i64 x10, .int .i64 x11, .int .i64 x12, .int .i64 x13, .int .i64 x14, .int .i64 x15] (0, 0) _ ((heap_below _ _ _ (by simp only [World.size_alloc]; omega)).trans ((heap_below _ _ _ (by simp only [World.size_alloc]; omega)).trans ((heap_below _ _ _ (by simp only [World.size_alloc]; omega)).trans (heap_at W _)))) Tryz.underlying87 rfl (by kernel_rfl)
theorem scan_st3 {n : Nat} (W : World) (x0 x1 x2 x3 x4 x5 x6 x7 x8 x9 x10 x11 x12 x13 x14 x15 y0 y1 y2 y3 y4 y5 y6 y7 y8 y9 y10 y11 y12 y13 y14 y15 : Int) (o1 o2 o3 : Obj) (hn : n = W.heap.size) :
    (storeVar 87 ⟨n, 0, none⟩ (.agg #[.int .u16 y0, .int .u16 y1, .int .u16 y2, .int .u16 y3, .int .u16 y4, .int .u16 y5, .int .u16 y6, .int .u16 y7, .int .i64 y8, .int .i64 y9, .int .i64 y10, .int .i64 y11, .int .i64 y12, .int .i64 y13, .int .i64 y14, .int .i64 y15])).run Tryz.prog ((((W.alloc (.cells #[.int .u16 x0, .int .u16 x1, .int .u16 x2, .int .u16 x3, .int .u16 x4, .int .u16 x5, .int .u16 x6, .int .u16 x7, .int .i64 x8, .int .i64 x9, .int .i64 x10, .int .i64 x11, .int .i64 x12, .int .i64 x13, .int .i64 x14, .int .i64 x15] 87)).alloc o1).alloc o2).alloc o3) = .ok () ((((W.alloc (.cells #[.int .u16 y0, .int .u16 y1, .int .u16 y2, .int .u16 y3, .int .u16 y4, .int .u16 y5, .int .u16 y6, .int .u16 y7, .int .i64 y8, .int .i64 y9, .int .i64 y10, .int .i64 y11, .int .i64 y12, .int .i64 y13, .int .i64 y14, .int .i64 y15] 87)).alloc o1).alloc o2).alloc o3) := by
  subst hn
  rw [run_storeVar_row _ _ 87 87 #[.int .u16 x0, .int .u16 x1, .int .u16 x2, .int .u16 x3, .int .u16 x4, .int .u16 x5, .int .u16 x6, .int .u16 x7, .int .i64 x8, .int .i64 x9, .int .i64 x10, .int .i64 x11, .int .i64 x12, .int .i64 x13, .int .i64 x14, .int .i64 x15] #[.int .u16 y0, .int .u16 y1, .int .u16 y2, .int .u16 y3, .int .u16 y4, .int .u16 y5, .int .u16 y6, .int .u16 y7, .int .i64 y8, .int .i64 y9, .int .i64 y10, .int .i64 y11, .int .i64 y12, .int .i64 y13, .int .i64 y14, .int .i64 y15] ((heap_below _ _ _ (by simp only [World.size_alloc]; omega)).trans ((heap_below _ _ _ (by simp only [World.size_alloc]; omega)).trans ((heap_below _ _ _ (by simp only [World.size_alloc]; omega)).trans (heap_at W _)))) (by kernel_rfl) rfl (by simp [Value.oneCell'])]
  congr 1
  exact (setRow_below _ _ _ _ (by simp only [World.size_alloc]; omega)).trans (congrArg (fun w => World.alloc w _) ((setRow_below _ _ _ _ (by simp only [World.size_alloc]; omega)).trans (congrArg (fun w => World.alloc w _) ((setRow_below _ _ _ _ (by simp only [World.size_alloc]; omega)).trans (congrArg (fun w => World.alloc w _) (setRow_new W _ _ _))))))
@[go_sem] theorem loadS_0 {n : Nat} (W : World) (x0 x1 x2 x3 x4 x5 x6 x7 x8 x9 x10 x11 x12 x13 x14 x15 : Int) (hn : n = W.heap.size) :
    (loadS (.pointer (some ⟨n, 0, none⟩))).run Tryz.prog (W.alloc (.cells #[.int .u16 x0, .int .u16 x1, .int .u16 x2, .int .u16 x3, .int .u16 x4, .int .u16 x5, .int .u16 x6, .int .u16 x7, .int .i64 x8, .int .i64 x9, .int .i64 x10, .int .i64 x11, .int .i64 x12, .int .i64 x13, .int .i64 x14, .int .i64 x15] 87)) = .ok (.agg #[.int .u16 x0, .int .u16 x1, .int .u16 x2, .int .u16 x3, .int .u16 x4, .int .u16 x5, .int .u16 x6, .int .u16 x7, .int .i64 x8, .int .i64 x9, .int .i64 x10, .int .i64 x11, .int .i64 x12, .int .i64 x13, .int .i64 x14, .int .i64 x15]) (W.alloc (.cells #[.int .u16 x0, .int .u16 x1, .int .u16 x2, .int .u16 x3, .int .u16 x4, .int .u16 x5, .int .u16 x6, .int .u16 x7, .int .i64 x8, .int .i64 x9, .int .i64 x10, .int .i64 x11, .int .i64 x12, .int .i64 x13, .int .i64 x14, .int .i64 x15] 87)) := by
  unfold loadS
  simp only [Instr.loadAt, Instr.sureAddr, Sem.run_bind, Sem.run_pure, Result.andThen]
  exact scan_ld0 W _ _ _ _ _ _ _ _ _ _ _ _ _ _ _ _ hn
@[go_sem] theorem loadVS_0 {n : Nat} (W : World) (x0 x1 x2 x3 x4 x5 x6 x7 x8 x9 x10 x11 x12 x13 x14 x15 : Int) (hn : n = W.heap.size) :
    (loadVS ⟨n, 0, none⟩).run Tryz.prog (W.alloc (.cells #[.int .u16 x0, .int .u16 x1, .int .u16 x2, .int .u16 x3, .int .u16 x4, .int .u16 x5, .int .u16 x6, .int .u16 x7, .int .i64 x8, .int .i64 x9, .int .i64 x10, .int .i64 x11, .int .i64 x12, .int .i64 x13, .int .i64 x14, .int .i64 x15] 87)) = .ok (.agg #[.int .u16 x0, .int .u16 x1, .int .u16 x2, .int .u16 x3, .int .u16 x4, .int .u16 x5, .int .u16 x6, .int .u16 x7, .int .i64 x8, .int .i64 x9, .int .i64 x10, .int .i64 x11, .int .i64 x12, .int .i64 x13, .int .i64 x14, .int .i64 x15]) (W.alloc (.cells #[.int .u16 x0, .int .u16 x1, .int .u16 x2, .int .u16 x3, .int .u16 x4, .int .u16 x5, .int .u16 x6, .int .u16 x7, .int .i64 x8, .int .i64 x9, .int .i64 x10, .int .i64 x11, .int .i64 x12, .int .i64 x13, .int .i64 x14, .int .i64 x15] 87)) := by
  unfold loadVS
  exact scan_ld0 W _ _ _ _ _ _ _ _ _ _ _ _ _ _ _ _ hn
@[go_sem] theorem storeS_0 {n : Nat} (W : World) (x0 x1 x2 x3 x4 x5 x6 x7 x8 x9 x10 x11 x12 x13 x14 x15 y0 y1 y2 y3 y4 y5 y6 y7 y8 y9 y10 y11 y12 y13 y14 y15 : Int) (hn : n = W.heap.size) :
    (storeS (.pointer (some ⟨n, 0, none⟩)) (.agg #[.int .u16 y0, .int .u16 y1, .int .u16 y2, .int .u16 y3, .int .u16 y4, .int .u16 y5, .int .u16 y6, .int .u16 y7, .int .i64 y8, .int .i64 y9, .int .i64 y10, .int .i64 y11, .int .i64 y12, .int .i64 y13, .int .i64 y14, .int .i64 y15])).run Tryz.prog (W.alloc (.cells #[.int .u16 x0, .int .u16 x1, .int .u16 x2, .int .u16 x3, .int .u16 x4, .int .u16 x5, .int .u16 x6, .int .u16 x7, .int .i64 x8, .int .i64 x9, .int .i64 x10, .int .i64 x11, .int .i64 x12, .int .i64 x13, .int .i64 x14, .int .i64 x15] 87)) = .ok () (W.alloc (.cells #[.int .u16 y0, .int .u16 y1, .int .u16 y2, .int .u16 y3, .int .u16 y4, .int .u16 y5, .int .u16 y6, .int .u16 y7, .int .i64 y8, .int .i64 y9, .int .i64 y10, .int .i64 y11, .int .i64 y12, .int .i64 y13, .int .i64 y14, .int .i64 y15] 87)) := by
  unfold storeS
  simp only [Instr.storeAt, Instr.sureAddr, Sem.run_bind, Sem.run_pure, Result.andThen]
  exact scan_st0 W _ _ _ _ _ _ _ _ _ _ _ _ _ _ _ _ _ _ _ _ _ _ _ _ _ _ _ _ _ _ _ _ hn
@[go_sem] theorem loadS_1 {n : Nat} (W : World) (x0 x1 x2 x3 x4 x5 x6 x7 x8 x9 x10 x11 x12 x13 x14 x15 : Int) (o1 : Obj) (hn : n = W.heap.size) :
    (loadS (.pointer (some ⟨n, 0, none⟩))).run Tryz.prog ((W.alloc (.cells #[.int .u16 x0, .int .u16 x1, .int .u16 x2, .int .u16 x3, .int .u16 x4, .int .u16 x5, .int .u16 x6, .int .u16 x7, .int .i64 x8, .int .i64 x9, .int .i64 x10, .int .i64 x11, .int .i64 x12, .int .i64 x13, .int .i64 x14, .int .i64 x15] 87)).alloc o1) = .ok (.agg #[.int .u16 x0, .int .u16 x1, .int .u16 x2, .int .u16 x3, .int .u16 x4, .int .u16 x5, .int .u16 x6, .int .u16 x7, .int .i64 x8, .int .i64 x9, .int .i64 x10, .int .i64 x11, .int .i64 x12, .int .i64 x13, .int .i64 x14, .int .i64 x15]) ((W.alloc (.cells #[.int .u16 x0, .int .u16 x1, .int .u16 x2, .int .u16 x3, .int .u16 x4, .int .u16 x5, .int .u16 x6, .int .u16 x7, .int .i64 x8, .int .i64 x9, .int .i64 x10, .int .i64 x11, .int .i64 x12, .int .i64 x13, .int .i64 x14, .int .i64 x15] 87)).alloc o1) := by
  unfold loadS
  simp only [Instr.loadAt, Instr.sureAddr, Sem.run_bind, Sem.run_pure, Result.andThen]
  exact scan_ld1 W _ _ _ _ _ _ _ _ _ _ _ _ _ _ _ _ _ hn
@[go_sem] theorem loadVS_1 {n : Nat} (W : World) (x0 x1 x2 x3 x4 x5 x6 x7 x8 x9 x10 x11 x12 x13 x14 x15 : Int) (o1 : Obj) (hn : n = W.heap.size) :
    (loadVS ⟨n, 0, none⟩).run Tryz.prog ((W.alloc (.cells #[.int .u16 x0, .int .u16 x1, .int .u16 x2, .int .u16 x3, .int .u16 x4, .int .u16 x5, .int .u16 x6, .int .u16 x7, .int .i64 x8, .int .i64 x9, .int .i64 x10, .int .i64 x11, .int .i64 x12, .int .i64 x13, .int .i64 x14, .int .i64 x15] 87)).alloc o1) = .ok (.agg #[.int .u16 x0, .int .u16 x1, .int .u16 x2, .int .u16 x3, .int .u16 x4, .int .u16 x5, .int .u16 x6, .int .u16 x7, .int .i64 x8, .int .i64 x9, .int .i64 x10, .int .i64 x11, .int .i64 x12, .int .i64 x13, .int .i64 x14, .int .i64 x15]) ((W.alloc (.cells #[.int .u16 x0, .int .u16 x1, .int .u16 x2, .int .u16 x3, .int .u16 x4, .int .u16 x5, .int .u16 x6, .int .u16 x7, .int .i64 x8, .int .i64 x9, .int .i64 x10, .int .i64 x11, .int .i64 x12, .int .i64 x13, .int .i64 x14, .int .i64 x15] 87)).alloc o1) := by
  unfold loadVS
  exact scan_ld1 W _ _ _ _ _ _ _ _ _ _ _ _ _ _ _ _ _ hn
@[go_sem] theorem storeS_1 {n : Nat} (W : World) (x0 x1 x2 x3 x4 x5 x6 x7 x8 x9 x10 x11 x12 x13 x14 x15 y0 y1 y2 y3 y4 y5 y6 y7 y8 y9 y10 y11 y12 y13 y14 y15 : Int) (o1 : Obj) (hn : n = W.heap.size) :
    (storeS (.pointer (some ⟨n, 0, none⟩)) (.agg #[.int .u16 y0, .int .u16 y1, .int .u16 y2, .int .u16 y3, .int .u16 y4, .int .u16 y5, .int .u16 y6, .int .u16 y7, .int .i64 y8, .int .i64 y9, .int .i64 y10, .int .i64 y11, .int .i64 y12, .int .i64 y13, .int .i64 y14, .int .i64 y15])).run Tryz.prog ((W.alloc (.cells #[.int .u16 x0, .int .u16 x1, .int .u16 x2, .int .u16 x3, .int .u16 x4, .int .u16 x5, .int .u16 x6, .int .u16 x7, .int .i64 x8, .int .i64 x9, .int .i64 x10, .int .i64 x11, .int .i64 x12, .int .i64 x13, .int .i64 x14, .int .i64 x15] 87)).alloc o1) = .ok () ((W.alloc (.cells #[.int .u16 y0, .int .u16 y1, .int .u16 y2, .int .u16 y3, .int .u16 y4, .int .u16 y5, .int .u16 y6, .int .u16 y7, .int .i64 y8, .int .i64 y9, .int .i64 y10, .int .i64 y11, .int .i64 y12, .int .i64 y13, .int .i64 y14, .int .i64 y15] 87)).alloc o1) := by
  unfold storeS
  simp only [Instr.storeAt, Instr.sureAddr, Sem.run_bind, Sem.run_pure, Result.andThen]
  exact scan_st1 W _ _ _ _ _ _ _ _ _ _ _ _ _ _ _ _ _ _ _ _ _ _ _ _ _ _ _ _ _ _ _ _ _ hn
@[go_sem] theorem loadS_2 {n : Nat} (W : World) (x0 x1 x2 x3 x4 x5 x6 x7 x8 x9 x10 x11 x12 x13 x14 x15 : Int) (o1 o2 : Obj) (hn : n = W.heap.size) :
    (loadS (.pointer (some ⟨n, 0, none⟩))).run Tryz.prog (((W.alloc (.cells #[.int .u16 x0, .int .u16 x1, .int .u16 x2, .int .u16 x3, .int .u16 x4, .int .u16 x5, .int .u16 x6, .int .u16 x7, .int .i64 x8, .int .i64 x9, .int .i64 x10, .int .i64 x11, .int .i64 x12, .int .i64 x13, .int .i64 x14, .int .i64 x15] 87)).alloc o1).alloc o2) = .ok (.agg #[.int .u16 x0, .int .u16 x1, .int .u16 x2, .int .u16 x3, .int .u16 x4, .int .u16 x5, .int .u16 x6, .int .u16 x7, .int .i64 x8, .int .i64 x9, .int .i64 x10, .int .i64 x11, .int .i64 x12, .int .i64 x13, .int .i64 x14, .int .i64 x15]) (((W.alloc (.cells #[.int .u16 x0, .int .u16 x1, .int .u16 x2, .int .u16 x3, .int .u16 x4, .int .u16 x5, .int .u16 x6, .int .u16 x7, .int .i64 x8, .int .i64 x9, .int .i64 x10, .int .i64 x11, .int .i64 x12, .int .i64 x13, .int .i64 x14, .int .i64 x15] 87)).alloc o1).alloc o2) := by
  unfold loadS
  simp only [Instr.loadAt, Instr.sureAddr, Sem.run_bind, Sem.run_pure, Result.andThen]
  exact scan_ld2 W _ _ _ _ _ _ _ _ _ _ _ _ _ _ _ _ _ _ hn
@[go_sem] theorem loadVS_2 {n : Nat} (W : World) (x0 x1 x2 x3 x4 x5 x6 x7 x8 x9 x10 x11 x12 x13 x14 x15 : Int) (o1 o2 : Obj) (hn : n = W.heap.size) :
    (loadVS ⟨n, 0, none⟩).run Tryz.prog (((W.alloc (.cells #[.int .u16 x0, .int .u16 x1, .int .u16 x2, .int .u16 x3, .int .u16 x4, .int .u16 x5, .int .u16 x6, .int .u16 x7, .int .i64 x8, .int .i64 x9, .int .i64 x10, .int .i64 x11, .int .i64 x12, .int .i64 x13, .int .i64 x14, .int .i64 x15] 87)).alloc o1).alloc o2) = .ok (.agg #[.int .u16 x0, .int .u16 x1, .int .u16 x2, .int .u16 x3, .int .u16 x4, .int .u16 x5, .int .u16 x6, .int .u16 x7, .int .i64 x8, .int .i64 x9, .int .i64 x10, .int .i64 x11, .int .i64 x12, .int .i64 x13, .int .i64 x14, .int .i64 x15]) (((W.alloc (.cells #[.int .u16 x0, .int .u16 x1, .int .u16 x2, .int .u16 x3, .int .u16 x4, .int .u16 x5, .int .u16 x6, .int .u16 x7, .int .i64 x8, .int .i64 x9, .int .i64 x10, .int .i64 x11, .int .i64 x12, .int .i64 x13, .int .i64 x14, .int .i64 x15] 87)).alloc o1).alloc o2) := by
  unfold loadVS
  exact scan_ld2 W _ _ _ _ _ _ _ _ _ _ _ _ _ _ _ _ _ _ hn
@[go_sem] theorem storeS_2 {n : Nat} (W : World) (x0 x1 x2 x3 x4 x5 x6 x7 x8 x9 x10 x11 x12 x13 x14 x15 y0 y1 y2 y3 y4 y5 y6 y7 y8 y9 y10 y11 y12 y13 y14 y15 : Int) (o1 o2 : Obj) (hn : n = W.heap.size) :
    (storeS (.pointer (some ⟨n, 0, none⟩)) (.agg #[.int .u16 y0, .int .u16 y1, .int .u16 y2, .int .u16 y3, .int .u16 y4, .int .u16 y5, .int .u16 y6, .int .u16 y7, .int .i64 y8, .int .i64 y9, .int .i64 y10, .int .i64 y11, .int .i64 y12, .int .i64 y13, .int .i64 y14, .int .i64 y15])).run Tryz.prog (((W.alloc (.cells #[.int .u16 x0, .int .u16 x1, .int .u16 x2, .int .u16 x3, .int .u16 x4, .int .u16 x5, .int .u16 x6, .int .u16 x7, .int .i64 x8, .int .i64 x9, .int .i64 x10, .int .i64 x11, .int .i64 x12, .int .i64 x13, .int .i64 x14, .int .i64 x15] 87)).alloc o1).alloc o2) = .ok () (((W.alloc (.cells #[.int .u16 y0, .int .u16 y1, .int .u16 y2, .int .u16 y3, .int .u16 y4, .int .u16 y5, .int .u16 y6, .int .u16 y7, .int .i64 y8, .int .i64 y9, .int .i64 y10, .int .i64 y11, .int .i64 y12, .int .i64 y13, .int .i64 y14, .int .i64 y15] 87)).alloc o1).alloc o2) := by
  unfold storeS
  simp only [Instr.storeAt, Instr.sureAddr, Sem.run_bind, Sem.run_pure, Result.andThen]
  exact scan_st2 W _ _ _ _ _ _ _ _ _ _ _ _ _ _ _ _ _ _ _ _ _ _ _ _ _ _ _ _ _ _ _ _ _ _ hn
@[go_sem] theorem loadS_3 {n : Nat} (W : World) (x0 x1 x2 x3 x4 x5 x6 x7 x8 x9 x10 x11 x12 x13 x14 x15 : Int) (o1 o2 o3 : Obj) (hn : n = W.heap.size) :
    (loadS (.pointer (some ⟨n, 0, none⟩))).run Tryz.prog ((((W.alloc (.cells #[.int .u16 x0, .int .u16 x1, .int .u16 x2, .int .u16 x3, .int .u16 x4, .int .u16 x5, .int .u16 x6, .int .u16 x7, .int .i64 x8, .int .i64 x9, .int .i64 x10, .int .i64 x11, .int .i64 x12, .int .i64 x13, .int .i64 x14, .int .i64 x15] 87)).alloc o1).alloc o2).alloc o3) = .ok (.agg #[.int .u16 x0, .int .u16 x1, .int .u16 x2, .int .u16 x3, .int .u16 x4, .int .u16 x5, .int .u16 x6, .int .u16 x7, .int .i64 x8, .int .i64 x9, .int .i64 x10, .int .i64 x11, .int .i64 x12, .int .i64 x13, .int .i64 x14, .int .i64 x15]) ((((W.alloc (.cells #[.int .u16 x0, .int .u16 x1, .int .u16 x2, .int .u16 x3, .int .u16 x4, .int .u16 x5, .int .u16 x6, .int .u16 x7, .int .i64 x8, .int .i64 x9, .int .i64 x10, .int .i64 x11, .int .i64 x12, .int .i64 x13, .int .i64 x14, .int .i64 x15] 87)).alloc o1).alloc o2).alloc o3) := by
  unfold loadS
  simp only [Instr.loadAt, Instr.sureAddr, Sem.run_bind, Sem.run_pure, Result.andThen]
  exact scan_ld3 W _ _ _ _ _ _ _ _ _ _ _ _ _ _ _ _ _ _ _ hn
@[go_sem] theorem loadVS_3 {n : Nat} (W : World) (x0 x1 x2 x3 x4 x5 x6 x7 x8 x9 x10 x11 x12 x13 x14 x15 : Int) (o1 o2 o3 : Obj) (hn : n = W.heap.size) :
    (loadVS ⟨n, 0, none⟩).run Tryz.prog ((((W.alloc (.cells #[.int .u16 x0, .int .u16 x1, .int .u16 x2, .int .u16 x3, .int .u16 x4, .int .u16 x5, .int .u16 x6, .int .u16 x7, .int .i64 x8, .int .i64 x9, .int .i64 x10, .int .i64 x11, .int .i64 x12, .int .i64 x13, .int .i64 x14, .int .i64 x15] 87)).alloc o1).alloc o2).alloc o3) = .ok (.agg #[.int .u16 x0, .int .u16 x1, .int .u16 x2, .int .u16 x3, .int .u16 x4, .int .u16 x5, .int .u16 x6, .int .u16 x7, .int .i64 x8, .int .i64 x9, .int .i64 x10, .int .i64 x11, .int .i64 x12, .int .i64 x13, .int .i64 x14, .int .i64 x15]) ((((W.alloc (.cells #[.int .u16 x0, .int .u16 x1, .int .u16 x2, .int .u16 x3, .int .u16 x4, .int .u16 x5, .int .u16 x6, .int .u16 x7, .int .i64 x8, .int .i64 x9, .int .i64 x10, .int .i64 x11, .int .i64 x12, .int .i64 x13, .int .i64 x14, .int .i64 x15] 87)).alloc o1).alloc o2).alloc o3) := by
  unfold loadVS
  exact scan_ld3 W _ _ _ _ _ _ _ _ _ _ _ _ _ _ _ _ _ _ _ hn
@[go_sem] theorem storeS_3 {n : Nat} (W : World) (x0 x1 x2 x3 x4 x5 x6 x7 x8 x9 x10 x11 x12 x13 x14 x15 y0 y1 y2 y3 y4 y5 y6 y7 y8 y9 y10 y11 y12 y13 y14 y15 : Int) (o1 o2 o3 : Obj) (hn : n = W.heap.size) :
    (storeS (.pointer (some ⟨n, 0, none⟩)) (.agg #[.int .u16 y0, .int .u16 y1, .int .u16 y2, .int .u16 y3, .int .u16 y4, .int .u16 y5, .int .u16 y6, .int .u16 y7, .int .i64 y8, .int .i64 y9, .int .i64 y10, .int .i64 y11, .int .i64 y12, .int .i64 y13, .int .i64 y14, .int .i64 y15])).run Tryz.prog ((((W.alloc (.cells #[.int .u16 x0, .int .u16 x1, .int .u16 x2, .int .u16 x3, .int .u16 x4, .int .u16 x5, .int .u16 x6, .int .u16 x7, .int .i64 x8, .int .i64 x9, .int .i64 x10, .int .i64 x11, .int .i64 x12, .int .i64 x13, .int .i64 x14, .int .i64 x15] 87)).alloc o1).alloc o2).alloc o3) = .ok () ((((W.alloc (.cells #[.int .u16 y0, .int .u16 y1, .int .u16 y2, .int .u16 y3, .int .u16 y4, .int .u16 y5, .int .u16 y6, .int .u16 y7, .int .i64 y8, .int .i64 y9, .int .i64 y10, .int .i64 y11, .int .i64 y12, .int .i64 y13, .int .i64 y14, .int .i64 y15] 87)).alloc o1).alloc o2).alloc o3) := by
  unfold storeS
  simp only [Instr.storeAt, Instr.sureAddr, Sem.run_bind, Sem.run_pure, Result.andThen]
  exact scan_st3 W _ _ _ _ _ _ _ _ _ _ _ _ _ _ _ _ _ _ _ _ _ _ _ _ _ _ _ _ _ _ _ _ _ _ _ hn
/-- Blocks that were made behind a world. -/
@[irreducible] def GA (l : List Obj) (W : World) : World := l.foldl World.alloc W
theorem GA_nil (W : World) : GA [] W = W := by unfold GA; rfl
theorem GA_cons (o : Obj) (l : List Obj) (W : World) : GA (o :: l) W = GA l (W.alloc o) := by unfold GA; rfl
theorem GA_GA (l m : List Obj) (W : World) : GA m (GA l W) = GA (l ++ m) W := by unfold GA; rw [List.foldl_append]
theorem GA_one (o : Obj) (W : World) : W.alloc o = GA [o] W := by rw [GA_cons, GA_nil]
theorem GA_drewN : ∀ (l : List Obj) (W : World) (m : Nat), (GA l W).drewN m = GA l (W.drewN m)
  | [], W, m => by rw [GA_nil, GA_nil]
  | o :: l, W, m => by rw [GA_cons, GA_cons, GA_drewN l, drewN_alloc]
theorem GA_heap : ∀ (l : List Obj) (W : World) (g : Nat), g < W.heap.size → (GA l W).heap[g]? = W.heap[g]?
  | [], W, g, _ => by rw [GA_nil]
  | o :: l, W, g, h => by rw [GA_cons, GA_heap l _ g (by simp; omega), heap_below _ _ _ h]
theorem GA_below : ∀ (l : List Obj) (w W : World), Below w.heap.size w W → Below w.heap.size w (GA l W)
  | [], w, W, h => by rw [GA_nil]; exact h
  | o :: l, w, W, h => by rw [GA_cons]; exact GA_below l w _ (h.alloc h.size _)
theorem GA_below_drew (l : List Obj) (w : World) (m : Nat) : Below w.heap.size w (GA l (w.drewN m)) := GA_below l w _ (bdn (Below.refl _ _) m)
theorem setCell_below (W : World) (o : Obj) (a : Addr) (v : Value) (h : a.block < W.heap.size) : (W.alloc o).setCell a v = (W.setCell a v).alloc o := by
  simp only [World.setCell, World.alloc]
  congr 1
  apply Array.ext_getElem?
  intro i
  rw [Array.getElem?_modify, Array.getElem?_push, Array.getElem?_push, Array.size_modify, Array.getElem?_modify]
  by_cases h1 : i = W.heap.size
  · have h2 : ¬ a.block = i := by omega
    simp [h1, h2]
    intro e
    omega
  · by_cases h2 : a.block = i
    · simp [h1, h2]
    · simp [h1, h2]
theorem GA_setRow : ∀ (l : List Obj) (W : World) (g : Nat) (c : Array Value), g < W.heap.size → (GA l W).setRow g c = GA l (W.setRow g c)
  | [], W, g, c, _ => by rw [GA_nil, GA_nil]
  | o :: l, W, g, c, h => by rw [GA_cons, GA_cons, GA_setRow l _ g c (by simp; omega), setRow_below _ _ _ _ h]
@[go_sem] theorem GA_setCell {n k : Nat} (l : List Obj) (W : World) (v : Value) (h : n < W.heap.size) : (GA l W).setCell ⟨n, k, none⟩ v = GA l (W.setCell ⟨n, k, none⟩ v) := by
  induction l generalizing W with
  | nil => rw [GA_nil, GA_nil]
  | cons o l ih => rw [GA_cons, GA_cons, ih _ (by simp; omega), setCell_below _ _ _ _ h]
@[go_sem] theorem GA_cell {n k : Nat} (l : List Obj) (W : World) (h : n < W.heap.size) : (GA l W).cell? ⟨n, k, none⟩ = W.cell? ⟨n, k, none⟩ := by
  have e := GA_heap l W n h
  simp only [World.cell?, e]
@[go_sem] theorem GA_frozen {n k : Nat} (l : List Obj) (W : World) (h : n < W.heap.size) : (GA l W).frozen? ⟨n, k, none⟩ = W.frozen? ⟨n, k, none⟩ := by
  have e := GA_heap l W n h
  simp only [World.frozen?, e]
theorem scan_gld0 {n : Nat} (l : List Obj) (W : World) (x0 x1 x2 x3 x4 x5 x6 x7 x8 x9 x10 x11 x12 x13 x14 x15 : Int) (hn : n = W.heap.size) :
    (loadVar 87 ⟨n, 0, none⟩).run Tryz.prog (GA l (W.alloc (.cells #[.int .u16 x0, .int .u16 x1, .int .u16 x2, .int .u16 x3, .int .u16 x4, .int .u16 x5, .int .u16 x6, .int .u16 x7, .int .i64 x8, .int .i64 x9, .int .i64 x10, .int .i64 x11, .int .i64 x12, .int .i64 x13, .int .i64 x14, .int .i64 x15] 87))) = .ok (.agg #[.int .u16 x0, .int .u16 x1, .int .u16 x2, .int .u16 x3, .int .u16 x4, .int .u16 x5, .int .u16 x6, .int .u16 x7, .int .i64 x8, .int .i64 x9, .int .i64 x10, .int .i64 x11, .int .i64 x12, .int .i64 x13, .int .i64 x14, .int .i64 x15]) (GA l (W.alloc (.cells #[.int .u16 x0, .int .u16 x1, .int .u16 x2, .int .u16 x3, .int .u16 x4, .int .u16 x5, .int .u16 x6, .int .u16 x7, .int .i64 x8, .int .i64 x9, .int .i64 x10, .int .i64 x11, .int .i64 x12, .int .i64 x13, .int .i64 x14, .int .i64 x15] 87))) := by
  subst hn
  exact run_loadVar_row _ _ 87 87 #[.int .u16 x0, .int .u16 x1, .int .u16 x2, .int .u16 x3, .int .u16 x4, .int .u16 x5, .int .u16 x6, .int .u16 x7, .int .i64 x8, .int .i64 x9, .int .i64 x10, .int .i64 x11, .int .i64 x12, .int .i64 x13, .int .i64 x14, .int .i64 x15] (0, 0) _ ((GA_heap _ _ _ (by simp only [World.size_alloc]; omega)).trans (heap_at W _)) Tryz.underlying87 rfl (by kernel_rfl)
@[go_sem] theorem loadS_g0 {n : Nat} (l : List Obj) (W : World) (x0 x1 x2 x3 x4 x5 x6 x7 x8 x9 x10 x11 x12 x13 x14 x15 : Int) (hn : n = W.heap.size) :
    (loadS (.pointer (some ⟨n, 0, none⟩))).run Tryz.prog (GA l (W.alloc (.cells #[.int .u16 x0, .int .u16 x1, .int .u16 x2, .int .u16 x3, .int .u16 x4, .int .u16 x5, .int .u16 x6, .int .u16 x7, .int .i64 x8, .int .i64 x9, .int .i64 x10, .int .i64 x11, .int .i64 x12, .int .i64 x13, .int .i64 x14, .int .i64 x15] 87))) = .ok (.agg #[.int .u16 x0, .int .u16 x1, .int .u16 x2, .int .u16 x3, .int .u16 x4, .int .u16 x5, .int .u16 x6, .int .u16 x7, .int .i64 x8, .int .i64 x9, .int .i64 x10, .int .i64 x11, .int .i64 x12, .int .i64 x13, .int .i64 x14, .int .i64 x15]) (GA l (W.alloc (.cells #[.int .u16 x0, .int .u16 x1, .int .u16 x2, .int .u16 x3, .int .u16 x4, .int .u16 x5, .int .u16 x6, .int .u16 x7, .int .i64 x8, .int .i64 x9, .int .i64 x10, .int .i64 x11, .int .i64 x12, .int .i64 x13, .int .i64 x14, .int .i64 x15] 87))) := by
  unfold loadS
  simp only [Instr.loadAt, Instr.sureAddr, Sem.run_bind, Sem.run_pure, Result.andThen]
  exact scan_gld0 l W _ _ _ _ _ _ _ _ _ _ _ _ _ _ _ _ hn
@[go_sem] theorem storeS_g0 {n : Nat} (l : List Obj) (W : World) (x0 x1 x2 x3 x4 x5 x6 x7 x8 x9 x10 x11 x12 x13 x14 x15 y0 y1 y2 y3 y4 y5 y6 y7 y8 y9 y10 y11 y12 y13 y14 y15 : Int) (hn : n = W.heap.size) :
    (storeS (.pointer (some ⟨n, 0, none⟩)) (.agg #[.int .u16 y0, .int .u16 y1, .int .u16 y2, .int .u16 y3, .int .u16 y4, .int .u16 y5, .int .u16 y6, .int .u16 y7, .int .i64 y8, .int .i64 y9, .int .i64 y10, .int .i64 y11, .int .i64 y12, .int .i64 y13, .int .i64 y14, .int .i64 y15])).run Tryz.prog (GA l (W.alloc (.cells #[.int .u16 x0, .int .u16 x1, .int .u16 x2, .int .u16 x3, .int .u16 x4, .int .u16 x5, .int .u16 x6, .int .u16 x7, .int .i64 x8, .int .i64 x9, .int .i64 x10, .int .i64 x11, .int .i64 x12, .int .i64 x13, .int .i64 x14, .int .i64 x15] 87))) = .ok () (GA l (W.alloc (.cells #[.int .u16 y0, .int .u16 y1, .int .u16 y2, .int .u16 y3, .int .u16 y4, .int .u16 y5, .int .u16 y6, .int .u16 y7, .int .i64 y8, .int .i64 y9, .int .i64 y10, .int .i64 y11, .int .i64 y12, .int .i64 y13, .int .i64 y14, .int .i64 y15] 87))) := by
  unfold storeS
  simp only [Instr.storeAt, Instr.sureAddr, Sem.run_bind, Sem.run_pure, Result.andThen]
  subst hn
  rw [run_storeVar_row _ _ 87 87 #[.int .u16 x0, .int .u16 x1, .int .u16 x2, .int .u16 x3, .int .u16 x4, .int .u16 x5, .int .u16 x6, .int .u16 x7, .int .i64 x8, .int .i64 x9, .int .i64 x10, .int .i64 x11, .int .i64 x12, .int .i64 x13, .int .i64 x14, .int .i64 x15] #[.int .u16 y0, .int .u16 y1, .int .u16 y2, .int .u16 y3, .int .u16 y4, .int .u16 y5, .int .u16 y6, .int .u16 y7, .int .i64 y8, .int .i64 y9, .int .i64 y10, .int .i64 y11, .int .i64 y12, .int .i64 y13, .int .i64 y14, .int .i64 y15] ((GA_heap _ _ _ (by simp only [World.size_alloc]; omega)).trans (heap_at W _)) (by kernel_rfl) rfl (by simp [Value.oneCell'])]
  rw [GA_setRow _ _ _ _ (by simp only [World.size_alloc]; omega)]
  congr 2
  exact setRow_new W _ _ _
theorem scan_gld1 {n : Nat} (l : List Obj) (W : World) (x0 x1 x2 x3 x4 x5 x6 x7 x8 x9 x10 x11 x12 x13 x14 x15 : Int) (o1 : Obj) (hn : n = W.heap.size) :
    (loadVar 87 ⟨n, 0, none⟩).run Tryz.prog (GA l ((W.alloc (.cells #[.int .u16 x0, .int .u16 x1, .int .u16 x2, .int .u16 x3, .int .u16 x4, .int .u16 x5, .int .u16 x6, .int .u16 x7, .int .i64 x8, .int .i64 x9, .int .i64 x10, .int .i64 x11, .int .i64 x12, .int .i64 x13, .int .i64 x14, .int .i64 x15] 87)).alloc o1)) = .ok (.agg #[.int .u16 x0, .int .u16 x1, .int .u16 x2, .int .u16 x3, .int .u16 x4, .int .u16 x5, .int .u16 x6, .int .u16 x7, .int .i64 x8, .int .i64 x9, .int .i64 x10, .int .i64 x11, .int .i64 x12, .int .i64 x13, .int .i64 x14, .int .i64 x15]) (GA l ((W.alloc (.cells #[.int .u16 x0, .int .u16 x1, .int .u16 x2, .int .u16 x3, .int .u16 x4, .int .u16 x5, .int .u16 x6, .int .u16 x7, .int .i64 x8, .int .i64 x9, .int .i64 x10, .int .i64 x11, .int .i64 x12, .int .i64 x13, .int .i64 x14, .int .i64 x15] 87)).alloc o1)) := by
  subst hn
  exact run_loadVar_row _ _ 87 87 #[.int .u16 x0, .int .u16 x1, .int .u16 x2, .int .u16 x3, .int .u16 x4, .int .u16 x5, .int .u16 x6, .int .u16 x7, .int .i64 x8, .int .i64 x9, .int .i64 x10, .int .i64 x11, .int .i64 x12, .int .i64 x13, .int .i64 x14, .int .i64 x15] (0, 0) _ ((GA_heap _ _ _ (by simp only [World.size_alloc]; omega)).trans ((heap_below _ _ _ (by simp only [World.size_alloc]; omega)).trans (heap_at W _))) Tryz.underlying87 rfl (by kernel_rfl)
@[go_sem] theorem loadS_g1 {n : Nat} (l : List Obj) (W : World) (x0 x1 x2 x3 x4 x5 x6 x7 x8 x9 x10 x11 x12 x13 x14 x15 : Int) (o1 : Obj) (hn : n = W.heap.size) :
    (loadS (.pointer (some ⟨n, 0, none⟩))).run Tryz.prog (GA l ((W.alloc (.cells #[.int .u16 x0, .int .u16 x1, .int .u16 x2, .int .u16 x3, .int .u16 x4, .int .u16 x5, .int .u16 x6, .int .u16 x7, .int .i64 x8, .int .i64 x9, .int .i64 x10, .int .i64 x11, .int .i64 x12, .int .i64 x13, .int .i64 x14, .int .i64 x15] 87)).alloc o1)) = .ok (.agg #[.int .u16 x0, .int .u16 x1, .int .u16 x2, .int .u16 x3, .int .u16 x4, .int .u16 x5, .int .u16 x6, .int .u16 x7, .int .i64 x8, .int .i64 x9, .int .i64 x10, .int .i64 x11, .int .i64 x12, .int .i64 x13, .int .i64 x14, .int .i64 x15]) (GA l ((W.alloc (.cells #[.int .u16 x0, .int .u16 x1, .int .u16 x2, .int .u16 x3, .int .u16 x4, .int .u16 x5, .int .u16 x6, .int .u16 x7, .int .i64 x8, .int .i64 x9, .int .i64 x10, .int .i64 x11, .int .i64 x12, .int .i64 x13, .int .i64 x14, .int .i64 x15] 87)).alloc o1)) := by
  unfold loadS
  simp only [Instr.loadAt, Instr.sureAddr, Sem.run_bind, Sem.run_pure, Result.andThen]
  exact scan_gld1 l W _ _ _ _ _ _ _ _ _ _ _ _ _ _ _ _ _ hn
@[go_sem] theorem storeS_g1 {n : Nat} (l : List Obj) (W : World) (x0 x1 x2 x3 x4 x5 x6 x7 x8 x9 x10 x11 x12 x13 x14 x15 y0 y1 y2 y3 y4 y5 y6 y7 y8 y9 y10 y11 y12 y13 y14 y15 : Int) (o1 : Obj) (hn : n = W.heap.size) :
    (storeS (.pointer (some ⟨n, 0, none⟩)) (.agg #[.int .u16 y0, .int .u16 y1, .int .u16 y2, .int .u16 y3, .int .u16 y4, .int .u16 y5, .int .u16 y6, .int .u16 y7, .int .i64 y8, .int .i64 y9, .int .i64 y10, .int .i64 y11, .int .i64 y12, .int .i64 y13, .int .i64 y14, .int .i64 y15])).run Tryz.prog (GA l ((W.alloc (.cells #[.int .u16 x0, .int .u16 x1, .int .u16 x2, .int .u16 x3, .int .u16 x4, .int .u16 x5, .int .u16 x6, .int .u16 x7, .int .i64 x8, .int .i64 x9, .int .i64 x10, .int .i64 x11, .int .i64 x12, .int .i64 x13, .int .i64 x14, .int .i64 x15] 87)).alloc o1)) = .ok () (GA l ((W.alloc (.cells #[.int .u16 y0, .int .u16 y1, .int .u16 y2, .int .u16 y3, .int .u16 y4, .int .u16 y5, .int .u16 y6, .int .u16 y7, .int .i64 y8, .int .i64 y9, .int .i64 y10, .int .i64 y11, .int .i64 y12, .int .i64 y13, .int .i64 y14, .int .i64 y15] 87)).alloc o1)) := by
  unfold storeS
  simp only [Instr.storeAt, Instr.sureAddr, Sem.run_bind, Sem.run_pure, Result.andThen]
  subst hn
  rw [run_storeVar_row _ _ 87 87 #[.int .u16 x0, .int .u16 x1, .int .u16 x2, .int .u16 x3, .int .u16 x4, .int .u16 x5, .int .u16 x6, .int .u16 x7, .int .i64 x8, .int .i64 x9, .int .i64 x10, .int .i64 x11, .int .i64 x12, .int .i64 x13, .int .i64 x14, .int .i64 x15] #[.int .u16 y0, .int .u16 y1, .int .u16 y2, .int .u16 y3, .int .u16 y4, .int .u16 y5, .int .u16 y6, .int .u16 y7, .int .i64 y8, .int .i64 y9, .int .i64 y10, .int .i64 y11, .int .i64 y12, .int .i64 y13, .int .i64 y14, .int .i64 y15] ((GA_heap _ _ _ (by simp only [World.size_alloc]; omega)).trans ((heap_below _ _ _ (by simp only [World.size_alloc]; omega)).trans (heap_at W _))) (by kernel_rfl) rfl (by simp [Value.oneCell'])]
  rw [GA_setRow _ _ _ _ (by simp only [World.size_alloc]; omega)]
  congr 2
  exact (setRow_below _ _ _ _ (by simp only [World.size_alloc]; omega)).trans (congrArg (fun w => World.alloc w _) (setRow_new W _ _ _))
theorem scan_gld2 {n : Nat} (l : List Obj) (W : World) (x0 x1 x2 x3 x4 x5 x6 x7 x8 x9 x10 x11 x12 x13 x14 x15 : Int) (o1 o2 : Obj) (hn : n = W.heap.size) :
    (loadVar 87 ⟨n, 0, none⟩).run Tryz.prog (GA l (((W.alloc (.cells #[.int .u16 x0, .int .u16 x1, .int .u16 x2, .int .u16 x3, .int .u16 x4, .int .u16 x5, .int .u16 x6, .int .u16 x7, .int .i64 x8, .int .i64 x9, .int .i64 x10, .int .i64 x11, .int .i64 x12, .int .i64 x13, .int .i64 x14, .int .i64 x15] 87)).alloc o1).alloc o2)) = .ok (.agg #[.int .u16 x0, .int .u16 x1, .int .u16 x2, .int .u16 x3, .int .u16 x4, .int .u16 x5, .int .u16 x6, .int .u16 x7, .int .i64 x8, .int .i64 x9, .int .i64 x10, .int .i64 x11, .int .i64 x12, .int .i64 x13, .int .i64 x14, .int .i64 x15]) (GA l (((W.alloc (.cells #[.int .u16 x0, .int .u16 x1, .int .u16 x2, .int .u16 x3, .int .u16 x4, .int .u16 x5, .int .u16 x6, .int .u16 x7, .int .i64 x8, .int .i64 x9, .int .i64 x10, .int .i64 x11, .int .i64 x12, .int .i64 x13, .int .i64 x14, .int .i64 x15] 87)).alloc o1).alloc o2)) := by
  subst hn
  exact run_loadVar_row _ _ 87 87 #[.int .u16 x0, .int .u16 x1, .int .u16 x2, .int .u16 x3, .int .u16 x4, .int .u16 x5, .int .u16 x6, .int .u16 x7, .int .i64 x8, .int .i64 x9, .int .i64 x10, .int .i64 x11, .int .i64 x12, .int .i64 x13, .int .i64 x14, .int .i64 x15] (0, 0) _ ((GA_heap _ _ _ (by simp only [World.size_alloc]; omega)).trans ((heap_below _ _ _ (by simp only [World.size_alloc]; omega)).trans ((heap_below _ _ _ (by simp only [World.size_alloc]; omega)).trans (heap_at W _)))) Tryz.underlying87 rfl (by kernel_rfl)
@[go_sem] theorem loadS_g2 {n : Nat} (l : List Obj) (W : World) (x0 x1 x2 x3 x4 x5 x6 x7 x8 x9 x10 x11 x12 x13 x14 x15 : Int) (o1 o2 : Obj) (hn : n = W.heap.size) :
    (loadS (.pointer (some ⟨n, 0, none⟩))).run Tryz.prog (GA l (((W.alloc (.cells #[.int .u16 x0, .int .u16 x1, .int .u16 x2, .int .u16 x3, .int .u16 x4, .int .u16 x5, .int .u16 x6, .int .u16 x7, .int .i64 x8, .int .i64 x9, .int .i64 x10, .int .i64 x11, .int .i64 x12, .int .i64 x13, .int .i64 x14, .int .i64 x15] 87)).alloc o1).alloc o2)) = .ok (.agg #[.int .u16 x0, .int .u16 x1, .int .u16 x2, .int .u16 x3, .int .u16 x4, .int .u16 x5, .int .u16 x6, .int .u16 x7, .int .i64 x8, .int .i64 x9, .int .i64 x10, .int .i64 x11, .int .i64 x12, .int .i64 x13, .int .i64 x14, .int .i64 x15]) (GA l (((W.alloc (.cells #[.int .u16 x0, .int .u16 x1, .int .u16 x2, .int .u16 x3, .int .u16 x4, .int .u16 x5, .int .u16 x6, .int .u16 x7, .int .i64 x8, .int .i64 x9, .int .i64 x10, .int .i64 x11, .int .i64 x12, .int .i64 x13, .int .i64 x14, .int .i64 x15] 87)).alloc o1).alloc o2)) := by
  unfold loadS
  simp only [Instr.loadAt, Instr.sureAddr, Sem.run_bind, Sem.run_pure, Result.andThen]
  exact scan_gld2 l W _ _ _ _ _ _ _ _ _ _ _ _ _ _ _ _ _ _ hn
@[go_sem] theorem storeS_g2 {n : Nat} (l : List Obj) (W : World) (x0 x1 x2 x3 x4 x5 x6 x7 x8 x9 x10 x11 x12 x13 x14 x15 y0 y1 y2 y3 y4 y5 y6 y7 y8 y9 y10 y11 y12 y13 y14 y15 : Int) (o1 o2 : Obj) (hn : n = W.heap.size) :
    (storeS (.pointer (some ⟨n, 0, none⟩)) (.agg #[.int .u16 y0, .int .u16 y1, .int .u16 y2, .int .u16 y3, .int .u16 y4, .int .u16 y5, .int .u16 y6, .int .u16 y7, .int .i64 y8, .int .i64 y9, .int .i64 y10, .int .i64 y11, .int .i64 y12, .int .i64 y13, .int .i64 y14, .int .i64 y15])).run Tryz.prog (GA l (((W.alloc (.cells #[.int .u16 x0, .int .u16 x1, .int .u16 x2, .int .u16 x3, .int .u16 x4, .int .u16 x5, .int .u16 x6, .int .u16 x7, .int .i64 x8, .int .i64 x9, .int .i64 x10, .int .i64 x11, .int .i64 x12, .int .i64 x13, .int .i64 x14, .int .i64 x15] 87)).alloc o1).alloc o2)) = .ok () (GA l (((W.alloc (.cells #[.int .u16 y0, .int .u16 y1, .int .u16 y2, .int .u16 y3, .int .u16 y4, .int .u16 y5, .int .u16 y6, .int .u16 y7, .int .i64 y8, .int .i64 y9, .int .i64 y10, .int .i64 y11, .int .i64 y12, .int .i64 y13, .int .i64 y14, .int .i64 y15] 87)).alloc o1).alloc o2)) := by
  unfold storeS
  simp only [Instr.storeAt, Instr.sureAddr, Sem.run_bind, Sem.run_pure, Result.andThen]
  subst hn
  rw [run_storeVar_row _ _ 87 87 #[.int .u16 x0, .int .u16 x1, .int .u16 x2, .int .u16 x3, .int .u16 x4, .int .u16 x5, .int .u16 x6, .int .u16 x7, .int .i64 x8, .int .i64 x9, .int .i64 x10, .int .i64 x11, .int .i64 x12, .int .i64 x13, .int .i64 x14, .int .i64 x15] #[.int .u16 y0, .int .u16 y1, .int .u16 y2, .int .u16 y3, .int .u16 y4, .int .u16 y5, .int .u16 y6, .int .u16 y7, .int .i64 y8, .int .i64 y9, .int .i64 y10, .int .i64 y11, .int .i64 y12, .int .i64 y13, .int .i64 y14, .int .i64 y15] ((GA_heap _ _ _ (by simp only [World.size_alloc]; omega)).trans ((heap_below _ _ _ (by simp only [World.size_alloc]; omega)).trans ((heap_below _ _ _ (by simp only [World.size_alloc]; omega)).trans (heap_at W _)))) (by kernel_rfl) rfl (by simp [Value.oneCell'])]
  rw [GA_setRow _ _ _ _ (by simp only [World.size_alloc]; omega)]
  congr 2
  exact (setRow_below _ _ _ _ (by simp only [World.size_alloc]; omega)).trans (congrArg (fun w => World.alloc w _) ((setRow_below _ _ _ _ (by simp only [World.size_alloc]; omega)).trans (congrArg (fun w => World.alloc w _) (setRow_new W _ _ _))))
theorem scan_gld3 {n : Nat} (l : List Obj) (W : World) (x0 x1 x2 x3 x4 x5 x6 x7 x8 x9 x10 x11 x12 x13 x14 x15 : Int) (o1 o2 o3 : Obj) (hn : n = W.heap.size) :
    (loadVar 87 ⟨n, 0, none⟩).run Tryz.prog (GA l ((((W.alloc (.cells #[.int .u16 x0, .int .u16 x1, .int .u16 x2, .int .u16 x3, .int .u16 x4, .int .u16 x5, .int .u16 x6, .int .u16 x7, .int .i64 x8, .int .i64 x9, .int .i64 x10, .int .i64 x11, .int .i64 x12, .int .i64 x13, .int .i64 x14, .int .i64 x15] 87)).alloc o1).alloc o2).alloc o3)) = .ok (.agg #[.int .u16 x0, .int .u16 x1, .int .u16 x2, .int .u16 x3, .int .u16 x4, .int .u16 x5, .int .u16 x6, .int .u16 x7, .int .i64 x8, .int .i64 x9, .int .i64 x10, .int .i64 x11, .int .i64 x12, .int .i64 x13, .int .i64 x14, .int .i64 x15]) (GA l ((((W.alloc (.cells #[.int .u16 x0, .int .u16 x1, .int .u16 x2, .int .u16 x3, .int .u16 x4, .int .u16 x5, .int .u16 x6, .int .u16 x7, .int .i64 x8, .int .i64 x9, .int .i64 x10, .int .i64 x11, .int .i64 x12, .int .i64 x13, .int .i64 x14, .int .i64 x15] 87)).alloc o1).alloc o2).alloc o3)) := by
  subst hn
  exact run_loadVar_row _ _ 87 87 #[.int .u16 x0, .int .u16 x1, .int .u16 x2, .int .u16 x3, .int .u16 x4, .int .u16 x5, .int .u16 x6, .int .u16 x7, .int .i64 x8, .int .i64 x9, .int .i64 x10, .int .i64 x11, .int .i64 x12, .int .i64 x13, .int .i64 x14, .int .i64 x15] (0, 0) _ ((GA_heap _ _ _ (by simp only [World.size_alloc]; omega)).trans ((heap_below _ _ _ (by simp only [World.size_alloc]; omega)).trans ((heap_below _ _ _ (by simp only [World.size_alloc]; omega)).trans ((heap_below _ _ _ (by simp only [World.size_alloc]; omega)).trans (heap_at W _))))) Tryz.underlying87 rfl (by kernel_rfl)
@[go_sem] theorem loadS_g3 {n : Nat} (l : List Obj) (W : World) (x0 x1 x2 x3 x4 x5 x6 x7 x8 x9 x10 x11 x12 x13 x14 x15 : Int) (o1 o2 o3 : Obj) (hn : n = W.heap.size) :
    (loadS (.pointer (some ⟨n, 0, none⟩))).run Tryz.prog (GA l ((((W.alloc (.cells #[.int .u16 x0, .int .u16 x1, .int .u16 x2, .int .u16 x3, .int .u16 x4, .int .u16 x5, .int .u16 x6, .int .u16 x7, .int .i64 x8, .int .i64 x9, .int .i64 x10, .int .i64 x11, .int .i64 x12, .int .i64 x13, .int .i64 x14, .int .i64 x15] 87)).alloc o1).alloc o2).alloc o3)) = .ok (.agg #[.int .u16 x0, .int .u16 x1, .int .u16 x2, .int .u16 x3, .int .u16 x4, .int .u16 x5, .int .u16 x6, .int .u16 x7, .int .i64 x8, .int .i64 x9, .int .i64 x10, .int .i64 x11, .int .i64 x12, .int .i64 x13, .int .i64 x14, .int .i64 x15]) (GA l ((((W.alloc (.cells #[.int .u16 x0, .int .u16 x1, .int .u16 x2, .int .u16 x3, .int .u16 x4, .int .u16 x5, .int .u16 x6, .int .u16 x7, .int .i64 x8, .int .i64 x9, .int .i64 x10, .int .i64 x11, .int .i64 x12, .int .i64 x13, .int .i64 x14, .int .i64 x15] 87)).alloc o1).alloc o2).alloc o3)) := by
  unfold loadS
  simp only [Instr.loadAt, Instr.sureAddr, Sem.run_bind, Sem.run_pure, Result.andThen]
  exact scan_gld3 l W _ _ _ _ _ _ _ _ _ _ _ _ _ _ _ _ _ _ _ hn
@[go_sem] theorem storeS_g3 {n : Nat} (l : List Obj) (W : World) (x0 x1 x2 x3 x4 x5 x6 x7 x8 x9 x10 x11 x12 x13 x14 x15 y0 y1 y2 y3 y4 y5 y6 y7 y8 y9 y10 y11 y12 y13 y14 y15 : Int) (o1 o2 o3 : Obj) (hn : n = W.heap.size) :
    (storeS (.pointer (some ⟨n, 0, none⟩)) (.agg #[.int .u16 y0, .int .u16 y1, .int .u16 y2, .int .u16 y3, .int .u16 y4, .int .u16 y5, .int .u16 y6, .int .u16 y7, .int .i64 y8, .int .i64 y9, .int .i64 y10, .int .i64 y11, .int .i64 y12, .int .i64 y13, .int .i64 y14, .int .i64 y15])).run Tryz.prog (GA l ((((W.alloc (.cells #[.int .u16 x0, .int .u16 x1, .int .u16 x2, .int .u16 x3, .int .u16 x4, .int .u16 x5, .int .u16 x6, .int .u16 x7, .int .i64 x8, .int .i64 x9, .int .i64 x10, .int .i64 x11, .int .i64 x12, .int .i64 x13, .int .i64 x14, .int .i64 x15] 87)).alloc o1).alloc o2).alloc o3)) = .ok () (GA l ((((W.alloc (.cells #[.int .u16 y0, .int .u16 y1, .int .u16 y2, .int .u16 y3, .int .u16 y4, .int .u16 y5, .int .u16 y6, .int .u16 y7, .int .i64 y8, .int .i64 y9, .int .i64 y10, .int .i64 y11, .int .i64 y12, .int .i64 y13, .int .i64 y14, .int .i64 y15] 87)).alloc o1).alloc o2).alloc o3)) := by
  unfold storeS
  simp only [Instr.storeAt, Instr.sureAddr, Sem.run_bind, Sem.run_pure, Result.andThen]
  subst hn
  rw [run_storeVar_row _ _ 87 87 #[.int .u16 x0, .int .u16 x1, .int .u16 x2, .int .u16 x3, .int .u16 x4, .int .u16 x5, .int .u16 x6, .int .u16 x7, .int .i64 x8, .int .i64 x9, .int .i64 x10, .int .i64 x11, .int .i64 x12, .int .i64 x13, .int .i64 x14, .int .i64 x15] #[.int .u16 y0, .int .u16 y1, .int .u16 y2, .int .u16 y3, .int .u16 y4, .int .u16 y5, .int .u16 y6, .int .u16 y7, .int .i64 y8, .int .i64 y9, .int .i64 y10, .int .i64 y11, .int .i64 y12, .int .i64 y13, .int .i64 y14, .int .i64 y15] ((GA_heap _ _ _ (by simp only [World.size_alloc]; omega)).trans ((heap_below _ _ _ (by simp only [World.size_alloc]; omega)).trans ((heap_below _ _ _ (by simp only [World.size_alloc]; omega)).trans ((heap_below _ _ _ (by simp only [World.size_alloc]; omega)).trans (heap_at W _))))) (by kernel_rfl) rfl (by simp [Value.oneCell'])]
  rw [GA_setRow _ _ _ _ (by simp only [World.size_alloc]; omega)]
  congr 2
  exact (setRow_below _ _ _ _ (by simp only [World.size_alloc]; omega)).trans (congrArg (fun w => World.alloc w _) ((setRow_below _ _ _ _ (by simp only [World.size_alloc]; omega)).trans (congrArg (fun w => World.alloc w _) ((setRow_below _ _ _ _ (by simp only [World.size_alloc]; omega)).trans (congrArg (fun w => World.alloc w _) (setRow_new W _ _ _))))))
end Go.Proofs.YtcgdjnmfeibnoaaGreatDoor
/-! App -/
namespace Go.Proofs.YtcgdjnmfeibnoaaGreatDoor
open Go.RowKit
set_option linter.unusedVariables false
set_option linter.unusedSimpArgs false
theorem cells_new (w : World) (cs : List Value) (t : TypeId) : ∀ j u, cs[j]? = some u → (w.alloc (.cells cs.toArray t)).cell? ((⟨w.heap.size, 0, none⟩ : Addr).add j) = some u := by
  intro j u hj
  have hb : (w.alloc (.cells cs.toArray t)).heap[w.heap.size]? = some (.cells cs.toArray t (0, 0)) := heap_alloc_new w _
  have ha : ((⟨w.heap.size, 0, none⟩ : Addr).add j) = ⟨w.heap.size, j, none⟩ := by unfold Addr.add; split <;> simp_all
  rw [ha, Lib.cell_of_heap hb]
  simpa using hj
theorem app_one {P : Program} {w : World} {ops : Array Oper} {rest : List Oper} {o : Oper} {a : Act} {Q : Exit → Act → World → Prop} (hgd : o.guard = none) (s x : Operand) (t : TypeId)
    (ho : o.op = .call { callee := .builtin .append, args := #[s, x], argTypes := #[t, t] })
    (base : Nat) (e : TypeId) (i : TypeInfo) (z : Value) (size bytes : Nat) (ht : P.underlying t = some (.slice e)) (hi : P.info? e = some i) (hz : i.zero = some z)
    (hsize : i.size = size) (hby : i.bytes = bytes) (hzs : z.cells.size = size) (hsz : 0 < size)
    (v : Value) (n : Nat) (xs : List Value) (hs : a.eval s = v) (hown : w.ownsRow base e size v n xs)
    (cs : List Value) (hx : a.eval x = .slice (some ⟨w.heap.size, 0, none⟩) 1 1) (hcl : cs.length = size) (h1 : ∀ u ∈ cs, u.oneCell' = true)
    (h63 : n + 1 ≤ maxLen) (hbytes : (n + 1) * bytes ≤ 140737488355328) (hbase : base ≤ w.heap.size)
    (h : ∀ g cap w', base ≤ g → w'.ownsRow base e size (.slice (some ⟨g, 0, none⟩) (n + 1) cap) (n + 1) (xs ++ cs) → (w.alloc (.cells cs.toArray e)).grownBy w' v.ownBlock →
      (∀ B w0, B ≤ base → Below B w0 w → Below B w0 w') → wpList P ops Q rest (a.put o.dst (.slice (some ⟨g, 0, none⟩) (n + 1) cap)) w') :
    wpList P ops Q (o :: rest) a (w.alloc (.cells cs.toArray e)) := by
  refine wpList_append_own _ hgd s x t ho base e i z size bytes ht hi hz hsize hby hzs hsz v n xs hs (hown.alloc _) ⟨w.heap.size, 0, none⟩ 1 1 cs hx (by omega) (cells_new w cs e) h1 h63 hbytes (by simp; omega) ?_
  intro v' w' hown' hgrow _
  have hB : ∀ B w0, B ≤ base → Below B w0 w → Below B w0 w' := fun B w0 hb hw =>
    (hw.alloc (by omega) _).grown hgrow (by simp; omega) (fun k hk => Nat.le_trans hb (hown.lt k hk).1)
  rcases hown'.2 with ⟨_, h0⟩ | ⟨g, cap, cur, hv, hg, _⟩
  · omega
  · subst hv
    exact h g cap w' hg hown' hgrow hB
end Go.Proofs.YtcgdjnmfeibnoaaGreatDoor
/-! X3 -/
namespace Go.Proofs.YtcgdjnmfeibnoaaGreatDoor.X
open Go.RowKit Go.Proofs.YtcgdjnmfeibnoaaGreatDoorW.PrintWords Go.Proofs.YtcgdjnmfeibnoaaGreatDoorW.PrintLast Go.Proofs.YtcgdjnmfeibnoaaGreatDoorW.PrintMore
attribute [local go_sem] max2_int min2_int max_two min_two max_three min_three max_four min_four
set_option linter.unusedVariables false
set_option linter.unusedSimpArgs false
def posternref21_digit.l0 : Nat → Int → Int → Option (Int)
  | 0, _, _ => none
  | k + 1, x0, x3 => if x3 < 16 then (if 0 ≤ x3 then (if (bt (⟨#[48, 49, 50, 51, 52, 53, 54, 55, 56, 57, 97, 98, 99, 100, 101, 102]⟩ : ByteArray) x3) = x0 then (some x3) else (if (bt (⟨#[48, 49, 50, 51, 52, 53, 54, 55, 56, 57, 65, 66, 67, 68, 69, 70]⟩ : ByteArray) x3) = x0 then (some x3) else (posternref21_digit.l0 k x0 (wrap64 (x3 + 1))))) else (none)) else (some (-1))
def posternref21_digit.f (k : Nat) (a0 : Int) : Option (Int) := posternref21_digit.l0 k a0 0
set_option maxHeartbeats 8000000 in
set_option maxRecDepth 100000 in
theorem posternref21_digit.calls (k : Nat) (a0 : Int) (r : Int) (w : World) (h : posternref21_digit.f k a0 = some r) :
    Calls Tryz.prog 60 #[.int .u8 a0] w fun e w' => e = .returned (.int .i64 r) ∧ Drawn0 w w' := by
  have H : (posternref21_digit.l0 k a0 0) = some r := h
  clear h
  have H' := Aside0.mk H
  clear H
  go_enter Tryz.func60, Tryz.ntmps60
  go_wp2
  go_loopg [3] k (fun kq v3 w' => ∃ (x3_1 : Int), v3 = .int .i64 x3_1 ∧ Aside0 (posternref21_digit.l0 kq a0 x3_1 = some r) ∧ Aside0 (kq ≤ k) ∧ Drawn0 w w')
  case atStart => exact ⟨(0), (by first | rfl | (simp; done) | (simp [*]; done)), H', ⟨Nat.le_refl _⟩, by repeat (first | exact Drawn0.refl _ | apply Drawn0.step)⟩
  case round =>
    clear H'
    obtain ⟨x3_1, rfl, HA, HK1, ⟨m1, rfl⟩⟩ := hrel
    cases gk with
    | zero => exact absurd HA.out (by simp [posternref21_digit.l0])
    | succ k1 =>
      have H := HA.out
      clear HA
      simp only [posternref21_digit.l0] at H
      by_cases c2 : x3_1 < 16
      · rw [if_pos c2] at H
        have c2b0 : decide (x3_1 < 16) = true := decide_eq_true c2
        clear c2
        by_cases c3 : 0 ≤ x3_1
        · rw [if_pos c3] at H
          have c3b0 : decide (0 ≤ x3_1) = true := decide_eq_true c3
          clear c3
          by_cases c5 : (bt (⟨#[48, 49, 50, 51, 52, 53, 54, 55, 56, 57, 97, 98, 99, 100, 101, 102]⟩ : ByteArray) x3_1) = a0
          · rw [if_pos c5] at H
            have c5b0 : ((bt (⟨#[48, 49, 50, 51, 52, 53, 54, 55, 56, 57, 97, 98, 99, 100, 101, 102]⟩ : ByteArray) x3_1) == a0) = true := beq_iff_eq.mpr c5
            have c5b1 : ((bt (⟨#[48, 49, 50, 51, 52, 53, 54, 55, 56, 57, 97, 98, 99, 100, 101, 102]⟩ : ByteArray) x3_1) != a0) = false := bne_eq_false_iff_eq.mpr c5
            clear c5
            obtain rfl := Option.some.inj H
            have p4 : 0 ≤ (x3_1 : Int) := of_decide_eq_true (by first | (with_reducible assumption) | assumption)
            have q4 : x3_1 < (16 : Int) := of_decide_eq_true (by first | (with_reducible assumption) | assumption)
            have hx4 := bt_at (⟨#[48, 49, 50, 51, 52, 53, 54, 55, 56, 57, 97, 98, 99, 100, 101, 102]⟩ : ByteArray) x3_1
            replace p4 := eq_true p4
            replace q4 := eq_true q4
            go_wp2
            go_ret
            exact ⟨by first | rfl | (simp; done) | (simp [*]; done), by repeat (first | exact Drawn0.refl _ | apply Drawn0.step)⟩
          · rw [if_neg c5] at H
            have c5b0 : ((bt (⟨#[48, 49, 50, 51, 52, 53, 54, 55, 56, 57, 97, 98, 99, 100, 101, 102]⟩ : ByteArray) x3_1) == a0) = false := beq_eq_false_iff_ne.mpr c5
            have c5b1 : ((bt (⟨#[48, 49, 50, 51, 52, 53, 54, 55, 56, 57, 97, 98, 99, 100, 101, 102]⟩ : ByteArray) x3_1) != a0) = true := bne_iff_ne.mpr c5
            by_cases c7 : (bt (⟨#[48, 49, 50, 51, 52, 53, 54, 55, 56, 57, 65, 66, 67, 68, 69, 70]⟩ : ByteArray) x3_1) = a0
            · rw [if_pos c7] at H
              have c7b0 : ((bt (⟨#[48, 49, 50, 51, 52, 53, 54, 55, 56, 57, 65, 66, 67, 68, 69, 70]⟩ : ByteArray) x3_1) == a0) = true := beq_iff_eq.mpr c7
              have c7b1 : ((bt (⟨#[48, 49, 50, 51, 52, 53, 54, 55, 56, 57, 65, 66, 67, 68, 69, 70]⟩ : ByteArray) x3_1) != a0) = false := bne_eq_false_iff_eq.mpr c7
              clear c7
              obtain rfl := Option.some.inj H
              have p4 : 0 ≤ (x3_1 : Int) := of_decide_eq_true (by first | (with_reducible assumption) | assumption)
              have q4 : x3_1 < (16 : Int) := of_decide_eq_true (by first | (with_reducible assumption) | assumption)
              have hx4 := bt_at (⟨#[48, 49, 50, 51, 52, 53, 54, 55, 56, 57, 97, 98, 99, 100, 101, 102]⟩ : ByteArray) x3_1
              replace p4 := eq_true p4
              replace q4 := eq_true q4
              have p6 : 0 ≤ (x3_1 : Int) := of_decide_eq_true (by first | (with_reducible assumption) | assumption)
              have q6 : x3_1 < (16 : Int) := of_decide_eq_true (by first | (with_reducible assumption) | assumption)
              have hx6 := bt_at (⟨#[48, 49, 50, 51, 52, 53, 54, 55, 56, 57, 65, 66, 67, 68, 69, 70]⟩ : ByteArray) x3_1
              replace p6 := eq_true p6
              replace q6 := eq_true q6
              go_wp2
              go_ret
              exact ⟨by first | rfl | (simp; done) | (simp [*]; done), by repeat (first | exact Drawn0.refl _ | apply Drawn0.step)⟩
            · rw [if_neg c7] at H
              have c7b0 : ((bt (⟨#[48, 49, 50, 51, 52, 53, 54, 55, 56, 57, 65, 66, 67, 68, 69, 70]⟩ : ByteArray) x3_1) == a0) = false := beq_eq_false_iff_ne.mpr c7
              have c7b1 : ((bt (⟨#[48, 49, 50, 51, 52, 53, 54, 55, 56, 57, 65, 66, 67, 68, 69, 70]⟩ : ByteArray) x3_1) != a0) = true := bne_iff_ne.mpr c7
              have H' := Aside0.mk H
              clear H
              have p4 : 0 ≤ (x3_1 : Int) := of_decide_eq_true (by first | (with_reducible assumption) | assumption)
              have q4 : x3_1 < (16 : Int) := of_decide_eq_true (by first | (with_reducible assumption) | assumption)
              have hx4 := bt_at (⟨#[48, 49, 50, 51, 52, 53, 54, 55, 56, 57, 97, 98, 99, 100, 101, 102]⟩ : ByteArray) x3_1
              replace p4 := eq_true p4
              replace q4 := eq_true q4
              have p6 : 0 ≤ (x3_1 : Int) := of_decide_eq_true (by first | (with_reducible assumption) | assumption)
              have q6 : x3_1 < (16 : Int) := of_decide_eq_true (by first | (with_reducible assumption) | assumption)
              have hx6 := bt_at (⟨#[48, 49, 50, 51, 52, 53, 54, 55, 56, 57, 65, 66, 67, 68, 69, 70]⟩ : ByteArray) x3_1
              replace p6 := eq_true p6
              replace q6 := eq_true q6
              go_wp2
              go_roundg k1
              case measure => have := HK1.out; omega
              case rel => exact ⟨(wrap64 (x3_1 + 1)), (by first | rfl | (simp; done) | (simp [*]; done)), H', ⟨by have := HK1.out; omega⟩, by repeat (first | exact Drawn0.refl _ | apply Drawn0.step)⟩
        · rw [if_neg c3] at H
          exact absurd H (by simp)
      · rw [if_neg c2] at H
        have c2b0 : decide (x3_1 < 16) = false := decide_eq_false c2
        clear c2
        obtain rfl := Option.some.inj H
        go_wp2
        go_ret
        exact ⟨by first | rfl | (simp; done) | (simp [*]; done), by repeat (first | exact Drawn0.refl _ | apply Drawn0.step)⟩
end Go.Proofs.YtcgdjnmfeibnoaaGreatDoor.X
/-! SixScan -/
namespace Go.Proofs.YtcgdjnmfeibnoaaGreatDoor
open Go.RowKit Go.Proofs.YtcgdjnmfeibnoaaGreatDoorW.PrintWords Go.Proofs.YtcgdjnmfeibnoaaGreatDoor.X
set_option linter.unusedVariables false
set_option linter.unusedSimpArgs false
abbrev sv (l0 l1 l2 l3 l4 l5 l6 l7 N k st dg va te pa fo : Int) : Value := .agg #[.int .u16 l0, .int .u16 l1, .int .u16 l2, .int .u16 l3, .int .u16 l4, .int .u16 l5, .int .u16 l6, .int .u16 l7, .int .i64 N, .int .i64 k, .int .i64 st, .int .i64 dg, .int .i64 va, .int .i64 te, .int .i64 pa, .int .i64 fo]
abbrev scV (x : Sc) : Value := sv (x.L 0) (x.L 1) (x.L 2) (x.L 3) (x.L 4) (x.L 5) (x.L 6) (x.L 7) x.N x.skip x.st x.digs x.val x.ten x.parts x.four
theorem ref_digit_all : ∀ n : Fin 256, posternref21_digit.f 40 (n.val : Int) = some (digV (n.val : Int) 16) := by decide +kernel
theorem refDigit_walk (c : Int) (h0 : 0 ≤ c) (h1 : c < 256) (w : World) : Calls Tryz.prog 60 #[.int .u8 c] w fun e w' => e = .returned (.int .i64 (digV c 16)) ∧ Drawn0 w w' := by
  obtain ⟨n, rfl⟩ := Int.eq_ofNat_of_zero_le h0
  exact posternref21_digit.calls 40 (n : Int) _ w (ref_digit_all ⟨n, by omega⟩)
theorem refDigit_drew (c : Int) (h0 : 0 ≤ c) (h1 : c < 256) (w : World) : Calls Tryz.prog 60 #[.int .u8 c] w fun e w' => e = .returned (.int .i64 (digV c 16)) ∧ ∃ m, w' = w.drewN m :=
  (refDigit_walk c h0 h1 w).mono fun e w' q => ⟨q.1, by obtain ⟨⟨n, rfl⟩⟩ := q.2; exact ⟨n, rfl⟩⟩
/-- What was made or drawn behind a world: nothing else. -/
def Grw (w w' : World) : Prop := ∃ (m : Nat) (l : List Obj), w' = GA l (w.drewN m)
theorem Grw.refl (w : World) : Grw w w := ⟨0, [], by rw [GA_nil]; rfl⟩
theorem Grw.alloc {w W : World} (h : Grw w W) (o : Obj) : Grw w (W.alloc o) := by
  obtain ⟨m, l, rfl⟩ := h
  exact ⟨m, l ++ [o], by rw [GA_one, GA_GA]⟩
theorem Grw.ga {w W : World} (h : Grw w W) (l : List Obj) : Grw w (GA l W) := by
  obtain ⟨m, k, rfl⟩ := h
  exact ⟨m, k ++ l, by rw [GA_GA]⟩
theorem Grw.drewN {w W : World} (h : Grw w W) (n : Nat) : Grw w (W.drewN n) := by
  obtain ⟨m, k, rfl⟩ := h
  exact ⟨m + n, k, by rw [GA_drewN, World.drewN_drewN]⟩
theorem Grw.below {w W : World} (h : Grw w W) : Below w.heap.size w W := by
  obtain ⟨m, l, rfl⟩ := h
  exact GA_below_drew l w m
theorem drewN_grw (w : World) (m : Nat) : ∃ w', w' = w.drewN m ∧ w'.heap.size = w.heap.size ∧ Grw w w' := ⟨_, rfl, rfl, (Grw.refl w).drewN m⟩
theorem Grw.trans {w W X : World} (h : Grw w W) (k : Grw W X) : Grw w X := by
  obtain ⟨m, l, rfl⟩ := k
  exact (h.drewN m).ga l
set_option maxHeartbeats 1000000 in
set_option maxRecDepth 100000 in
theorem room_walk (l0 l1 l2 l3 l4 l5 l6 l7 N k st dg va te pa fo : Int) (n0 : 0 ≤ N) (n1 : N ≤ 8) (w : World) :
    Calls Tryz.prog 86 #[sv l0 l1 l2 l3 l4 l5 l6 l7 N k st dg va te pa fo] w fun e w' => e = .returned (.int .i64 (if 0 ≤ k then 7 - N else 8 - N)) ∧ Grw w w' := by
  by_cases hk : 0 ≤ k
  · rw [if_pos hk]
    go_enter Tryz.func86, Tryz.ntmps86
    go_wp2
    go_returns
    exact ⟨rfl, (Grw.refl w).alloc _⟩
  · rw [if_neg hk]
    have hk' : k < 0 := by omega
    clear hk
    go_enter Tryz.func86, Tryz.ntmps86
    go_wp2
    go_returns
    exact ⟨rfl, (Grw.refl w).alloc _⟩
set_option maxHeartbeats 2000000 in
set_option maxRecDepth 100000 in
theorem more_a (l0 l1 l2 l3 l4 l5 l6 l7 N k st dg va te pa fo c : Int) (h0 : 0 ≤ c) (h1 : c < 256) (d0 : 0 ≤ dg) (d1 : dg ≤ 100) (v0 : 0 ≤ va) (v1 : va ≤ 65535) (x0 : -1 ≤ digV c 16) (x1 : digV c 16 ≤ 15) (t0 : -1 ≤ te) (t1 : te ≤ 255) (hc : c < 48) (w : World) :
    Calls Tryz.prog 62 #[sv l0 l1 l2 l3 l4 l5 l6 l7 N k st dg va te pa fo, .int .u8 c] w fun e w' => e = .returned (sv l0 l1 l2 l3 l4 l5 l6 l7 N k st (dg + 1) (16 * va + digV c 16) (-1) pa fo) ∧ Grw w w' := by
  go_enter Tryz.func62, Tryz.ntmps62
  go_upto_region 5 with fail
  all_goals
    have w0_ : IntKind.i64.wrap (16 * va) = 16 * va := IntWalk.i64_in _ (by omega)
    have w1_ : IntKind.i64.wrap (16 * va + digV c 16) = 16 * va + digV c 16 := IntWalk.i64_in _ (by omega)
    refine wp_region_drew_tail 7 (by kernel_rfl) (by kernel_rfl) ?_
    dsimp only [List.take, List.drop]
    repeat (go_big_quiet_step (first | (with_reducible exact Calls.quiet_of (refDigit_drew c h0 h1 _))))
    refine wpQuiet_nil ?_
    rintro _ ⟨m1, rfl⟩
    clear w0_ w1_
    simp only [drewN_alloc, GA_drewN, GA_GA]
    obtain ⟨u1, hu, hz, hG1⟩ := drewN_grw w m1
    rw [← hu, ← hz]
    clear hu hz
    go_wp2_with fail
    try simp only [Exit.inBlock, Exit.then]
    refine bodyPost_ret (results_cell rfl rfl (by first | (refine scan_ld0 _ _ _ _ _ _ _ _ _ _ _ _ _ _ _ _ _ ?_; simp; done) | (refine scan_gld0 _ _ _ _ _ _ _ _ _ _ _ _ _ _ _ _ _ _ ?_; simp; done) | (refine scan_ld1 _ _ _ _ _ _ _ _ _ _ _ _ _ _ _ _ _ _ ?_; simp; done) | (refine scan_gld1 _ _ _ _ _ _ _ _ _ _ _ _ _ _ _ _ _ _ _ ?_; simp; done) | (refine scan_ld2 _ _ _ _ _ _ _ _ _ _ _ _ _ _ _ _ _ _ _ ?_; simp; done) | (refine scan_gld2 _ _ _ _ _ _ _ _ _ _ _ _ _ _ _ _ _ _ _ _ ?_; simp; done) | (refine scan_ld3 _ _ _ _ _ _ _ _ _ _ _ _ _ _ _ _ _ _ _ _ ?_; simp; done) | (refine scan_gld3 _ _ _ _ _ _ _ _ _ _ _ _ _ _ _ _ _ _ _ _ _ ?_; simp; done))) rfl ?_
    exact ⟨rfl, by repeat (first | exact hG1 | refine Grw.alloc ?_ _ | refine Grw.ga ?_ _)⟩
set_option maxHeartbeats 2000000 in
set_option maxRecDepth 100000 in
theorem more_b (l0 l1 l2 l3 l4 l5 l6 l7 N k st dg va te pa fo c : Int) (h0 : 0 ≤ c) (h1 : c < 256) (d0 : 0 ≤ dg) (d1 : dg ≤ 100) (v0 : 0 ≤ va) (v1 : va ≤ 65535) (x0 : -1 ≤ digV c 16) (x1 : digV c 16 ≤ 15) (t0 : -1 ≤ te) (t1 : te ≤ 255) (hc : 57 < c) (w : World) :
    Calls Tryz.prog 62 #[sv l0 l1 l2 l3 l4 l5 l6 l7 N k st dg va te pa fo, .int .u8 c] w fun e w' => e = .returned (sv l0 l1 l2 l3 l4 l5 l6 l7 N k st (dg + 1) (16 * va + digV c 16) (-1) pa fo) ∧ Grw w w' := by
  go_enter Tryz.func62, Tryz.ntmps62
  go_upto_region 5 with fail
  all_goals
    have w0_ : IntKind.i64.wrap (16 * va) = 16 * va := IntWalk.i64_in _ (by omega)
    have w1_ : IntKind.i64.wrap (16 * va + digV c 16) = 16 * va + digV c 16 := IntWalk.i64_in _ (by omega)
    refine wp_region_drew_tail 7 (by kernel_rfl) (by kernel_rfl) ?_
    dsimp only [List.take, List.drop]
    repeat (go_big_quiet_step (first | (with_reducible exact Calls.quiet_of (refDigit_drew c h0 h1 _))))
    refine wpQuiet_nil ?_
    rintro _ ⟨m1, rfl⟩
    clear w0_ w1_
    simp only [drewN_alloc, GA_drewN, GA_GA]
    obtain ⟨u1, hu, hz, hG1⟩ := drewN_grw w m1
    rw [← hu, ← hz]
    clear hu hz
    go_wp2_with fail
    try simp only [Exit.inBlock, Exit.then]
    refine bodyPost_ret (results_cell rfl rfl (by first | (refine scan_ld0 _ _ _ _ _ _ _ _ _ _ _ _ _ _ _ _ _ ?_; simp; done) | (refine scan_gld0 _ _ _ _ _ _ _ _ _ _ _ _ _ _ _ _ _ _ ?_; simp; done) | (refine scan_ld1 _ _ _ _ _ _ _ _ _ _ _ _ _ _ _ _ _ _ ?_; simp; done) | (refine scan_gld1 _ _ _ _ _ _ _ _ _ _ _ _ _ _ _ _ _ _ _ ?_; simp; done) | (refine scan_ld2 _ _ _ _ _ _ _ _ _ _ _ _ _ _ _ _ _ _ _ ?_; simp; done) | (refine scan_gld2 _ _ _ _ _ _ _ _ _ _ _ _ _ _ _ _ _ _ _ _ ?_; simp; done) | (refine scan_ld3 _ _ _ _ _ _ _ _ _ _ _ _ _ _ _ _ _ _ _ _ ?_; simp; done) | (refine scan_gld3 _ _ _ _ _ _ _ _ _ _ _ _ _ _ _ _ _ _ _ _ _ ?_; simp; done))) rfl ?_
    exact ⟨rfl, by repeat (first | exact hG1 | refine Grw.alloc ?_ _ | refine Grw.ga ?_ _)⟩
set_option maxHeartbeats 2000000 in
set_option maxRecDepth 100000 in
theorem more_c (l0 l1 l2 l3 l4 l5 l6 l7 N k st dg va te pa fo c : Int) (h0 : 0 ≤ c) (h1 : c < 256) (d0 : 0 ≤ dg) (d1 : dg ≤ 100) (v0 : 0 ≤ va) (v1 : va ≤ 65535) (x0 : -1 ≤ digV c 16) (x1 : digV c 16 ≤ 15) (t0 : -1 ≤ te) (t1 : te ≤ 255) (a : 48 ≤ c) (b : c ≤ 57) (hd : 0 < dg) (ht : te = 0) (w : World) :
    Calls Tryz.prog 62 #[sv l0 l1 l2 l3 l4 l5 l6 l7 N k st dg va te pa fo, .int .u8 c] w fun e w' => e = .returned (sv l0 l1 l2 l3 l4 l5 l6 l7 N k st (dg + 1) (16 * va + digV c 16) (-1) pa fo) ∧ Grw w w' := by
  subst ht
  go_enter Tryz.func62, Tryz.ntmps62
  go_upto_region 5 with fail
  all_goals
    have w0_ : IntKind.i64.wrap (16 * va) = 16 * va := IntWalk.i64_in _ (by omega)
    have w1_ : IntKind.i64.wrap (16 * va + digV c 16) = 16 * va + digV c 16 := IntWalk.i64_in _ (by omega)
    refine wp_region_drew_tail 7 (by kernel_rfl) (by kernel_rfl) ?_
    dsimp only [List.take, List.drop]
    repeat (go_big_quiet_step (first | (with_reducible exact Calls.quiet_of (refDigit_drew c h0 h1 _))))
    refine wpQuiet_nil ?_
    rintro _ ⟨m1, rfl⟩
    clear w0_ w1_
    simp only [drewN_alloc, GA_drewN, GA_GA]
    obtain ⟨u1, hu, hz, hG1⟩ := drewN_grw w m1
    rw [← hu, ← hz]
    clear hu hz
    go_wp2_with fail
    try simp only [Exit.inBlock, Exit.then]
    refine bodyPost_ret (results_cell rfl rfl (by first | (refine scan_ld0 _ _ _ _ _ _ _ _ _ _ _ _ _ _ _ _ _ ?_; simp; done) | (refine scan_gld0 _ _ _ _ _ _ _ _ _ _ _ _ _ _ _ _ _ _ ?_; simp; done) | (refine scan_ld1 _ _ _ _ _ _ _ _ _ _ _ _ _ _ _ _ _ _ ?_; simp; done) | (refine scan_gld1 _ _ _ _ _ _ _ _ _ _ _ _ _ _ _ _ _ _ _ ?_; simp; done) | (refine scan_ld2 _ _ _ _ _ _ _ _ _ _ _ _ _ _ _ _ _ _ _ ?_; simp; done) | (refine scan_gld2 _ _ _ _ _ _ _ _ _ _ _ _ _ _ _ _ _ _ _ _ ?_; simp; done) | (refine scan_ld3 _ _ _ _ _ _ _ _ _ _ _ _ _ _ _ _ _ _ _ _ ?_; simp; done) | (refine scan_gld3 _ _ _ _ _ _ _ _ _ _ _ _ _ _ _ _ _ _ _ _ _ ?_; simp; done))) rfl ?_
    exact ⟨rfl, by repeat (first | exact hG1 | refine Grw.alloc ?_ _ | refine Grw.ga ?_ _)⟩
set_option maxHeartbeats 2000000 in
set_option maxRecDepth 100000 in
theorem more_d (l0 l1 l2 l3 l4 l5 l6 l7 N k st dg va te pa fo c : Int) (h0 : 0 ≤ c) (h1 : c < 256) (d0 : 0 ≤ dg) (d1 : dg ≤ 100) (v0 : 0 ≤ va) (v1 : va ≤ 65535) (x0 : -1 ≤ digV c 16) (x1 : digV c 16 ≤ 15) (t0 : -1 ≤ te) (t1 : te ≤ 255) (a : 48 ≤ c) (b : c ≤ 57) (ht : te < 0) (w : World) :
    Calls Tryz.prog 62 #[sv l0 l1 l2 l3 l4 l5 l6 l7 N k st dg va te pa fo, .int .u8 c] w fun e w' => e = .returned (sv l0 l1 l2 l3 l4 l5 l6 l7 N k st (dg + 1) (16 * va + digV c 16) (-1) pa fo) ∧ Grw w w' := by
  go_enter Tryz.func62, Tryz.ntmps62
  go_upto_region 5 with fail
  all_goals
    have w0_ : IntKind.i64.wrap (16 * va) = 16 * va := IntWalk.i64_in _ (by omega)
    have w1_ : IntKind.i64.wrap (16 * va + digV c 16) = 16 * va + digV c 16 := IntWalk.i64_in _ (by omega)
    refine wp_region_drew_tail 7 (by kernel_rfl) (by kernel_rfl) ?_
    dsimp only [List.take, List.drop]
    repeat (go_big_quiet_step (first | (with_reducible exact Calls.quiet_of (refDigit_drew c h0 h1 _))))
    refine wpQuiet_nil ?_
    rintro _ ⟨m1, rfl⟩
    clear w0_ w1_
    simp only [drewN_alloc, GA_drewN, GA_GA]
    obtain ⟨u1, hu, hz, hG1⟩ := drewN_grw w m1
    rw [← hu, ← hz]
    clear hu hz
    go_wp2_with fail
    try simp only [Exit.inBlock, Exit.then]
    refine bodyPost_ret (results_cell rfl rfl (by first | (refine scan_ld0 _ _ _ _ _ _ _ _ _ _ _ _ _ _ _ _ _ ?_; simp; done) | (refine scan_gld0 _ _ _ _ _ _ _ _ _ _ _ _ _ _ _ _ _ _ ?_; simp; done) | (refine scan_ld1 _ _ _ _ _ _ _ _ _ _ _ _ _ _ _ _ _ _ ?_; simp; done) | (refine scan_gld1 _ _ _ _ _ _ _ _ _ _ _ _ _ _ _ _ _ _ _ ?_; simp; done) | (refine scan_ld2 _ _ _ _ _ _ _ _ _ _ _ _ _ _ _ _ _ _ _ ?_; simp; done) | (refine scan_gld2 _ _ _ _ _ _ _ _ _ _ _ _ _ _ _ _ _ _ _ _ ?_; simp; done) | (refine scan_ld3 _ _ _ _ _ _ _ _ _ _ _ _ _ _ _ _ _ _ _ _ ?_; simp; done) | (refine scan_gld3 _ _ _ _ _ _ _ _ _ _ _ _ _ _ _ _ _ _ _ _ _ ?_; simp; done))) rfl ?_
    exact ⟨rfl, by repeat (first | exact hG1 | refine Grw.alloc ?_ _ | refine Grw.ga ?_ _)⟩
set_option maxHeartbeats 2000000 in
set_option maxRecDepth 100000 in
theorem more_e (l0 l1 l2 l3 l4 l5 l6 l7 N k st dg va te pa fo c : Int) (h0 : 0 ≤ c) (h1 : c < 256) (d0 : 0 ≤ dg) (d1 : dg ≤ 100) (v0 : 0 ≤ va) (v1 : va ≤ 65535) (x0 : -1 ≤ digV c 16) (x1 : digV c 16 ≤ 15) (t0 : -1 ≤ te) (t1 : te ≤ 255) (a : 48 ≤ c) (b : c ≤ 57) (ht : 0 < te) (hm : 255 < 10 * te + (c - 48)) (w : World) :
    Calls Tryz.prog 62 #[sv l0 l1 l2 l3 l4 l5 l6 l7 N k st dg va te pa fo, .int .u8 c] w fun e w' => e = .returned (sv l0 l1 l2 l3 l4 l5 l6 l7 N k st (dg + 1) (16 * va + digV c 16) (-1) pa fo) ∧ Grw w w' := by
  go_enter Tryz.func62, Tryz.ntmps62
  go_upto_region 5 with fail
  all_goals
    have w0_ : IntKind.i64.wrap (16 * va) = 16 * va := IntWalk.i64_in _ (by omega)
    have w1_ : IntKind.i64.wrap (16 * va + digV c 16) = 16 * va + digV c 16 := IntWalk.i64_in _ (by omega)
    refine wp_region_drew_tail 7 (by kernel_rfl) (by kernel_rfl) ?_
    dsimp only [List.take, List.drop]
    repeat (go_big_quiet_step (first | (with_reducible exact Calls.quiet_of (refDigit_drew c h0 h1 _))))
    refine wpQuiet_nil ?_
    rintro _ ⟨m1, rfl⟩
    clear w0_ w1_
    simp only [drewN_alloc, GA_drewN, GA_GA]
    obtain ⟨u1, hu, hz, hG1⟩ := drewN_grw w m1
    rw [← hu, ← hz]
    clear hu hz
    go_wp2_with fail
    try simp only [Exit.inBlock, Exit.then]
    refine bodyPost_ret (results_cell rfl rfl (by first | (refine scan_ld0 _ _ _ _ _ _ _ _ _ _ _ _ _ _ _ _ _ ?_; simp; done) | (refine scan_gld0 _ _ _ _ _ _ _ _ _ _ _ _ _ _ _ _ _ _ ?_; simp; done) | (refine scan_ld1 _ _ _ _ _ _ _ _ _ _ _ _ _ _ _ _ _ _ ?_; simp; done) | (refine scan_gld1 _ _ _ _ _ _ _ _ _ _ _ _ _ _ _ _ _ _ _ ?_; simp; done) | (refine scan_ld2 _ _ _ _ _ _ _ _ _ _ _ _ _ _ _ _ _ _ _ ?_; simp; done) | (refine scan_gld2 _ _ _ _ _ _ _ _ _ _ _ _ _ _ _ _ _ _ _ _ ?_; simp; done) | (refine scan_ld3 _ _ _ _ _ _ _ _ _ _ _ _ _ _ _ _ _ _ _ _ ?_; simp; done) | (refine scan_gld3 _ _ _ _ _ _ _ _ _ _ _ _ _ _ _ _ _ _ _ _ _ ?_; simp; done))) rfl ?_
    exact ⟨rfl, by repeat (first | exact hG1 | refine Grw.alloc ?_ _ | refine Grw.ga ?_ _)⟩
set_option maxHeartbeats 2000000 in
set_option maxRecDepth 100000 in
theorem more_f (l0 l1 l2 l3 l4 l5 l6 l7 N k st dg va te pa fo c : Int) (h0 : 0 ≤ c) (h1 : c < 256) (d0 : 0 ≤ dg) (d1 : dg ≤ 100) (v0 : 0 ≤ va) (v1 : va ≤ 65535) (x0 : -1 ≤ digV c 16) (x1 : digV c 16 ≤ 15) (t0 : -1 ≤ te) (t1 : te ≤ 255) (a : 48 ≤ c) (b : c ≤ 57) (ht : 0 < te) (hm : 10 * te + (c - 48) ≤ 255) (hmb : decide (255 < 10 * te + (c - 48)) = false) (hzb : (te == 0) = false) (w : World) :
    Calls Tryz.prog 62 #[sv l0 l1 l2 l3 l4 l5 l6 l7 N k st dg va te pa fo, .int .u8 c] w fun e w' => e = .returned (sv l0 l1 l2 l3 l4 l5 l6 l7 N k st (dg + 1) (16 * va + digV c 16) (10 * te + (c - 48)) pa fo) ∧ Grw w w' := by
  go_enter Tryz.func62, Tryz.ntmps62
  go_upto_region 5 with fail
  all_goals
    have w0_ : IntKind.i64.wrap (16 * va) = 16 * va := IntWalk.i64_in _ (by omega)
    have w1_ : IntKind.i64.wrap (16 * va + digV c 16) = 16 * va + digV c 16 := IntWalk.i64_in _ (by omega)
    refine wp_region_drew_tail 7 (by kernel_rfl) (by kernel_rfl) ?_
    dsimp only [List.take, List.drop]
    repeat (go_big_quiet_step (first | (with_reducible exact Calls.quiet_of (refDigit_drew c h0 h1 _))))
    refine wpQuiet_nil ?_
    rintro _ ⟨m1, rfl⟩
    clear w0_ w1_
    simp only [drewN_alloc, GA_drewN, GA_GA]
    obtain ⟨u1, hu, hz, hG1⟩ := drewN_grw w m1
    rw [← hu, ← hz]
    clear hu hz
    go_wp2_with fail
    try simp only [Exit.inBlock, Exit.then]
    refine bodyPost_ret (results_cell rfl rfl (by first | (refine scan_ld0 _ _ _ _ _ _ _ _ _ _ _ _ _ _ _ _ _ ?_; simp; done) | (refine scan_gld0 _ _ _ _ _ _ _ _ _ _ _ _ _ _ _ _ _ _ ?_; simp; done) | (refine scan_ld1 _ _ _ _ _ _ _ _ _ _ _ _ _ _ _ _ _ _ ?_; simp; done) | (refine scan_gld1 _ _ _ _ _ _ _ _ _ _ _ _ _ _ _ _ _ _ _ ?_; simp; done) | (refine scan_ld2 _ _ _ _ _ _ _ _ _ _ _ _ _ _ _ _ _ _ _ ?_; simp; done) | (refine scan_gld2 _ _ _ _ _ _ _ _ _ _ _ _ _ _ _ _ _ _ _ _ ?_; simp; done) | (refine scan_ld3 _ _ _ _ _ _ _ _ _ _ _ _ _ _ _ _ _ _ _ _ ?_; simp; done) | (refine scan_gld3 _ _ _ _ _ _ _ _ _ _ _ _ _ _ _ _ _ _ _ _ _ ?_; simp; done))) rfl ?_
    exact ⟨rfl, by repeat (first | exact hG1 | refine Grw.alloc ?_ _ | refine Grw.ga ?_ _)⟩
set_option maxHeartbeats 2000000 in
set_option maxRecDepth 100000 in
theorem more_g (l0 l1 l2 l3 l4 l5 l6 l7 N k st dg va te pa fo c : Int) (h0 : 0 ≤ c) (h1 : c < 256) (d0 : 0 ≤ dg) (d1 : dg ≤ 100) (v0 : 0 ≤ va) (v1 : va ≤ 65535) (x0 : -1 ≤ digV c 16) (x1 : digV c 16 ≤ 15) (t0 : -1 ≤ te) (t1 : te ≤ 255) (a : 48 ≤ c) (b : c ≤ 57) (hd : dg = 0) (ht : te = 0) (w : World) :
    Calls Tryz.prog 62 #[sv l0 l1 l2 l3 l4 l5 l6 l7 N k st dg va te pa fo, .int .u8 c] w fun e w' => e = .returned (sv l0 l1 l2 l3 l4 l5 l6 l7 N k st 1 (16 * va + digV c 16) (c - 48) pa fo) ∧ Grw w w' := by
  subst hd ht
  go_enter Tryz.func62, Tryz.ntmps62
  go_upto_region 5 with fail
  all_goals
    have w0_ : IntKind.i64.wrap (16 * va) = 16 * va := IntWalk.i64_in _ (by omega)
    have w1_ : IntKind.i64.wrap (16 * va + digV c 16) = 16 * va + digV c 16 := IntWalk.i64_in _ (by omega)
    refine wp_region_drew_tail 7 (by kernel_rfl) (by kernel_rfl) ?_
    dsimp only [List.take, List.drop]
    repeat (go_big_quiet_step (first | (with_reducible exact Calls.quiet_of (refDigit_drew c h0 h1 _))))
    refine wpQuiet_nil ?_
    rintro _ ⟨m1, rfl⟩
    clear w0_ w1_
    simp only [drewN_alloc, GA_drewN, GA_GA]
    obtain ⟨u1, hu, hz, hG1⟩ := drewN_grw w m1
    rw [← hu, ← hz]
    clear hu hz
    go_wp2_with fail
    try simp only [Exit.inBlock, Exit.then]
    refine bodyPost_ret (results_cell rfl rfl (by first | (refine scan_ld0 _ _ _ _ _ _ _ _ _ _ _ _ _ _ _ _ _ ?_; simp; done) | (refine scan_gld0 _ _ _ _ _ _ _ _ _ _ _ _ _ _ _ _ _ _ ?_; simp; done) | (refine scan_ld1 _ _ _ _ _ _ _ _ _ _ _ _ _ _ _ _ _ _ ?_; simp; done) | (refine scan_gld1 _ _ _ _ _ _ _ _ _ _ _ _ _ _ _ _ _ _ _ ?_; simp; done) | (refine scan_ld2 _ _ _ _ _ _ _ _ _ _ _ _ _ _ _ _ _ _ _ ?_; simp; done) | (refine scan_gld2 _ _ _ _ _ _ _ _ _ _ _ _ _ _ _ _ _ _ _ _ ?_; simp; done) | (refine scan_ld3 _ _ _ _ _ _ _ _ _ _ _ _ _ _ _ _ _ _ _ _ ?_; simp; done) | (refine scan_gld3 _ _ _ _ _ _ _ _ _ _ _ _ _ _ _ _ _ _ _ _ _ ?_; simp; done))) rfl ?_
    exact ⟨rfl, by repeat (first | exact hG1 | refine Grw.alloc ?_ _ | refine Grw.ga ?_ _)⟩
set_option maxHeartbeats 2000000 in
set_option maxRecDepth 100000 in
theorem dotted_a (l0 l1 l2 l3 l4 l5 l6 l7 N k st dg va te pa fo : Int) (h : te < 0) (hN : N < 6) (hk : 0 ≤ k) (w : World) :
    Calls Tryz.prog 64 #[sv l0 l1 l2 l3 l4 l5 l6 l7 N k st dg va te pa fo] w fun e w' => e = .returned (sv l0 l1 l2 l3 l4 l5 l6 l7 N k 7 dg va te pa fo) ∧ Grw w w' := by
  go_enter Tryz.func64, Tryz.ntmps64
  go_wp2_with fail
  try simp only [Exit.inBlock, Exit.then]
  refine bodyPost_ret (results_cell rfl rfl (by first | (refine scan_ld0 _ _ _ _ _ _ _ _ _ _ _ _ _ _ _ _ _ ?_; simp; done) | (refine scan_gld0 _ _ _ _ _ _ _ _ _ _ _ _ _ _ _ _ _ _ ?_; simp; done) | (refine scan_ld1 _ _ _ _ _ _ _ _ _ _ _ _ _ _ _ _ _ _ ?_; simp; done) | (refine scan_gld1 _ _ _ _ _ _ _ _ _ _ _ _ _ _ _ _ _ _ _ ?_; simp; done) | (refine scan_ld2 _ _ _ _ _ _ _ _ _ _ _ _ _ _ _ _ _ _ _ ?_; simp; done) | (refine scan_gld2 _ _ _ _ _ _ _ _ _ _ _ _ _ _ _ _ _ _ _ _ ?_; simp; done) | (refine scan_ld3 _ _ _ _ _ _ _ _ _ _ _ _ _ _ _ _ _ _ _ _ ?_; simp; done) | (refine scan_gld3 _ _ _ _ _ _ _ _ _ _ _ _ _ _ _ _ _ _ _ _ _ ?_; simp; done))) rfl ?_
  exact ⟨rfl, by repeat (first | exact (Grw.refl w) | refine Grw.alloc ?_ _ | refine Grw.ga ?_ _)⟩
set_option maxHeartbeats 2000000 in
set_option maxRecDepth 100000 in
theorem dotted_b (l0 l1 l2 l3 l4 l5 l6 l7 N k st dg va te pa fo : Int) (h : te < 0) (hN : N < 6) (hk : k < 0) (w : World) :
    Calls Tryz.prog 64 #[sv l0 l1 l2 l3 l4 l5 l6 l7 N k st dg va te pa fo] w fun e w' => e = .returned (sv l0 l1 l2 l3 l4 l5 l6 l7 N k 7 dg va te pa fo) ∧ Grw w w' := by
  go_enter Tryz.func64, Tryz.ntmps64
  go_wp2_with fail
  try simp only [Exit.inBlock, Exit.then]
  refine bodyPost_ret (results_cell rfl rfl (by first | (refine scan_ld0 _ _ _ _ _ _ _ _ _ _ _ _ _ _ _ _ _ ?_; simp; done) | (refine scan_gld0 _ _ _ _ _ _ _ _ _ _ _ _ _ _ _ _ _ _ ?_; simp; done) | (refine scan_ld1 _ _ _ _ _ _ _ _ _ _ _ _ _ _ _ _ _ _ ?_; simp; done) | (refine scan_gld1 _ _ _ _ _ _ _ _ _ _ _ _ _ _ _ _ _ _ _ ?_; simp; done) | (refine scan_ld2 _ _ _ _ _ _ _ _ _ _ _ _ _ _ _ _ _ _ _ ?_; simp; done) | (refine scan_gld2 _ _ _ _ _ _ _ _ _ _ _ _ _ _ _ _ _ _ _ _ ?_; simp; done) | (refine scan_ld3 _ _ _ _ _ _ _ _ _ _ _ _ _ _ _ _ _ _ _ _ ?_; simp; done) | (refine scan_gld3 _ _ _ _ _ _ _ _ _ _ _ _ _ _ _ _ _ _ _ _ _ ?_; simp; done))) rfl ?_
  exact ⟨rfl, by repeat (first | exact (Grw.refl w) | refine Grw.alloc ?_ _ | refine Grw.ga ?_ _)⟩
set_option maxHeartbeats 2000000 in
set_option maxRecDepth 100000 in
theorem dotted_c (l0 l1 l2 l3 l4 l5 l6 l7 N k st dg va te pa fo : Int) (h : te < 0) (hN : N = 6) (hk : 0 ≤ k) (w : World) :
    Calls Tryz.prog 64 #[sv l0 l1 l2 l3 l4 l5 l6 l7 N k st dg va te pa fo] w fun e w' => e = .returned (sv l0 l1 l2 l3 l4 l5 l6 l7 6 k 7 dg va te pa fo) ∧ Grw w w' := by
  subst hN
  go_enter Tryz.func64, Tryz.ntmps64
  go_wp2_with fail
  try simp only [Exit.inBlock, Exit.then]
  refine bodyPost_ret (results_cell rfl rfl (by first | (refine scan_ld0 _ _ _ _ _ _ _ _ _ _ _ _ _ _ _ _ _ ?_; simp; done) | (refine scan_gld0 _ _ _ _ _ _ _ _ _ _ _ _ _ _ _ _ _ _ ?_; simp; done) | (refine scan_ld1 _ _ _ _ _ _ _ _ _ _ _ _ _ _ _ _ _ _ ?_; simp; done) | (refine scan_gld1 _ _ _ _ _ _ _ _ _ _ _ _ _ _ _ _ _ _ _ ?_; simp; done) | (refine scan_ld2 _ _ _ _ _ _ _ _ _ _ _ _ _ _ _ _ _ _ _ ?_; simp; done) | (refine scan_gld2 _ _ _ _ _ _ _ _ _ _ _ _ _ _ _ _ _ _ _ _ ?_; simp; done) | (refine scan_ld3 _ _ _ _ _ _ _ _ _ _ _ _ _ _ _ _ _ _ _ _ ?_; simp; done) | (refine scan_gld3 _ _ _ _ _ _ _ _ _ _ _ _ _ _ _ _ _ _ _ _ _ ?_; simp; done))) rfl ?_
  exact ⟨rfl, by repeat (first | exact (Grw.refl w) | refine Grw.alloc ?_ _ | refine Grw.ga ?_ _)⟩
set_option maxHeartbeats 2000000 in
set_option maxRecDepth 100000 in
theorem dotted_d (l0 l1 l2 l3 l4 l5 l6 l7 N k st dg va te pa fo : Int) (h : te < 0) (hN : N = 6) (hk : k < 0) (w : World) :
    Calls Tryz.prog 64 #[sv l0 l1 l2 l3 l4 l5 l6 l7 N k st dg va te pa fo] w fun e w' => e = .returned (sv l0 l1 l2 l3 l4 l5 l6 l7 6 k 7 dg va te pa fo) ∧ Grw w w' := by
  subst hN
  go_enter Tryz.func64, Tryz.ntmps64
  go_wp2_with fail
  try simp only [Exit.inBlock, Exit.then]
  refine bodyPost_ret (results_cell rfl rfl (by first | (refine scan_ld0 _ _ _ _ _ _ _ _ _ _ _ _ _ _ _ _ _ ?_; simp; done) | (refine scan_gld0 _ _ _ _ _ _ _ _ _ _ _ _ _ _ _ _ _ _ ?_; simp; done) | (refine scan_ld1 _ _ _ _ _ _ _ _ _ _ _ _ _ _ _ _ _ _ ?_; simp; done) | (refine scan_gld1 _ _ _ _ _ _ _ _ _ _ _ _ _ _ _ _ _ _ _ ?_; simp; done) | (refine scan_ld2 _ _ _ _ _ _ _ _ _ _ _ _ _ _ _ _ _ _ _ ?_; simp; done) | (refine scan_gld2 _ _ _ _ _ _ _ _ _ _ _ _ _ _ _ _ _ _ _ _ ?_; simp; done) | (refine scan_ld3 _ _ _ _ _ _ _ _ _ _ _ _ _ _ _ _ _ _ _ _ ?_; simp; done) | (refine scan_gld3 _ _ _ _ _ _ _ _ _ _ _ _ _ _ _ _ _ _ _ _ _ ?_; simp; done))) rfl ?_
  exact ⟨rfl, by repeat (first | exact (Grw.refl w) | refine Grw.alloc ?_ _ | refine Grw.ga ?_ _)⟩
set_option maxHeartbeats 2000000 in
set_option maxRecDepth 100000 in
theorem dotted_e (l0 l1 l2 l3 l4 l5 l6 l7 N k st dg va te pa fo : Int) (h : te < 0) (hN : 6 < N) (w : World) :
    Calls Tryz.prog 64 #[sv l0 l1 l2 l3 l4 l5 l6 l7 N k st dg va te pa fo] w fun e w' => e = .returned (sv l0 l1 l2 l3 l4 l5 l6 l7 N k 7 dg va te pa fo) ∧ Grw w w' := by
  go_enter Tryz.func64, Tryz.ntmps64
  go_wp2_with fail
  try simp only [Exit.inBlock, Exit.then]
  refine bodyPost_ret (results_cell rfl rfl (by first | (refine scan_ld0 _ _ _ _ _ _ _ _ _ _ _ _ _ _ _ _ _ ?_; simp; done) | (refine scan_gld0 _ _ _ _ _ _ _ _ _ _ _ _ _ _ _ _ _ _ ?_; simp; done) | (refine scan_ld1 _ _ _ _ _ _ _ _ _ _ _ _ _ _ _ _ _ _ ?_; simp; done) | (refine scan_gld1 _ _ _ _ _ _ _ _ _ _ _ _ _ _ _ _ _ _ _ ?_; simp; done) | (refine scan_ld2 _ _ _ _ _ _ _ _ _ _ _ _ _ _ _ _ _ _ _ ?_; simp; done) | (refine scan_gld2 _ _ _ _ _ _ _ _ _ _ _ _ _ _ _ _ _ _ _ _ ?_; simp; done) | (refine scan_ld3 _ _ _ _ _ _ _ _ _ _ _ _ _ _ _ _ _ _ _ _ ?_; simp; done) | (refine scan_gld3 _ _ _ _ _ _ _ _ _ _ _ _ _ _ _ _ _ _ _ _ _ ?_; simp; done))) rfl ?_
  exact ⟨rfl, by repeat (first | exact (Grw.refl w) | refine Grw.alloc ?_ _ | refine Grw.ga ?_ _)⟩
set_option maxHeartbeats 2000000 in
set_option maxRecDepth 100000 in
theorem dotted_f (l0 l1 l2 l3 l4 l5 l6 l7 N k st dg va te pa fo : Int) (h : 0 ≤ te) (hN : N < 6) (hk : 0 ≤ k) (w : World) :
    Calls Tryz.prog 64 #[sv l0 l1 l2 l3 l4 l5 l6 l7 N k st dg va te pa fo] w fun e w' => e = .returned (sv l0 l1 l2 l3 l4 l5 l6 l7 N k 5 dg va te 1 te) ∧ Grw w w' := by
  go_enter Tryz.func64, Tryz.ntmps64
  go_wp2_with fail
  try simp only [Exit.inBlock, Exit.then]
  refine bodyPost_ret (results_cell rfl rfl (by first | (refine scan_ld0 _ _ _ _ _ _ _ _ _ _ _ _ _ _ _ _ _ ?_; simp; done) | (refine scan_gld0 _ _ _ _ _ _ _ _ _ _ _ _ _ _ _ _ _ _ ?_; simp; done) | (refine scan_ld1 _ _ _ _ _ _ _ _ _ _ _ _ _ _ _ _ _ _ ?_; simp; done) | (refine scan_gld1 _ _ _ _ _ _ _ _ _ _ _ _ _ _ _ _ _ _ _ ?_; simp; done) | (refine scan_ld2 _ _ _ _ _ _ _ _ _ _ _ _ _ _ _ _ _ _ _ ?_; simp; done) | (refine scan_gld2 _ _ _ _ _ _ _ _ _ _ _ _ _ _ _ _ _ _ _ _ ?_; simp; done) | (refine scan_ld3 _ _ _ _ _ _ _ _ _ _ _ _ _ _ _ _ _ _ _ _ ?_; simp; done) | (refine scan_gld3 _ _ _ _ _ _ _ _ _ _ _ _ _ _ _ _ _ _ _ _ _ ?_; simp; done))) rfl ?_
  exact ⟨rfl, by repeat (first | exact (Grw.refl w) | refine Grw.alloc ?_ _ | refine Grw.ga ?_ _)⟩
set_option maxHeartbeats 2000000 in
set_option maxRecDepth 100000 in
theorem dotted_g (l0 l1 l2 l3 l4 l5 l6 l7 N k st dg va te pa fo : Int) (h : 0 ≤ te) (hN : N < 6) (hk : k < 0) (hkb : decide (0 ≤ k) = false) (w : World) :
    Calls Tryz.prog 64 #[sv l0 l1 l2 l3 l4 l5 l6 l7 N k st dg va te pa fo] w fun e w' => e = .returned (sv l0 l1 l2 l3 l4 l5 l6 l7 N k 7 dg va te pa fo) ∧ Grw w w' := by
  go_enter Tryz.func64, Tryz.ntmps64
  go_wp2_with fail
  try simp only [Exit.inBlock, Exit.then]
  refine bodyPost_ret (results_cell rfl rfl (by first | (refine scan_ld0 _ _ _ _ _ _ _ _ _ _ _ _ _ _ _ _ _ ?_; simp; done) | (refine scan_gld0 _ _ _ _ _ _ _ _ _ _ _ _ _ _ _ _ _ _ ?_; simp; done) | (refine scan_ld1 _ _ _ _ _ _ _ _ _ _ _ _ _ _ _ _ _ _ ?_; simp; done) | (refine scan_gld1 _ _ _ _ _ _ _ _ _ _ _ _ _ _ _ _ _ _ _ ?_; simp; done) | (refine scan_ld2 _ _ _ _ _ _ _ _ _ _ _ _ _ _ _ _ _ _ _ ?_; simp; done) | (refine scan_gld2 _ _ _ _ _ _ _ _ _ _ _ _ _ _ _ _ _ _ _ _ ?_; simp; done) | (refine scan_ld3 _ _ _ _ _ _ _ _ _ _ _ _ _ _ _ _ _ _ _ _ ?_; simp; done) | (refine scan_gld3 _ _ _ _ _ _ _ _ _ _ _ _ _ _ _ _ _ _ _ _ _ ?_; simp; done))) rfl ?_
  exact ⟨rfl, by repeat (first | exact (Grw.refl w) | refine Grw.alloc ?_ _ | refine Grw.ga ?_ _)⟩
set_option maxHeartbeats 2000000 in
set_option maxRecDepth 100000 in
theorem dotted_h (l0 l1 l2 l3 l4 l5 l6 l7 N k st dg va te pa fo : Int) (h : 0 ≤ te) (hN : N = 6) (hk : 0 ≤ k) (hkb : decide (k < 0) = false) (w : World) :
    Calls Tryz.prog 64 #[sv l0 l1 l2 l3 l4 l5 l6 l7 N k st dg va te pa fo] w fun e w' => e = .returned (sv l0 l1 l2 l3 l4 l5 l6 l7 6 k 7 dg va te pa fo) ∧ Grw w w' := by
  subst hN
  go_enter Tryz.func64, Tryz.ntmps64
  go_wp2_with fail
  try simp only [Exit.inBlock, Exit.then]
  refine bodyPost_ret (results_cell rfl rfl (by first | (refine scan_ld0 _ _ _ _ _ _ _ _ _ _ _ _ _ _ _ _ _ ?_; simp; done) | (refine scan_gld0 _ _ _ _ _ _ _ _ _ _ _ _ _ _ _ _ _ _ ?_; simp; done) | (refine scan_ld1 _ _ _ _ _ _ _ _ _ _ _ _ _ _ _ _ _ _ ?_; simp; done) | (refine scan_gld1 _ _ _ _ _ _ _ _ _ _ _ _ _ _ _ _ _ _ _ ?_; simp; done) | (refine scan_ld2 _ _ _ _ _ _ _ _ _ _ _ _ _ _ _ _ _ _ _ ?_; simp; done) | (refine scan_gld2 _ _ _ _ _ _ _ _ _ _ _ _ _ _ _ _ _ _ _ _ ?_; simp; done) | (refine scan_ld3 _ _ _ _ _ _ _ _ _ _ _ _ _ _ _ _ _ _ _ _ ?_; simp; done) | (refine scan_gld3 _ _ _ _ _ _ _ _ _ _ _ _ _ _ _ _ _ _ _ _ _ ?_; simp; done))) rfl ?_
  exact ⟨rfl, by repeat (first | exact (Grw.refl w) | refine Grw.alloc ?_ _ | refine Grw.ga ?_ _)⟩
set_option maxHeartbeats 2000000 in
set_option maxRecDepth 100000 in
theorem dotted_i (l0 l1 l2 l3 l4 l5 l6 l7 N k st dg va te pa fo : Int) (h : 0 ≤ te) (hN : N = 6) (hk : k < 0) (w : World) :
    Calls Tryz.prog 64 #[sv l0 l1 l2 l3 l4 l5 l6 l7 N k st dg va te pa fo] w fun e w' => e = .returned (sv l0 l1 l2 l3 l4 l5 l6 l7 6 k 5 dg va te 1 te) ∧ Grw w w' := by
  subst hN
  go_enter Tryz.func64, Tryz.ntmps64
  go_wp2_with fail
  try simp only [Exit.inBlock, Exit.then]
  refine bodyPost_ret (results_cell rfl rfl (by first | (refine scan_ld0 _ _ _ _ _ _ _ _ _ _ _ _ _ _ _ _ _ ?_; simp; done) | (refine scan_gld0 _ _ _ _ _ _ _ _ _ _ _ _ _ _ _ _ _ _ ?_; simp; done) | (refine scan_ld1 _ _ _ _ _ _ _ _ _ _ _ _ _ _ _ _ _ _ ?_; simp; done) | (refine scan_gld1 _ _ _ _ _ _ _ _ _ _ _ _ _ _ _ _ _ _ _ ?_; simp; done) | (refine scan_ld2 _ _ _ _ _ _ _ _ _ _ _ _ _ _ _ _ _ _ _ ?_; simp; done) | (refine scan_gld2 _ _ _ _ _ _ _ _ _ _ _ _ _ _ _ _ _ _ _ _ ?_; simp; done) | (refine scan_ld3 _ _ _ _ _ _ _ _ _ _ _ _ _ _ _ _ _ _ _ _ ?_; simp; done) | (refine scan_gld3 _ _ _ _ _ _ _ _ _ _ _ _ _ _ _ _ _ _ _ _ _ ?_; simp; done))) rfl ?_
  exact ⟨rfl, by repeat (first | exact (Grw.refl w) | refine Grw.alloc ?_ _ | refine Grw.ga ?_ _)⟩
set_option maxHeartbeats 2000000 in
set_option maxRecDepth 100000 in
theorem dotted_j (l0 l1 l2 l3 l4 l5 l6 l7 N k st dg va te pa fo : Int) (h : 0 ≤ te) (hN : 6 < N) (w : World) :
    Calls Tryz.prog 64 #[sv l0 l1 l2 l3 l4 l5 l6 l7 N k st dg va te pa fo] w fun e w' => e = .returned (sv l0 l1 l2 l3 l4 l5 l6 l7 N k 7 dg va te pa fo) ∧ Grw w w' := by
  go_enter Tryz.func64, Tryz.ntmps64
  go_wp2_with fail
  try simp only [Exit.inBlock, Exit.then]
  refine bodyPost_ret (results_cell rfl rfl (by first | (refine scan_ld0 _ _ _ _ _ _ _ _ _ _ _ _ _ _ _ _ _ ?_; simp; done) | (refine scan_gld0 _ _ _ _ _ _ _ _ _ _ _ _ _ _ _ _ _ _ ?_; simp; done) | (refine scan_ld1 _ _ _ _ _ _ _ _ _ _ _ _ _ _ _ _ _ _ ?_; simp; done) | (refine scan_gld1 _ _ _ _ _ _ _ _ _ _ _ _ _ _ _ _ _ _ _ ?_; simp; done) | (refine scan_ld2 _ _ _ _ _ _ _ _ _ _ _ _ _ _ _ _ _ _ _ ?_; simp; done) | (refine scan_gld2 _ _ _ _ _ _ _ _ _ _ _ _ _ _ _ _ _ _ _ _ ?_; simp; done) | (refine scan_ld3 _ _ _ _ _ _ _ _ _ _ _ _ _ _ _ _ _ _ _ _ ?_; simp; done) | (refine scan_gld3 _ _ _ _ _ _ _ _ _ _ _ _ _ _ _ _ _ _ _ _ _ ?_; simp; done))) rfl ?_
  exact ⟨rfl, by repeat (first | exact (Grw.refl w) | refine Grw.alloc ?_ _ | refine Grw.ga ?_ _)⟩
set_option maxHeartbeats 2000000 in
set_option maxRecDepth 100000 in
theorem closed_0 (l0 l1 l2 l3 l4 l5 l6 l7 k st dg va te pa fo : Int) (v0 : 0 ≤ va) (v1 : va ≤ 65535) (w : World) :
    Calls Tryz.prog 63 #[sv l0 l1 l2 l3 l4 l5 l6 l7 0 k st dg va te pa fo] w fun e w' => e = .returned (sv va l1 l2 l3 l4 l5 l6 l7 1 k st dg va te pa fo) ∧ Grw w w' := by
  go_enter Tryz.func63, Tryz.ntmps63
  go_wp2_with fail
  try simp only [Exit.inBlock, Exit.then]
  refine bodyPost_ret (results_cell rfl rfl (by first | (refine scan_ld0 _ _ _ _ _ _ _ _ _ _ _ _ _ _ _ _ _ ?_; simp; done) | (refine scan_gld0 _ _ _ _ _ _ _ _ _ _ _ _ _ _ _ _ _ _ ?_; simp; done) | (refine scan_ld1 _ _ _ _ _ _ _ _ _ _ _ _ _ _ _ _ _ _ ?_; simp; done) | (refine scan_gld1 _ _ _ _ _ _ _ _ _ _ _ _ _ _ _ _ _ _ _ ?_; simp; done) | (refine scan_ld2 _ _ _ _ _ _ _ _ _ _ _ _ _ _ _ _ _ _ _ ?_; simp; done) | (refine scan_gld2 _ _ _ _ _ _ _ _ _ _ _ _ _ _ _ _ _ _ _ _ ?_; simp; done) | (refine scan_ld3 _ _ _ _ _ _ _ _ _ _ _ _ _ _ _ _ _ _ _ _ ?_; simp; done) | (refine scan_gld3 _ _ _ _ _ _ _ _ _ _ _ _ _ _ _ _ _ _ _ _ _ ?_; simp; done))) rfl ?_
  exact ⟨rfl, by repeat (first | exact (Grw.refl w) | refine Grw.alloc ?_ _ | refine Grw.ga ?_ _)⟩
set_option maxHeartbeats 2000000 in
set_option maxRecDepth 100000 in
theorem closed_1 (l0 l1 l2 l3 l4 l5 l6 l7 k st dg va te pa fo : Int) (v0 : 0 ≤ va) (v1 : va ≤ 65535) (w : World) :
    Calls Tryz.prog 63 #[sv l0 l1 l2 l3 l4 l5 l6 l7 1 k st dg va te pa fo] w fun e w' => e = .returned (sv l0 va l2 l3 l4 l5 l6 l7 2 k st dg va te pa fo) ∧ Grw w w' := by
  go_enter Tryz.func63, Tryz.ntmps63
  go_wp2_with fail
  try simp only [Exit.inBlock, Exit.then]
  refine bodyPost_ret (results_cell rfl rfl (by first | (refine scan_ld0 _ _ _ _ _ _ _ _ _ _ _ _ _ _ _ _ _ ?_; simp; done) | (refine scan_gld0 _ _ _ _ _ _ _ _ _ _ _ _ _ _ _ _ _ _ ?_; simp; done) | (refine scan_ld1 _ _ _ _ _ _ _ _ _ _ _ _ _ _ _ _ _ _ ?_; simp; done) | (refine scan_gld1 _ _ _ _ _ _ _ _ _ _ _ _ _ _ _ _ _ _ _ ?_; simp; done) | (refine scan_ld2 _ _ _ _ _ _ _ _ _ _ _ _ _ _ _ _ _ _ _ ?_; simp; done) | (refine scan_gld2 _ _ _ _ _ _ _ _ _ _ _ _ _ _ _ _ _ _ _ _ ?_; simp; done) | (refine scan_ld3 _ _ _ _ _ _ _ _ _ _ _ _ _ _ _ _ _ _ _ _ ?_; simp; done) | (refine scan_gld3 _ _ _ _ _ _ _ _ _ _ _ _ _ _ _ _ _ _ _ _ _ ?_; simp; done))) rfl ?_
  exact ⟨rfl, by repeat (first | exact (Grw.refl w) | refine Grw.alloc ?_ _ | refine Grw.ga ?_ _)⟩
set_option maxHeartbeats 2000000 in
set_option maxRecDepth 100000 in
theorem closed_2 (l0 l1 l2 l3 l4 l5 l6 l7 k st dg va te pa fo : Int) (v0 : 0 ≤ va) (v1 : va ≤ 65535) (w : World) :
    Calls Tryz.prog 63 #[sv l0 l1 l2 l3 l4 l5 l6 l7 2 k st dg va te pa fo] w fun e w' => e = .returned (sv l0 l1 va l3 l4 l5 l6 l7 3 k st dg va te pa fo) ∧ Grw w w' := by
  go_enter Tryz.func63, Tryz.ntmps63
  go_wp2_with fail
  try simp only [Exit.inBlock, Exit.then]
  refine bodyPost_ret (results_cell rfl rfl (by first | (refine scan_ld0 _ _ _ _ _ _ _ _ _ _ _ _ _ _ _ _ _ ?_; simp; done) | (refine scan_gld0 _ _ _ _ _ _ _ _ _ _ _ _ _ _ _ _ _ _ ?_; simp; done) | (refine scan_ld1 _ _ _ _ _ _ _ _ _ _ _ _ _ _ _ _ _ _ ?_; simp; done) | (refine scan_gld1 _ _ _ _ _ _ _ _ _ _ _ _ _ _ _ _ _ _ _ ?_; simp; done) | (refine scan_ld2 _ _ _ _ _ _ _ _ _ _ _ _ _ _ _ _ _ _ _ ?_; simp; done) | (refine scan_gld2 _ _ _ _ _ _ _ _ _ _ _ _ _ _ _ _ _ _ _ _ ?_; simp; done) | (refine scan_ld3 _ _ _ _ _ _ _ _ _ _ _ _ _ _ _ _ _ _ _ _ ?_; simp; done) | (refine scan_gld3 _ _ _ _ _ _ _ _ _ _ _ _ _ _ _ _ _ _ _ _ _ ?_; simp; done))) rfl ?_
  exact ⟨rfl, by repeat (first | exact (Grw.refl w) | refine Grw.alloc ?_ _ | refine Grw.ga ?_ _)⟩
set_option maxHeartbeats 2000000 in
set_option maxRecDepth 100000 in
theorem closed_3 (l0 l1 l2 l3 l4 l5 l6 l7 k st dg va te pa fo : Int) (v0 : 0 ≤ va) (v1 : va ≤ 65535) (w : World) :
    Calls Tryz.prog 63 #[sv l0 l1 l2 l3 l4 l5 l6 l7 3 k st dg va te pa fo] w fun e w' => e = .returned (sv l0 l1 l2 va l4 l5 l6 l7 4 k st dg va te pa fo) ∧ Grw w w' := by
  go_enter Tryz.func63, Tryz.ntmps63
  go_wp2_with fail
  try simp only [Exit.inBlock, Exit.then]
  refine bodyPost_ret (results_cell rfl rfl (by first | (refine scan_ld0 _ _ _ _ _ _ _ _ _ _ _ _ _ _ _ _ _ ?_; simp; done) | (refine scan_gld0 _ _ _ _ _ _ _ _ _ _ _ _ _ _ _ _ _ _ ?_; simp; done) | (refine scan_ld1 _ _ _ _ _ _ _ _ _ _ _ _ _ _ _ _ _ _ ?_; simp; done) | (refine scan_gld1 _ _ _ _ _ _ _ _ _ _ _ _ _ _ _ _ _ _ _ ?_; simp; done) | (refine scan_ld2 _ _ _ _ _ _ _ _ _ _ _ _ _ _ _ _ _ _ _ ?_; simp; done) | (refine scan_gld2 _ _ _ _ _ _ _ _ _ _ _ _ _ _ _ _ _ _ _ _ ?_; simp; done) | (refine scan_ld3 _ _ _ _ _ _ _ _ _ _ _ _ _ _ _ _ _ _ _ _ ?_; simp; done) | (refine scan_gld3 _ _ _ _ _ _ _ _ _ _ _ _ _ _ _ _ _ _ _ _ _ ?_; simp; done))) rfl ?_
  exact ⟨rfl, by repeat (first | exact (Grw.refl w) | refine Grw.alloc ?_ _ | refine Grw.ga ?_ _)⟩
set_option maxHeartbeats 2000000 in
set_option maxRecDepth 100000 in
theorem closed_4 (l0 l1 l2 l3 l4 l5 l6 l7 k st dg va te pa fo : Int) (v0 : 0 ≤ va) (v1 : va ≤ 65535) (w : World) :
    Calls Tryz.prog 63 #[sv l0 l1 l2 l3 l4 l5 l6 l7 4 k st dg va te pa fo] w fun e w' => e = .returned (sv l0 l1 l2 l3 va l5 l6 l7 5 k st dg va te pa fo) ∧ Grw w w' := by
  go_enter Tryz.func63, Tryz.ntmps63
  go_wp2_with fail
  try simp only [Exit.inBlock, Exit.then]
  refine bodyPost_ret (results_cell rfl rfl (by first | (refine scan_ld0 _ _ _ _ _ _ _ _ _ _ _ _ _ _ _ _ _ ?_; simp; done) | (refine scan_gld0 _ _ _ _ _ _ _ _ _ _ _ _ _ _ _ _ _ _ ?_; simp; done) | (refine scan_ld1 _ _ _ _ _ _ _ _ _ _ _ _ _ _ _ _ _ _ ?_; simp; done) | (refine scan_gld1 _ _ _ _ _ _ _ _ _ _ _ _ _ _ _ _ _ _ _ ?_; simp; done) | (refine scan_ld2 _ _ _ _ _ _ _ _ _ _ _ _ _ _ _ _ _ _ _ ?_; simp; done) | (refine scan_gld2 _ _ _ _ _ _ _ _ _ _ _ _ _ _ _ _ _ _ _ _ ?_; simp; done) | (refine scan_ld3 _ _ _ _ _ _ _ _ _ _ _ _ _ _ _ _ _ _ _ _ ?_; simp; done) | (refine scan_gld3 _ _ _ _ _ _ _ _ _ _ _ _ _ _ _ _ _ _ _ _ _ ?_; simp; done))) rfl ?_
  exact ⟨rfl, by repeat (first | exact (Grw.refl w) | refine Grw.alloc ?_ _ | refine Grw.ga ?_ _)⟩
set_option maxHeartbeats 2000000 in
set_option maxRecDepth 100000 in
theorem closed_5 (l0 l1 l2 l3 l4 l5 l6 l7 k st dg va te pa fo : Int) (v0 : 0 ≤ va) (v1 : va ≤ 65535) (w : World) :
    Calls Tryz.prog 63 #[sv l0 l1 l2 l3 l4 l5 l6 l7 5 k st dg va te pa fo] w fun e w' => e = .returned (sv l0 l1 l2 l3 l4 va l6 l7 6 k st dg va te pa fo) ∧ Grw w w' := by
  go_enter Tryz.func63, Tryz.ntmps63
  go_wp2_with fail
  try simp only [Exit.inBlock, Exit.then]
  refine bodyPost_ret (results_cell rfl rfl (by first | (refine scan_ld0 _ _ _ _ _ _ _ _ _ _ _ _ _ _ _ _ _ ?_; simp; done) | (refine scan_gld0 _ _ _ _ _ _ _ _ _ _ _ _ _ _ _ _ _ _ ?_; simp; done) | (refine scan_ld1 _ _ _ _ _ _ _ _ _ _ _ _ _ _ _ _ _ _ ?_; simp; done) | (refine scan_gld1 _ _ _ _ _ _ _ _ _ _ _ _ _ _ _ _ _ _ _ ?_; simp; done) | (refine scan_ld2 _ _ _ _ _ _ _ _ _ _ _ _ _ _ _ _ _ _ _ ?_; simp; done) | (refine scan_gld2 _ _ _ _ _ _ _ _ _ _ _ _ _ _ _ _ _ _ _ _ ?_; simp; done) | (refine scan_ld3 _ _ _ _ _ _ _ _ _ _ _ _ _ _ _ _ _ _ _ _ ?_; simp; done) | (refine scan_gld3 _ _ _ _ _ _ _ _ _ _ _ _ _ _ _ _ _ _ _ _ _ ?_; simp; done))) rfl ?_
  exact ⟨rfl, by repeat (first | exact (Grw.refl w) | refine Grw.alloc ?_ _ | refine Grw.ga ?_ _)⟩
set_option maxHeartbeats 2000000 in
set_option maxRecDepth 100000 in
theorem closed_6 (l0 l1 l2 l3 l4 l5 l6 l7 k st dg va te pa fo : Int) (v0 : 0 ≤ va) (v1 : va ≤ 65535) (w : World) :
    Calls Tryz.prog 63 #[sv l0 l1 l2 l3 l4 l5 l6 l7 6 k st dg va te pa fo] w fun e w' => e = .returned (sv l0 l1 l2 l3 l4 l5 va l7 7 k st dg va te pa fo) ∧ Grw w w' := by
  go_enter Tryz.func63, Tryz.ntmps63
  go_wp2_with fail
  try simp only [Exit.inBlock, Exit.then]
  refine bodyPost_ret (results_cell rfl rfl (by first | (refine scan_ld0 _ _ _ _ _ _ _ _ _ _ _ _ _ _ _ _ _ ?_; simp; done) | (refine scan_gld0 _ _ _ _ _ _ _ _ _ _ _ _ _ _ _ _ _ _ ?_; simp; done) | (refine scan_ld1 _ _ _ _ _ _ _ _ _ _ _ _ _ _ _ _ _ _ ?_; simp; done) | (refine scan_gld1 _ _ _ _ _ _ _ _ _ _ _ _ _ _ _ _ _ _ _ ?_; simp; done) | (refine scan_ld2 _ _ _ _ _ _ _ _ _ _ _ _ _ _ _ _ _ _ _ ?_; simp; done) | (refine scan_gld2 _ _ _ _ _ _ _ _ _ _ _ _ _ _ _ _ _ _ _ _ ?_; simp; done) | (refine scan_ld3 _ _ _ _ _ _ _ _ _ _ _ _ _ _ _ _ _ _ _ _ ?_; simp; done) | (refine scan_gld3 _ _ _ _ _ _ _ _ _ _ _ _ _ _ _ _ _ _ _ _ _ ?_; simp; done))) rfl ?_
  exact ⟨rfl, by repeat (first | exact (Grw.refl w) | refine Grw.alloc ?_ _ | refine Grw.ga ?_ _)⟩
set_option maxHeartbeats 2000000 in
set_option maxRecDepth 100000 in
theorem closed_7 (l0 l1 l2 l3 l4 l5 l6 l7 k st dg va te pa fo : Int) (v0 : 0 ≤ va) (v1 : va ≤ 65535) (w : World) :
    Calls Tryz.prog 63 #[sv l0 l1 l2 l3 l4 l5 l6 l7 7 k st dg va te pa fo] w fun e w' => e = .returned (sv l0 l1 l2 l3 l4 l5 l6 va 8 k st dg va te pa fo) ∧ Grw w w' := by
  go_enter Tryz.func63, Tryz.ntmps63
  go_wp2_with fail
  try simp only [Exit.inBlock, Exit.then]
  refine bodyPost_ret (results_cell rfl rfl (by first | (refine scan_ld0 _ _ _ _ _ _ _ _ _ _ _ _ _ _ _ _ _ ?_; simp; done) | (refine scan_gld0 _ _ _ _ _ _ _ _ _ _ _ _ _ _ _ _ _ _ ?_; simp; done) | (refine scan_ld1 _ _ _ _ _ _ _ _ _ _ _ _ _ _ _ _ _ _ ?_; simp; done) | (refine scan_gld1 _ _ _ _ _ _ _ _ _ _ _ _ _ _ _ _ _ _ _ ?_; simp; done) | (refine scan_ld2 _ _ _ _ _ _ _ _ _ _ _ _ _ _ _ _ _ _ _ ?_; simp; done) | (refine scan_gld2 _ _ _ _ _ _ _ _ _ _ _ _ _ _ _ _ _ _ _ _ ?_; simp; done) | (refine scan_ld3 _ _ _ _ _ _ _ _ _ _ _ _ _ _ _ _ _ _ _ _ ?_; simp; done) | (refine scan_gld3 _ _ _ _ _ _ _ _ _ _ _ _ _ _ _ _ _ _ _ _ _ ?_; simp; done))) rfl ?_
  exact ⟨rfl, by repeat (first | exact (Grw.refl w) | refine Grw.alloc ?_ _ | refine Grw.ga ?_ _)⟩
set_option maxHeartbeats 2000000 in
set_option maxRecDepth 100000 in
theorem first_a (l0 l1 l2 l3 l4 l5 l6 l7 N k st dg va te pa fo c : Int) (h0 : 0 ≤ c) (h1 : c < 256) (n0 : 0 ≤ N) (n1 : N ≤ 8) (x0 : -1 ≤ digV c 16) (x1 : digV c 16 ≤ 15) (hx : digV c 16 < 0) (w : World) :
    Calls Tryz.prog 61 #[sv l0 l1 l2 l3 l4 l5 l6 l7 N k st dg va te pa fo, .int .u8 c] w fun e w' => e = .returned (sv l0 l1 l2 l3 l4 l5 l6 l7 N k 7 0 0 0 pa fo) ∧ Grw w w' := by
  go_enter Tryz.func61, Tryz.ntmps61
  go_wp2_with fail
  refine (refDigit_drew c h0 h1 _).mono ?_
  rintro e w1 ⟨rfl, m1, rfl⟩
  simp only [drewN_alloc, GA_drewN, GA_GA]
  obtain ⟨u1, hu, hz, hG1⟩ := drewN_grw w m1
  rw [← hu, ← hz]
  clear hu hz
  go_wp2_with fail
  try simp only [Exit.inBlock, Exit.then]
  refine bodyPost_ret (results_cell rfl rfl (by first | (refine scan_ld0 _ _ _ _ _ _ _ _ _ _ _ _ _ _ _ _ _ ?_; simp; done) | (refine scan_gld0 _ _ _ _ _ _ _ _ _ _ _ _ _ _ _ _ _ _ ?_; simp; done) | (refine scan_ld1 _ _ _ _ _ _ _ _ _ _ _ _ _ _ _ _ _ _ ?_; simp; done) | (refine scan_gld1 _ _ _ _ _ _ _ _ _ _ _ _ _ _ _ _ _ _ _ ?_; simp; done) | (refine scan_ld2 _ _ _ _ _ _ _ _ _ _ _ _ _ _ _ _ _ _ _ ?_; simp; done) | (refine scan_gld2 _ _ _ _ _ _ _ _ _ _ _ _ _ _ _ _ _ _ _ _ ?_; simp; done) | (refine scan_ld3 _ _ _ _ _ _ _ _ _ _ _ _ _ _ _ _ _ _ _ _ ?_; simp; done) | (refine scan_gld3 _ _ _ _ _ _ _ _ _ _ _ _ _ _ _ _ _ _ _ _ _ ?_; simp; done))) rfl ?_
  exact ⟨rfl, by repeat (first | exact hG1 | refine Grw.alloc ?_ _ | refine Grw.ga ?_ _)⟩
set_option maxHeartbeats 2000000 in
set_option maxRecDepth 100000 in
theorem first_b (l0 l1 l2 l3 l4 l5 l6 l7 N k st dg va te pa fo c : Int) (h0 : 0 ≤ c) (h1 : c < 256) (n0 : 0 ≤ N) (n1 : N ≤ 8) (x0 : -1 ≤ digV c 16) (x1 : digV c 16 ≤ 15) (hx : 0 ≤ digV c 16) (r : Int) (hr : (if 0 ≤ k then 7 - N else 8 - N) = r) (r0 : r < 1) (w : World) :
    Calls Tryz.prog 61 #[sv l0 l1 l2 l3 l4 l5 l6 l7 N k st dg va te pa fo, .int .u8 c] w fun e w' => e = .returned (sv l0 l1 l2 l3 l4 l5 l6 l7 N k 7 0 0 0 pa fo) ∧ Grw w w' := by
  go_enter Tryz.func61, Tryz.ntmps61
  go_wp2_with fail
  refine (refDigit_drew c h0 h1 _).mono ?_
  rintro e w1 ⟨rfl, m1, rfl⟩
  simp only [drewN_alloc, GA_drewN, GA_GA]
  obtain ⟨u1, hu, hz, hG1⟩ := drewN_grw w m1
  rw [← hu, ← hz]
  clear hu hz
  go_wp2_with fail
  refine (room_walk _ _ _ _ _ _ _ _ _ _ _ _ _ _ _ _ n0 n1 _).mono ?_
  rintro e w2 ⟨rfl, m2, g2, rfl⟩
  rw [hr]
  simp only [drewN_alloc, GA_drewN, GA_GA]
  obtain ⟨u2, hu, hz, hG2⟩ := drewN_grw u1 m2
  rw [← hu, ← hz]
  clear hu hz
  replace hG2 : Grw w u2 := hG1.trans hG2
  have hlt : u2.heap.size < u2.heap.size + 1 + 1 := by omega
  go_wp2_with fail
  try simp only [Exit.inBlock, Exit.then]
  refine bodyPost_ret (results_cell rfl rfl (by first | (refine scan_ld0 _ _ _ _ _ _ _ _ _ _ _ _ _ _ _ _ _ ?_; simp; done) | (refine scan_gld0 _ _ _ _ _ _ _ _ _ _ _ _ _ _ _ _ _ _ ?_; simp; done) | (refine scan_ld1 _ _ _ _ _ _ _ _ _ _ _ _ _ _ _ _ _ _ ?_; simp; done) | (refine scan_gld1 _ _ _ _ _ _ _ _ _ _ _ _ _ _ _ _ _ _ _ ?_; simp; done) | (refine scan_ld2 _ _ _ _ _ _ _ _ _ _ _ _ _ _ _ _ _ _ _ ?_; simp; done) | (refine scan_gld2 _ _ _ _ _ _ _ _ _ _ _ _ _ _ _ _ _ _ _ _ ?_; simp; done) | (refine scan_ld3 _ _ _ _ _ _ _ _ _ _ _ _ _ _ _ _ _ _ _ _ ?_; simp; done) | (refine scan_gld3 _ _ _ _ _ _ _ _ _ _ _ _ _ _ _ _ _ _ _ _ _ ?_; simp; done))) rfl ?_
  exact ⟨rfl, by repeat (first | exact hG2 | refine Grw.alloc ?_ _ | refine Grw.ga ?_ _)⟩
/-- What a digit more says to the base 10. -/
def tenM (dg te c : Int) : Int := if c < 48 ∨ 57 < c ∨ (0 < dg ∧ te = 0) ∨ te < 0 ∨ 255 < 10 * te + (c - 48) then -1 else 10 * te + (c - 48)
theorem more_walk (l0 l1 l2 l3 l4 l5 l6 l7 N k st dg va te pa fo c : Int) (h0 : 0 ≤ c) (h1 : c < 256) (d0 : 0 ≤ dg) (d1 : dg ≤ 100) (v0 : 0 ≤ va) (v1 : va ≤ 65535) (x0 : -1 ≤ digV c 16) (x1 : digV c 16 ≤ 15) (t0 : -1 ≤ te) (t1 : te ≤ 255) (w : World) :
    Calls Tryz.prog 62 #[sv l0 l1 l2 l3 l4 l5 l6 l7 N k st dg va te pa fo, .int .u8 c] w fun e w' => e = .returned (sv l0 l1 l2 l3 l4 l5 l6 l7 N k st (dg + 1) (16 * va + digV c 16) (tenM dg te c) pa fo) ∧ Grw w w' := by
  unfold tenM
  by_cases ha : c < 48
  · rw [if_pos (by omega)]
    exact more_a l0 l1 l2 l3 l4 l5 l6 l7 N k st dg va te pa fo c h0 h1 d0 d1 v0 v1 x0 x1 t0 t1 ha w
  by_cases hb : 57 < c
  · rw [if_pos (by omega)]
    exact more_b l0 l1 l2 l3 l4 l5 l6 l7 N k st dg va te pa fo c h0 h1 d0 d1 v0 v1 x0 x1 t0 t1 hb w
  by_cases ht : te < 0
  · rw [if_pos (by omega)]
    exact more_d l0 l1 l2 l3 l4 l5 l6 l7 N k st dg va te pa fo c h0 h1 d0 d1 v0 v1 x0 x1 t0 t1 (by omega) (by omega) ht w
  by_cases hz : te = 0
  · by_cases hd : 0 < dg
    · rw [if_pos (by omega)]
      exact more_c l0 l1 l2 l3 l4 l5 l6 l7 N k st dg va te pa fo c h0 h1 d0 d1 v0 v1 x0 x1 t0 t1 (by omega) (by omega) hd hz w
    · rw [if_neg (by omega)]
      obtain rfl : dg = 0 := by omega
      subst hz
      rw [show 10 * (0 : Int) + (c - 48) = c - 48 by omega, show (0 : Int) + 1 = 1 from rfl]
      exact more_g l0 l1 l2 l3 l4 l5 l6 l7 N k st 0 va 0 pa fo c h0 h1 d0 d1 v0 v1 x0 x1 t0 t1 (by omega) (by omega) rfl rfl w
  · by_cases hm : 255 < 10 * te + (c - 48)
    · rw [if_pos (by omega)]
      exact more_e l0 l1 l2 l3 l4 l5 l6 l7 N k st dg va te pa fo c h0 h1 d0 d1 v0 v1 x0 x1 t0 t1 (by omega) (by omega) (by omega) hm w
    · rw [if_neg (by omega)]
      exact more_f l0 l1 l2 l3 l4 l5 l6 l7 N k st dg va te pa fo c h0 h1 d0 d1 v0 v1 x0 x1 t0 t1 (by omega) (by omega) (by omega) (by omega) (decide_eq_false hm) (beq_eq_false_iff_ne.2 hz) w
/-- A piece more. -/
def cl (n i l v : Int) : Int := if i = n then v else l
theorem cl_eq {va : Int} (v0 : 0 ≤ va) (v1 : va ≤ 65535) (N : Int) (i l : Int) : cl N i l va = if i = N then va % 65536 else l := by
  unfold cl
  rw [Int.emod_eq_of_lt v0 (by omega)]
theorem closed_walk (l0 l1 l2 l3 l4 l5 l6 l7 N k st dg va te pa fo : Int) (n0 : 0 ≤ N) (n7 : N ≤ 7) (v0 : 0 ≤ va) (v1 : va ≤ 65535) (w : World) :
    Calls Tryz.prog 63 #[sv l0 l1 l2 l3 l4 l5 l6 l7 N k st dg va te pa fo] w fun e w' => e = .returned (sv (cl N 0 l0 va) (cl N 1 l1 va) (cl N 2 l2 va) (cl N 3 l3 va) (cl N 4 l4 va) (cl N 5 l5 va) (cl N 6 l6 va) (cl N 7 l7 va) (N + 1) k st dg va te pa fo) ∧ Grw w w' := by
  have hN : N = 0 ∨ N = 1 ∨ N = 2 ∨ N = 3 ∨ N = 4 ∨ N = 5 ∨ N = 6 ∨ N = 7 := by omega
  rcases hN with rfl | rfl | rfl | rfl | rfl | rfl | rfl | rfl
  · exact closed_0 l0 l1 l2 l3 l4 l5 l6 l7 k st dg va te pa fo v0 v1 w
  · exact closed_1 l0 l1 l2 l3 l4 l5 l6 l7 k st dg va te pa fo v0 v1 w
  · exact closed_2 l0 l1 l2 l3 l4 l5 l6 l7 k st dg va te pa fo v0 v1 w
  · exact closed_3 l0 l1 l2 l3 l4 l5 l6 l7 k st dg va te pa fo v0 v1 w
  · exact closed_4 l0 l1 l2 l3 l4 l5 l6 l7 k st dg va te pa fo v0 v1 w
  · exact closed_5 l0 l1 l2 l3 l4 l5 l6 l7 k st dg va te pa fo v0 v1 w
  · exact closed_6 l0 l1 l2 l3 l4 l5 l6 l7 k st dg va te pa fo v0 v1 w
  · exact closed_7 l0 l1 l2 l3 l4 l5 l6 l7 k st dg va te pa fo v0 v1 w
theorem dotted_walk (l0 l1 l2 l3 l4 l5 l6 l7 N k st dg va te pa fo : Int) (w : World) :
    Calls Tryz.prog 64 #[sv l0 l1 l2 l3 l4 l5 l6 l7 N k st dg va te pa fo] w fun e w' => e = .returned (if te < 0 ∨ ¬ (N = 6 ∧ k < 0 ∨ N ≤ 5 ∧ 0 ≤ k) then sv l0 l1 l2 l3 l4 l5 l6 l7 N k 7 dg va te pa fo else sv l0 l1 l2 l3 l4 l5 l6 l7 N k 5 dg va te 1 te) ∧ Grw w w' := by
  by_cases ht : te < 0
  · rw [if_pos (.inl ht)]
    by_cases h6 : 6 < N
    · exact dotted_e l0 l1 l2 l3 l4 l5 l6 l7 N k st dg va te pa fo ht h6 w
    · by_cases hk : 0 ≤ k
      · by_cases hN : N = 6
        · subst hN; exact dotted_c l0 l1 l2 l3 l4 l5 l6 l7 6 k st dg va te pa fo ht rfl hk w
        · exact dotted_a l0 l1 l2 l3 l4 l5 l6 l7 N k st dg va te pa fo ht (by omega) hk w
      · by_cases hN : N = 6
        · subst hN; exact dotted_d l0 l1 l2 l3 l4 l5 l6 l7 6 k st dg va te pa fo ht rfl (by omega) w
        · exact dotted_b l0 l1 l2 l3 l4 l5 l6 l7 N k st dg va te pa fo ht (by omega) (by omega) w
  · by_cases h6 : 6 < N
    · rw [if_pos (by omega)]
      exact dotted_j l0 l1 l2 l3 l4 l5 l6 l7 N k st dg va te pa fo (by omega) h6 w
    · by_cases hk : 0 ≤ k
      · by_cases hN : N = 6
        · rw [if_pos (by omega)]
          subst hN; exact dotted_h l0 l1 l2 l3 l4 l5 l6 l7 6 k st dg va te pa fo (by omega) rfl hk (decide_eq_false (by omega)) w
        · rw [if_neg (by omega)]
          exact dotted_f l0 l1 l2 l3 l4 l5 l6 l7 N k st dg va te pa fo (by omega) (by omega) hk w
      · by_cases hN : N = 6
        · rw [if_neg (by omega)]
          subst hN; exact dotted_i l0 l1 l2 l3 l4 l5 l6 l7 6 k st dg va te pa fo (by omega) rfl (by omega) w
        · rw [if_pos (by omega)]
          exact dotted_g l0 l1 l2 l3 l4 l5 l6 l7 N k st dg va te pa fo (by omega) (by omega) (by omega) (decide_eq_false (by omega)) w
set_option maxHeartbeats 2000000 in
set_option maxRecDepth 100000 in
theorem first_c (l0 l1 l2 l3 l4 l5 l6 l7 N k st dg va te pa fo c : Int) (h0 : 0 ≤ c) (h1 : c < 256) (n0 : 0 ≤ N) (n1 : N ≤ 8) (x0 : -1 ≤ digV c 16) (x1 : digV c 16 ≤ 15) (hx : 0 ≤ digV c 16) (r : Int) (hr : (if 0 ≤ k then 7 - N else 8 - N) = r) (r0 : 1 ≤ r) (w : World) :
    Calls Tryz.prog 61 #[sv l0 l1 l2 l3 l4 l5 l6 l7 N k st dg va te pa fo, .int .u8 c] w fun e w' => e = .returned (sv l0 l1 l2 l3 l4 l5 l6 l7 N k 4 1 (digV c 16) (tenM 0 0 c) pa fo) ∧ Grw w w' := by
  go_enter Tryz.func61, Tryz.ntmps61
  go_wp2_with fail
  refine (refDigit_drew c h0 h1 _).mono ?_
  rintro e w1 ⟨rfl, m1, rfl⟩
  simp only [drewN_alloc, GA_drewN, GA_GA]
  obtain ⟨u1, hu, hz, hG1⟩ := drewN_grw w m1
  rw [← hu, ← hz]
  clear hu hz
  go_wp2_with fail
  refine (room_walk _ _ _ _ _ _ _ _ _ _ _ _ _ _ _ _ n0 n1 _).mono ?_
  rintro e w2 ⟨rfl, m2, g2, rfl⟩
  rw [hr]
  simp only [drewN_alloc, GA_drewN, GA_GA]
  obtain ⟨u2, hu, hz, hG2⟩ := drewN_grw u1 m2
  rw [← hu, ← hz]
  clear hu hz
  replace hG2 : Grw w u2 := hG1.trans hG2
  have hlt : u2.heap.size < u2.heap.size + 1 + 1 := by omega
  go_wp2_with fail
  refine (more_walk _ _ _ _ _ _ _ _ _ _ _ _ _ _ _ _ _ h0 h1 (by decide) (by decide) (by decide) (by decide) x0 x1 (by decide) (by decide) _).mono ?_
  rintro e w3 ⟨rfl, m3, g3, rfl⟩
  rw [show (0 : Int) + 1 = 1 from rfl, show 16 * (0 : Int) + digV c 16 = digV c 16 by omega]
  simp only [drewN_alloc, GA_drewN, GA_GA]
  obtain ⟨u3, hu, hz, hG3⟩ := drewN_grw u2 m3
  rw [← hu, ← hz]
  clear hu hz
  replace hG3 : Grw w u3 := hG2.trans hG3
  have hlt : u3.heap.size < u3.heap.size + 1 + 1 := by omega
  go_wp2_with fail
  try simp only [Exit.inBlock, Exit.then]
  refine bodyPost_ret (results_cell rfl rfl (by first | (refine scan_ld0 _ _ _ _ _ _ _ _ _ _ _ _ _ _ _ _ _ ?_; simp; done) | (refine scan_gld0 _ _ _ _ _ _ _ _ _ _ _ _ _ _ _ _ _ _ ?_; simp; done) | (refine scan_ld1 _ _ _ _ _ _ _ _ _ _ _ _ _ _ _ _ _ _ ?_; simp; done) | (refine scan_gld1 _ _ _ _ _ _ _ _ _ _ _ _ _ _ _ _ _ _ _ ?_; simp; done) | (refine scan_ld2 _ _ _ _ _ _ _ _ _ _ _ _ _ _ _ _ _ _ _ ?_; simp; done) | (refine scan_gld2 _ _ _ _ _ _ _ _ _ _ _ _ _ _ _ _ _ _ _ _ ?_; simp; done) | (refine scan_ld3 _ _ _ _ _ _ _ _ _ _ _ _ _ _ _ _ _ _ _ _ ?_; simp; done) | (refine scan_gld3 _ _ _ _ _ _ _ _ _ _ _ _ _ _ _ _ _ _ _ _ _ ?_; simp; done))) rfl ?_
  exact ⟨rfl, by repeat (first | exact hG3 | refine Grw.alloc ?_ _ | refine Grw.ga ?_ _)⟩
theorem first_walk (l0 l1 l2 l3 l4 l5 l6 l7 N k st dg va te pa fo c : Int) (h0 : 0 ≤ c) (h1 : c < 256) (n0 : 0 ≤ N) (n1 : N ≤ 8) (x0 : -1 ≤ digV c 16) (x1 : digV c 16 ≤ 15) (w : World) :
    Calls Tryz.prog 61 #[sv l0 l1 l2 l3 l4 l5 l6 l7 N k st dg va te pa fo, .int .u8 c] w fun e w' => e = .returned (if digV c 16 < 0 ∨ (if 0 ≤ k then 7 - N else 8 - N) < 1 then sv l0 l1 l2 l3 l4 l5 l6 l7 N k 7 0 0 0 pa fo else sv l0 l1 l2 l3 l4 l5 l6 l7 N k 4 1 (digV c 16) (tenM 0 0 c) pa fo) ∧ Grw w w' := by
  by_cases hx : digV c 16 < 0
  · rw [if_pos (.inl hx)]
    exact first_a l0 l1 l2 l3 l4 l5 l6 l7 N k st dg va te pa fo c h0 h1 n0 n1 x0 x1 hx w
  · by_cases hr : (if 0 ≤ k then 7 - N else 8 - N) < 1
    · rw [if_pos (.inr hr)]
      exact first_b l0 l1 l2 l3 l4 l5 l6 l7 N k st dg va te pa fo c h0 h1 n0 n1 x0 x1 (by omega) _ rfl hr w
    · rw [if_neg (by rintro (q | q); exact hx q; exact hr q)]
      exact first_c l0 l1 l2 l3 l4 l5 l6 l7 N k st dg va te pa fo c h0 h1 n0 n1 x0 x1 (by omega) _ rfl (by omega) w
end Go.Proofs.YtcgdjnmfeibnoaaGreatDoor
