/- Laws on the bits of numbers of 16 bits, and on the last bits of numbers of 128 bits. -/
import Derived.Test.YtcgdjnmfeibnoaaDoorSixV
import Derived.Laws.BitsAllLaws
namespace Go.Proofs.YtcgdjnmfeibnoaaDoor
open Go.RowKit
set_option linter.unusedVariables false
set_option linter.unusedSimpArgs false

theorem nat_and_compl_tail (a t : Nat) (ha : a < 65536) (ht : t ≤ 16) : a &&& (65535 - (2 ^ t - 1)) = a - a % 2 ^ t := by
  have e : a - a % 2 ^ t = 2 ^ t * (a / 2 ^ t) := by have := Nat.div_add_mod a (2 ^ t); omega
  rw [e]
  apply Nat.eq_of_testBit_eq
  intro i
  have hp : 2 ^ t ≤ 65536 := by have := Nat.pow_le_pow_right (n := 2) (by omega) ht; simpa using this
  have hq : 0 < 2 ^ t := Nat.two_pow_pos t
  have e2 : 65535 - (2 ^ t - 1) = 2 ^ 16 - ((2 ^ t - 1) + 1) := by omega
  rw [Nat.testBit_and, e2, Nat.testBit_two_pow_sub_succ (by omega), Nat.testBit_two_pow_mul, Nat.testBit_div_two_pow, Nat.testBit_two_pow_sub_one]
  by_cases hi : t ≤ i
  · have h1 : ¬ i < t := by omega
    rw [show i - t + t = i from by omega]
    by_cases h16 : i < 16
    · simp [hi, h1, h16]
    · have hz : a.testBit i = false := Nat.testBit_lt_two_pow (Nat.lt_of_lt_of_le ha (by have := Nat.pow_le_pow_right (n := 2) (by omega) (show 16 ≤ i by omega); simpa using this))
      simp [hz]
  · have h1 : i < t := by omega
    have h2 : ¬ i ≥ t := by omega
    simp [h1, h2]

theorem nat_and_compl_bit (a t : Nat) (ha : a < 65536) (ht : t < 16) : a &&& (65535 - 2 ^ t) = a - a / 2 ^ t % 2 * 2 ^ t := by
  have hq : 0 < 2 ^ t := Nat.two_pow_pos t
  have e : a - a / 2 ^ t % 2 * 2 ^ t = 2 ^ t * (2 * (a / 2 ^ t / 2)) + a % 2 ^ t := by
    have h1 := Nat.div_add_mod a (2 ^ t)
    have h2 := Nat.div_add_mod (a / 2 ^ t) 2
    have h3 : 2 ^ t * (a / 2 ^ t) = 2 ^ t * (2 * (a / 2 ^ t / 2)) + a / 2 ^ t % 2 * 2 ^ t := by
      rw [← Nat.mul_comm (2 ^ t) (a / 2 ^ t % 2), ← Nat.mul_add, h2]
    omega
  rw [e]
  apply Nat.eq_of_testBit_eq
  intro i
  have hp : 2 ^ t ≤ 32768 := by have := Nat.pow_le_pow_right (n := 2) (by omega) (show t ≤ 15 by omega); simpa using this
  have e2 : 65535 - 2 ^ t = 2 ^ 16 - (2 ^ t + 1) := by omega
  rw [Nat.testBit_and, e2, Nat.testBit_two_pow_sub_succ (by omega), Nat.testBit_two_pow_mul_add _ (Nat.mod_lt _ hq), Nat.testBit_two_pow]
  by_cases hi : i < t
  · have h1 : ¬ t = i := by omega
    have h16 : i < 16 := by omega
    rw [if_pos hi, Nat.testBit_mod_two_pow]
    simp [h1, hi, h16]
  · rw [if_neg hi]
    by_cases hit : t = i
    · subst hit
      simp [Nat.testBit_zero]
    · have h1 : t < i := by omega
      obtain ⟨j, hj⟩ : ∃ j, i - t = j + 1 := ⟨i - t - 1, by omega⟩
      rw [hj, show 2 * (a / 2 ^ t / 2) = 2 ^ 1 * (a / 2 ^ t / 2) from rfl, Nat.testBit_two_pow_mul, show a / 2 ^ t / 2 = a / 2 ^ t / 2 ^ 1 from rfl, Nat.testBit_div_two_pow, Nat.testBit_div_two_pow, show j + 1 - 1 + 1 + t = i from by omega]
      by_cases h16 : i < 16
      · simp [hit, h16]
      · have hz : a.testBit i = false := Nat.testBit_lt_two_pow (Nat.lt_of_lt_of_le ha (by have := Nat.pow_le_pow_right (n := 2) (by omega) (show 16 ≤ i by omega); simpa using this))
        simp [hz]

theorem pow_le16 {t : Nat} (ht : t ≤ 16) : (2 : Int) ^ t ≤ 65536 := by
  have := Nat.pow_le_pow_right (n := 2) (by omega) ht
  have h : ((2 ^ t : Nat) : Int) ≤ ((2 ^ 16 : Nat) : Int) := by exact_mod_cast this
  simpa using h
theorem pow_pos2 (t : Nat) : (0 : Int) < 2 ^ t := by
  have := Nat.two_pow_pos t
  have h : ((0 : Nat) : Int) < ((2 ^ t : Nat) : Int) := by exact_mod_cast this
  simpa using h

theorem andNot_tail (x : Int) (t : Nat) (h0 : 0 ≤ x) (h1 : x ≤ 65535) (ht : t ≤ 16) :
    bits .andNot .u16 x (IntKind.u16.wrap (IntKind.u16.wrap ((2 : Int) ^ t) - 1)) = x - x % 2 ^ t := by
  have hp := pow_pos2 t
  have hl := pow_le16 ht
  have e : IntKind.u16.wrap (IntKind.u16.wrap ((2 : Int) ^ t) - 1) = 2 ^ t - 1 := by
    simp only [IntKind.wrap_u16]
    by_cases h16 : (2 : Int) ^ t = 65536
    · rw [h16]; decide
    · omega
  rw [e, u16_andNot x _ h0 (by omega) (by omega) (by omega)]
  obtain ⟨a, rfl⟩ := Int.eq_ofNat_of_zero_le h0
  have e2 : ((2 : Int) ^ t - 1).toNat = 2 ^ t - 1 := by
    have : (2 : Int) ^ t = ((2 ^ t : Nat) : Int) := by simp
    rw [this]; omega
  rw [e2, Int.toNat_natCast, nat_and_compl_tail a t (by omega) ht]
  have h3 : (a : Int) % 2 ^ t = ((a % 2 ^ t : Nat) : Int) := by simp
  rw [h3]
  have := Nat.mod_le a (2 ^ t)
  omega
theorem andNot_none (x : Int) (h0 : 0 ≤ x) (h1 : x ≤ 65535) : bits .andNot .u16 x 0 = x := by
  have h := andNot_tail x 0 h0 h1 (by omega)
  rw [show IntKind.u16.wrap (IntKind.u16.wrap ((2 : Int) ^ 0) - 1) = 0 from by decide] at h
  simpa using h
theorem andNot_whole (x : Int) (h0 : 0 ≤ x) (h1 : x ≤ 65535) : bits .andNot .u16 x (IntKind.u16.wrap (IntKind.u16.wrap 65536 - 1)) = 0 := by
  have := andNot_tail x 16 h0 h1 (by omega)
  rw [show ((2 : Int) ^ 16) = 65536 from by decide] at this
  rw [this]; omega
theorem andNot_bit (x : Int) (t : Nat) (h0 : 0 ≤ x) (h1 : x ≤ 65535) (ht : t < 16) : bits .andNot .u16 x ((2 : Int) ^ t) = x - x / 2 ^ t % 2 * 2 ^ t := by
  have hp := pow_pos2 t
  have hl : (2 : Int) ^ t ≤ 32768 := by
    have := Nat.pow_le_pow_right (n := 2) (by omega) (show t ≤ 15 by omega)
    have h : ((2 ^ t : Nat) : Int) ≤ ((2 ^ 15 : Nat) : Int) := by exact_mod_cast this
    simpa using h
  rw [u16_andNot x _ h0 (by omega) (by omega) (by omega)]
  obtain ⟨a, rfl⟩ := Int.eq_ofNat_of_zero_le h0
  have e2 : ((2 : Int) ^ t).toNat = 2 ^ t := by
    have : (2 : Int) ^ t = ((2 ^ t : Nat) : Int) := by simp
    rw [this]; omega
  rw [e2, Int.toNat_natCast, nat_and_compl_bit a t (by omega) ht]
  have h3 : (a : Int) / 2 ^ t % 2 * 2 ^ t = ((a / 2 ^ t % 2 * 2 ^ t : Nat) : Int) := by simp
  rw [h3]
  have h4 : a / 2 ^ t % 2 * 2 ^ t ≤ a := by
    have h5 := Nat.div_mul_le_self a (2 ^ t)
    exact Nat.le_trans (Nat.mul_le_mul_right _ (Nat.mod_le _ _)) h5
  omega

theorem emod_le16 (x : Int) {t : Nat} (ht : t ≤ 16) (h0 : 0 ≤ x) : x % 2 ^ t ≤ x := by
  have hp := pow_pos2 t
  have h1 := Int.mul_ediv_add_emod x (2 ^ t)
  have h2 := Int.mul_nonneg (Int.le_of_lt hp) (Int.ediv_nonneg h0 (Int.le_of_lt hp))
  omega
/-- The last bits of a number of three parts. -/
theorem mod_mid (A x lo B p c : Int) (hx : 0 ≤ x) (hB : 0 < B) (h0 : 0 ≤ lo) (h1 : lo < B) (hp : 0 < p) (hc : p * c = 65536) :
    ((A * 65536 + x) * B + lo) % (p * B) = (x % p) * B + lo := by
  have e1 : x = p * (x / p) + x % p := (Int.mul_ediv_add_emod x p).symm
  have h2 := Int.emod_nonneg x (show p ≠ 0 by omega)
  have h3 := Int.emod_lt_of_pos x hp
  have e : (A * 65536 + x) * B + lo = ((x % p) * B + lo) + (p * B) * (A * c + x / p) := by
    rw [← hc]
    calc (A * (p * c) + x) * B + lo = (A * (p * c) + (p * (x / p) + x % p)) * B + lo := by rw [← e1]
      _ = ((x % p) * B + lo) + (p * B) * (A * c + x / p) := by
        simp only [Int.add_mul, Int.mul_add]
        have : A * (p * c) * B = p * B * (A * c) := by ac_rfl
        have : p * (x / p) * B = p * B * (x / p) := by ac_rfl
        omega
  rw [e, Int.add_mul_emod_self_left]
  apply Int.emod_eq_of_lt
  · have := Int.mul_nonneg h2 (Int.le_of_lt hB); omega
  · have h4 : x % p + 1 ≤ p := by omega
    have h5 := Int.mul_le_mul_of_nonneg_right h4 (Int.le_of_lt hB)
    rw [Int.add_mul] at h5
    omega
end Go.Proofs.YtcgdjnmfeibnoaaDoor
