/- Bits of addresses: masks, bytes the other way about; kinds; the document's Print. -/
import Derived.Test.YtgnahagnmodpdaaDoorFourP1
import Derived.Test.YtgnahagnmodpdaaDoorFourMask
import Derived.Test.YtgnahagnmodpdaaDoorFourPrint
import Derived.Laws.BitsAllLaws
import Derived.Test.YtgnahagnmodpdaaDoorX7
import Derived.Test.YtgnahagnmodpdaaDoorX8
import Derived.Test.YtgnahagnmodpdaaDoorX7
namespace Go.Proofs.YtgnahagnmodpdaaDoor
open Go.RowKit Go.Proofs.YtgnahagnmodpdaaDoorW.PrintWords Go.Proofs.YtgnahagnmodpdaaDoor.X Go.IntWalk
set_option linter.unusedVariables false
set_option linter.unusedSimpArgs false

theorem nat_and_hi (a t : Nat) (ha : a < 4294967296) (ht : t ≤ 32) : a &&& (4294967295 - (2 ^ t - 1)) = a - a % 2 ^ t := by
  have e : a - a % 2 ^ t = 2 ^ t * (a / 2 ^ t) := by have := Nat.div_add_mod a (2 ^ t); omega
  rw [e]
  apply Nat.eq_of_testBit_eq
  intro i
  have hp : 2 ^ t ≤ 4294967296 := by have := Nat.pow_le_pow_right (n := 2) (by omega) ht; simpa using this
  have hq : 0 < 2 ^ t := Nat.two_pow_pos t
  have e2 : 4294967295 - (2 ^ t - 1) = 2 ^ 32 - ((2 ^ t - 1) + 1) := by omega
  rw [Nat.testBit_and, e2, Nat.testBit_two_pow_sub_succ (by omega), Nat.testBit_two_pow_mul, Nat.testBit_div_two_pow, Nat.testBit_two_pow_sub_one]
  by_cases hi : t ≤ i
  · have h1 : ¬ i < t := by omega
    rw [show i - t + t = i from by omega]
    by_cases h16 : i < 32
    · simp [hi, h1, h16]
    · have hz : a.testBit i = false := Nat.testBit_lt_two_pow (Nat.lt_of_lt_of_le ha (by have := Nat.pow_le_pow_right (n := 2) (by omega) (show 32 ≤ i by omega); simpa using this))
      simp [hz]
  · have h1 : i < t := by omega
    have h2 : ¬ i ≥ t := by omega
    simp [h1, h2]
theorem shr_all {b : Int} (h0 : 0 ≤ b) (h1 : b ≤ 32) : shr .u32 4294967295 b = ((2 ^ (32 - b).toNat - 1 : Nat) : Int) := by
  have h : ∀ k : Fin 33, shr .u32 4294967295 (k.val : Int) = ((2 ^ (32 - (k.val : Int)).toNat - 1 : Nat) : Int) := by decide +kernel
  have := h ⟨b.toNat, by omega⟩
  simp only [Int.toNat_of_nonneg h0] at this
  exact this
theorem mask_f (n b : Int) (hn0 : 0 ≤ n) (hn1 : n ≤ 4294967295) (h0 : 0 ≤ b) (h1 : b ≤ 32) : four_mask.f n b = some (n / sizeV b * sizeV b) := by
  unfold four_mask.f
  rw [if_pos h0, shr_all h0 h1]
  obtain ⟨a, rfl⟩ := Int.eq_ofNat_of_zero_le hn0
  have ht : (32 - b).toNat ≤ 32 := by omega
  have es : sizeV b = ((2 ^ (32 - b).toNat : Nat) : Int) := by unfold sizeV; simp
  have hp : 2 ^ (32 - b).toNat ≤ 4294967296 := by have := Nat.pow_le_pow_right (n := 2) (by omega) ht; simpa using this
  rw [es]
  generalize (32 - b).toNat = t at *
  have hq : 0 < 2 ^ t := Nat.two_pow_pos t
  rw [u32_andNot _ _ (by omega) (by omega) (by omega) (by omega), Int.toNat_natCast, Int.toNat_natCast, nat_and_hi a t (by omega) ht]
  have hd := Nat.div_add_mod a (2 ^ t)
  rw [Nat.mul_comm] at hd
  rw [← Int.natCast_ediv, ← Int.natCast_mul, show a - a % 2 ^ t = a / 2 ^ t * 2 ^ t by omega]
/-- Is the prefix one? -/
def isV (n b : Int) : Bool := decide (0 ≤ b) && (decide (b ≤ 32) && (n / sizeV b * sizeV b == n))
theorem is_f (n b : Int) (hn0 : 0 ≤ n) (hn1 : n ≤ 4294967295) : four_is.f n b = some (isV n b) := by
  unfold four_is.f isV
  by_cases h0 : b ≥ 0
  · rw [if_pos h0, decide_eq_true (show 0 ≤ b from h0), Bool.true_and]
    by_cases h1 : b ≤ 32
    · rw [if_pos h1, decide_eq_true h1, Bool.true_and, mask_f n b hn0 hn1 h0 h1]
      rfl
    · rw [if_neg h1, decide_eq_false h1, Bool.false_and]
  · rw [if_neg h0, decide_eq_false (show ¬ 0 ≤ b from h0), Bool.false_and]
/-- Does the prefix hold the address? -/
def withinV (f b n : Int) : Bool := isV f b && (n / sizeV b * sizeV b == f)
theorem within_f (f b n : Int) (hf0 : 0 ≤ f) (hf1 : f ≤ 4294967295) (hn0 : 0 ≤ n) (hn1 : n ≤ 4294967295) : four_Within.f f b n = some (withinV f b n) := by
  unfold four_Within.f withinV
  rw [is_f f b hf0 hf1]
  simp only [Option.bind_some]
  by_cases h : isV f b = true
  · rw [if_pos h, h, Bool.true_and]
    unfold isV at h
    simp only [Bool.and_eq_true, decide_eq_true_eq] at h
    rw [mask_f n b hn0 hn1 h.1 h.2.1]
    rfl
  · rw [if_neg h, Bool.eq_false_iff.2 h, Bool.false_and]

/-! ### bytes the other way about -/
theorem nat_and_join (x y u v : Nat) (hy : y < 65536) (hv : v < 65536) : (x * 65536 + y) &&& (u * 65536 + v) = (x &&& u) * 65536 + (y &&& v) := by
  have hyv : y &&& v < 2 ^ 16 := Nat.and_lt_two_pow _ (by omega)
  apply Nat.eq_of_testBit_eq
  intro i
  rw [show x * 65536 + y = 2 ^ 16 * x + y by omega, show u * 65536 + v = 2 ^ 16 * u + v by omega, show (x &&& u) * 65536 + (y &&& v) = 2 ^ 16 * (x &&& u) + (y &&& v) by omega]
  rw [Nat.testBit_and, Nat.testBit_two_pow_mul_add _ (by omega), Nat.testBit_two_pow_mul_add _ (by omega), Nat.testBit_two_pow_mul_add _ hyv]
  split <;> rw [Nat.testBit_and]
theorem nat_or_join (x y u v : Nat) (hy : y < 65536) (hv : v < 65536) : (x * 65536 + y) ||| (u * 65536 + v) = (x ||| u) * 65536 + (y ||| v) := by
  have hyv : y ||| v < 2 ^ 16 := Nat.or_lt_two_pow (by omega) (by omega)
  apply Nat.eq_of_testBit_eq
  intro i
  rw [show x * 65536 + y = 2 ^ 16 * x + y by omega, show u * 65536 + v = 2 ^ 16 * u + v by omega, show (x ||| u) * 65536 + (y ||| v) = 2 ^ 16 * (x ||| u) + (y ||| v) by omega]
  rw [Nat.testBit_or, Nat.testBit_two_pow_mul_add _ (by omega), Nat.testBit_two_pow_mul_add _ (by omega), Nat.testBit_two_pow_mul_add _ hyv]
  split <;> rw [Nat.testBit_or]
theorem nat_and_255 (x : Nat) : x &&& 255 = x % 256 := Nat.and_two_pow_sub_one_eq_mod x 8
theorem nat_or8 (x y : Nat) (hy : y < 256) : x * 256 ||| y = x * 256 + y := by
  rw [show x * 256 = 2 ^ 8 * x by omega, ← Nat.two_pow_add_eq_or_of_lt (show y < 2 ^ 8 by omega)]
theorem nat_or16 (x y : Nat) (hy : y < 65536) : x * 65536 ||| y = x * 65536 + y := by
  rw [show x * 65536 = 2 ^ 16 * x by omega, ← Nat.two_pow_add_eq_or_of_lt (show y < 2 ^ 16 by omega)]
theorem nat_or24 (x y : Nat) (hy : y < 16777216) : x * 16777216 ||| y = x * 16777216 + y := by
  rw [show x * 16777216 = 2 ^ 24 * x by omega, ← Nat.two_pow_add_eq_or_of_lt (show y < 2 ^ 24 by omega)]
/-- An address, its bytes the other way about. -/
def revV (n : Int) : Int := n % 256 * 16777216 + n / 256 % 256 * 65536 + n / 65536 % 256 * 256 + n / 16777216
theorem and_even (N : Nat) (hN : N < 4294967296) : bits .and .u32 (N : Int) 16711935 = ((N / 65536 % 256 * 65536 + N % 256 : Nat) : Int) := by
  rw [show (16711935 : Int) = ((16711935 : Nat) : Int) from rfl, u32_and_nat N _ hN (by decide)]
  congr 1
  have e := nat_and_join (N / 65536) (N % 65536) 255 255 (by omega) (by decide)
  rw [show N / 65536 * 65536 + N % 65536 = N by omega, show 255 * 65536 + 255 = 16711935 from rfl, nat_and_255, nat_and_255] at e
  rw [e]
  omega
theorem four_bytes (n : Int) (h0 : 0 ≤ n) (h1 : n ≤ 4294967295) : ∃ a b c d : Nat, a < 256 ∧ b < 256 ∧ c < 256 ∧ d < 256 ∧ n = ((a * 16777216 + b * 65536 + c * 256 + d : Nat) : Int) ∧ revV n = ((d * 16777216 + c * 65536 + b * 256 + a : Nat) : Int) := by
  refine ⟨(n / 16777216).toNat, (n / 65536 % 256).toNat, (n / 256 % 256).toNat, (n % 256).toNat, by omega, by omega, by omega, by omega, by omega, ?_⟩
  unfold revV
  omega
set_option maxRecDepth 20000
theorem rev_bits (n : Int) (h0 : 0 ≤ n) (h1 : n ≤ 4294967295) : bits_ReverseBytes32.f n = some (revV n) := by
  obtain ⟨a, b, c, d, ha, hb, hc, hd, e, er⟩ := four_bytes n h0 h1
  rw [er]
  subst e
  clear er h0 h1
  refine congrArg some ?_
  have q1 : ((a * 16777216 + b * 65536 + c * 256 + d : Nat) : Int) / 256 = ((a * 65536 + b * 256 + c : Nat) : Int) := by omega
  have q2 : bits .and .u32 ((a * 65536 + b * 256 + c : Nat) : Int) 16711935 = ((a * 65536 + c : Nat) : Int) := by
    rw [and_even _ (by omega)]
    omega
  have q3 : bits .and .u32 ((a * 16777216 + b * 65536 + c * 256 + d : Nat) : Int) 16711935 = ((b * 65536 + d : Nat) : Int) := by
    rw [and_even _ (by omega)]
    omega
  have q4 : ((b * 65536 + d : Nat) : Int) * 256 % 4294967296 = ((b * 256 * 65536 + d * 256 : Nat) : Int) := by omega
  have q5 : bits .or .u32 ((a * 65536 + c : Nat) : Int) ((b * 256 * 65536 + d * 256 : Nat) : Int) = (((b * 256 + a) * 65536 + (d * 256 + c) : Nat) : Int) := by
    rw [u32_or_nat _ _ (by omega) (by omega), nat_or_join a c (b * 256) (d * 256) (by omega) (by omega), Nat.or_comm a, nat_or8 _ _ ha, Nat.or_comm c, nat_or8 _ _ hc]
  rw [q1, q2, q3, q4, q5]
  have q6 : ∀ X Y : Nat, X < 65536 → Y < 65536 → ((X * 65536 + Y : Nat) : Int) / 65536 = (X : Int) ∧ ((X * 65536 + Y : Nat) : Int) * 65536 % 4294967296 = ((Y * 65536 : Nat) : Int) := by
    intro X Y hX hY
    omega
  have q7 := q6 (b * 256 + a) (d * 256 + c) (by omega) (by omega)
  rw [q7.1, q7.2, u32_or_nat _ _ (by omega) (by omega), Nat.or_comm, nat_or16 _ _ (by omega)]
  omega
theorem ref_rev_bits (n : Int) (h0 : 0 ≤ n) (h1 : n ≤ 4294967295) : (Go.bits .or .u32 (Go.bits .or .u32 (Go.bits .or .u32 (n / 16777216) (Go.bits .and .u32 (n / 256) 65280)) (Go.bits .and .u32 ((n * 256) % 4294967296) 16711680)) ((n * 16777216) % 4294967296)) = revV n := by
  obtain ⟨a, b, c, d, ha, hb, hc, hd, e, er⟩ := four_bytes n h0 h1
  rw [er]
  subst e
  clear er h0 h1
  have q0 : ((a * 16777216 + b * 65536 + c * 256 + d : Nat) : Int) / 16777216 = (a : Int) := by omega
  have q1 : ((a * 16777216 + b * 65536 + c * 256 + d : Nat) : Int) / 256 = ((a * 65536 + (b * 256 + c) : Nat) : Int) := by omega
  have q2 : ((a * 16777216 + b * 65536 + c * 256 + d : Nat) : Int) * 256 % 4294967296 = (((b * 256 + c) * 65536 + d * 256 : Nat) : Int) := by omega
  have q3 : ((a * 16777216 + b * 65536 + c * 256 + d : Nat) : Int) * 16777216 % 4294967296 = ((d * 16777216 : Nat) : Int) := by omega
  have m1 : (b * 256 + c) &&& 65280 = b * 256 := by
    have h := nat_and_hi (b * 256 + c) 8 (by omega) (by decide)
    have h3 : (b * 256 + c) &&& 65280 = ((b * 256 + c) &&& 65535) &&& 65280 := by
      rw [show (65535 : Nat) = 2 ^ 16 - 1 from rfl, Nat.and_two_pow_sub_one_eq_mod, Nat.mod_eq_of_lt (show b * 256 + c < 2 ^ 16 by omega)]
    have h4 : (b * 256 + c) &&& 65535 = b * 256 + c := by
      rw [show (65535 : Nat) = 2 ^ 16 - 1 from rfl, Nat.and_two_pow_sub_one_eq_mod, Nat.mod_eq_of_lt (show b * 256 + c < 2 ^ 16 by omega)]
    rw [← h4, Nat.and_assoc, show 65535 &&& 65280 = 65535 &&& (4294967295 - (2 ^ 8 - 1)) by decide, ← Nat.and_assoc, h4, h]
    omega
  have m2 : (b * 256 + c) &&& 255 = c := by rw [nat_and_255]; omega
  have a1 : bits .and .u32 ((a * 65536 + (b * 256 + c) : Nat) : Int) 65280 = ((b * 256 : Nat) : Int) := by
    rw [show (65280 : Int) = ((65280 : Nat) : Int) from rfl, u32_and_nat _ _ (by omega) (by decide)]
    have e := nat_and_join a (b * 256 + c) 0 65280 (by omega) (by decide)
    rw [show 0 * 65536 + 65280 = 65280 from rfl, Nat.and_zero, m1] at e
    rw [e]
    omega
  have a2 : bits .and .u32 (((b * 256 + c) * 65536 + d * 256 : Nat) : Int) 16711680 = ((c * 65536 : Nat) : Int) := by
    rw [show (16711680 : Int) = ((16711680 : Nat) : Int) from rfl, u32_and_nat _ _ (by omega) (by decide)]
    have e := nat_and_join (b * 256 + c) (d * 256) 255 0 (by omega) (by decide)
    rw [show 255 * 65536 + 0 = 16711680 from rfl, Nat.and_zero, m2] at e
    rw [e]
    omega
  rw [q0, q1, q2, q3, a1, a2]
  rw [u32_or_nat _ _ (by omega) (by omega), Nat.or_comm, nat_or8 _ _ (by omega), u32_or_nat _ _ (by omega) (by omega), Nat.or_comm, nat_or16 _ _ (by omega), u32_or_nat _ _ (by omega) (by omega), Nat.or_comm, nat_or24 _ _ (by omega)]
  omega
theorem rev_range (n : Int) (h0 : 0 ≤ n) (h1 : n ≤ 4294967295) : 0 ≤ revV n ∧ revV n ≤ 4294967295 := by
  unfold revV
  omega
end Go.Proofs.YtgnahagnmodpdaaDoor
