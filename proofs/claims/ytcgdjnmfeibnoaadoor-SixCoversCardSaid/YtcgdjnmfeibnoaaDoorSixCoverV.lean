/- The fewest prefixes from one number to another: a list; it is short. -/
import Derived.Test.YtcgdjnmfeibnoaaDoorSixRefMask
namespace Go.Proofs.YtcgdjnmfeibnoaaDoor
open Go.RowKit
set_option linter.unusedVariables false
set_option linter.unusedSimpArgs false

/-- The pieces of a number. -/
def pc (i : Nat) (v : Int) : Int := v / 65536 ^ (7 - i) % 65536
theorem pc_range (i : Nat) (v : Int) : 0 ≤ pc i v ∧ pc i v ≤ 65535 := by unfold pc; omega
/-- A number of 128 bits. -/
def Wide (v : Int) : Prop := 0 ≤ v ∧ v < 340282366920938463463374607431768211456
theorem v8_wide {x0 x1 x2 x3 x4 x5 x6 x7 : Int} (h : R8 x0 x1 x2 x3 x4 x5 x6 x7) : Wide (V8 x0 x1 x2 x3 x4 x5 x6 x7) := by
  obtain ⟨⟨_, _⟩, ⟨_, _⟩, ⟨_, _⟩, ⟨_, _⟩, ⟨_, _⟩, ⟨_, _⟩, ⟨_, _⟩, ⟨_, _⟩⟩ := h
  unfold Wide V8
  omega
theorem pc_of {x0 x1 x2 x3 x4 x5 x6 x7 : Int} (h : R8 x0 x1 x2 x3 x4 x5 x6 x7) {v : Int} (hv : V8 x0 x1 x2 x3 x4 x5 x6 x7 = v) :
    x0 = pc 0 v ∧ x1 = pc 1 v ∧ x2 = pc 2 v ∧ x3 = pc 3 v ∧ x4 = pc 4 v ∧ x5 = pc 5 v ∧ x6 = pc 6 v ∧ x7 = pc 7 v := by
  obtain ⟨⟨_, _⟩, ⟨_, _⟩, ⟨_, _⟩, ⟨_, _⟩, ⟨_, _⟩, ⟨_, _⟩, ⟨_, _⟩, ⟨_, _⟩⟩ := h
  subst hv
  unfold V8 pc
  simp only [show (65536 : Int) ^ (7 - 0) = 5192296858534827628530496329220096 from by decide, show (65536 : Int) ^ (7 - 1) = 79228162514264337593543950336 from by decide, show (65536 : Int) ^ (7 - 2) = 1208925819614629174706176 from by decide,
    show (65536 : Int) ^ (7 - 3) = 18446744073709551616 from by decide, show (65536 : Int) ^ (7 - 4) = 281474976710656 from by decide, show (65536 : Int) ^ (7 - 5) = 4294967296 from by decide, show (65536 : Int) ^ (7 - 6) = 65536 from by decide, show (65536 : Int) ^ (7 - 7) = 1 from by decide]
  refine ⟨?_, ?_, ?_, ?_, ?_, ?_, ?_, ?_⟩ <;> omega
theorem pc_r8 (v : Int) : R8 (pc 0 v) (pc 1 v) (pc 2 v) (pc 3 v) (pc 4 v) (pc 5 v) (pc 6 v) (pc 7 v) :=
  ⟨pc_range _ _, pc_range _ _, pc_range _ _, pc_range _ _, pc_range _ _, pc_range _ _, pc_range _ _, pc_range _ _⟩
theorem pc_v8 {v : Int} (h : Wide v) : V8 (pc 0 v) (pc 1 v) (pc 2 v) (pc 3 v) (pc 4 v) (pc 5 v) (pc 6 v) (pc 7 v) = v := by
  obtain ⟨h0, h1⟩ := h
  unfold V8 pc
  simp only [show (65536 : Int) ^ (7 - 0) = 5192296858534827628530496329220096 from by decide, show (65536 : Int) ^ (7 - 1) = 79228162514264337593543950336 from by decide, show (65536 : Int) ^ (7 - 2) = 1208925819614629174706176 from by decide,
    show (65536 : Int) ^ (7 - 3) = 18446744073709551616 from by decide, show (65536 : Int) ^ (7 - 4) = 281474976710656 from by decide, show (65536 : Int) ^ (7 - 5) = 4294967296 from by decide, show (65536 : Int) ^ (7 - 6) = 65536 from by decide, show (65536 : Int) ^ (7 - 7) = 1 from by decide]
  omega

/-- A prefix of so many bits begins at f and does not go beyond t. -/
def OkKeep (f t : Int) (k : Nat) : Prop := f % 2 ^ (128 - k) = 0 ∧ f + 2 ^ (128 - k) - 1 ≤ t
instance (f t : Int) (k : Nat) : Decidable (OkKeep f t k) := inferInstanceAs (Decidable (_ ∧ _))
/-- The widest such prefix. -/
structure Keep (f t : Int) (k : Nat) : Prop where
  le : k ≤ 128
  ok : OkKeep f t k
  least : ∀ j, j < k → ¬ OkKeep f t j
theorem ok_last {f t : Int} (h : f ≤ t) : OkKeep f t 128 := by
  unfold OkKeep
  rw [show (2 : Int) ^ (128 - 128) = 1 from by decide]
  omega
theorem Keep.one {f t : Int} {j k : Nat} (h : Keep f t j) (g : Keep f t k) : j = k := by
  rcases Nat.lt_trichotomy j k with c | c | c
  · exact absurd h.ok (g.least j c)
  · exact c
  · exact absurd g.ok (h.least k c)
def keepFrom (f t : Int) : Nat → Nat → Nat
  | 0, k => k
  | n + 1, k => if OkKeep f t k then k else keepFrom f t n (k + 1)
theorem keepFrom_keep {f t : Int} (h : f ≤ t) : ∀ n k, n + k = 128 → (∀ j, j < k → ¬ OkKeep f t j) → Keep f t (keepFrom f t n k)
  | 0, k, e, hl => by
    obtain rfl : k = 128 := by omega
    exact ⟨Nat.le_refl _, ok_last h, hl⟩
  | n + 1, k, e, hl => by
    unfold keepFrom
    split
    · rename_i hk
      exact ⟨by omega, hk, hl⟩
    · rename_i hk
      refine keepFrom_keep h n (k + 1) (by omega) fun j hj => ?_
      by_cases hjk : j = k
      · subst hjk; exact hk
      · exact hl j (by omega)
def keepOf (f t : Int) : Nat := keepFrom f t 128 0
theorem keepOf_keep {f t : Int} (h : f ≤ t) : Keep f t (keepOf f t) := keepFrom_keep h 128 0 rfl fun j hj => absurd hj (Nat.not_lt_zero j)

/-- The fewest prefixes from f to t. -/
def coverL (f t : Int) : List (Int × Nat) := (f, keepOf f t) :: (if f + 2 ^ (128 - keepOf f t) ≤ t then coverL (f + 2 ^ (128 - keepOf f t)) t else [])
  termination_by (t + 1 - f).toNat
  decreasing_by have := pow_pos2 (128 - keepOf f t); omega
theorem coverL_more {f t : Int} {k : Nat} (hf : f ≤ t) (hk : Keep f t k) (h : f + 2 ^ (128 - k) ≤ t) : coverL f t = (f, k) :: coverL (f + 2 ^ (128 - k)) t := by
  obtain rfl := (keepOf_keep hf).one hk
  rw [coverL, if_pos h]
theorem coverL_last {f t : Int} {k : Nat} (hf : f ≤ t) (hk : Keep f t k) (h : ¬ f + 2 ^ (128 - k) ≤ t) : coverL f t = [(f, k)] := by
  obtain rfl := (keepOf_keep hf).one hk
  rw [coverL, if_neg h]

theorem pow_le_pow {a b : Nat} (h : a ≤ b) : (2 : Int) ^ a ≤ 2 ^ b := by
  have := Nat.pow_le_pow_right (n := 2) (by omega) h
  have h : ((2 ^ a : Nat) : Int) ≤ ((2 ^ b : Nat) : Int) := by exact_mod_cast this
  simpa using h
theorem pow_lt_pow {a b : Nat} (h : (2 : Int) ^ a < 2 ^ b) : a < b := by
  rcases Nat.lt_or_ge a b with c | c
  · exact c
  · have := pow_le_pow c; omega
theorem mod_less {f : Int} {a b : Nat} (h : a ≤ b) (hz : f % 2 ^ b = 0) : f % 2 ^ a = 0 := by
  obtain ⟨d, rfl⟩ : ∃ d, b = a + d := ⟨b - a, by omega⟩
  rw [pow_add2] at hz
  have e := Int.mul_ediv_add_emod f (2 ^ a * 2 ^ d)
  rw [hz, Int.add_zero, Int.mul_assoc] at e
  rw [← e]
  exact Int.mul_emod_right _ _
/-- How many prefixes there may be ahead of f: an invariant. -/
def Phase (k : Nat) (f t : Int) : Prop := (k ≤ 128 ∧ f % 2 ^ k = 0) ∨ ∃ m : Nat, m ≤ 128 ∧ t + 1 - f < 2 ^ m ∧ f % 2 ^ m = 0 ∧ k + m ≤ 257
theorem Phase.le {k : Nat} {f t : Int} (h : Phase k f t) : k ≤ 257 := by
  rcases h with h | ⟨m, _, _, _, h⟩ <;> omega
theorem add_mod {f : Int} {s : Nat} (h : f % 2 ^ s = 0) : (f + 2 ^ s) % 2 ^ s = 0 := by simp [h]
theorem Phase.step {k q : Nat} {f t : Int} (h0 : 0 ≤ f) (ht : t < 340282366920938463463374607431768211456) (h : Phase k f t) (hq : Keep f t q) (hm : f + 2 ^ (128 - q) ≤ t) : Phase (k + 1) (f + 2 ^ (128 - q)) t := by
  obtain ⟨hqle, ⟨ho1, ho2⟩, hl⟩ := hq
  obtain ⟨s, hs⟩ : ∃ s, s = 128 - q := ⟨_, rfl⟩
  rw [← hs] at ho1 ho2 hm ⊢
  have hs1 : s ≤ 128 := by omega
  -- one bit more does not serve
  have hmax : s < 128 → f % 2 ^ (s + 1) = 0 → t + 1 - f < 2 ^ (s + 1) := by
    intro hs2 hz
    have := hl (q - 1) (by omega)
    unfold OkKeep at this
    rw [show 128 - (q - 1) = s + 1 from by omega] at this
    rcases Int.lt_or_le (t + 1 - f) (2 ^ (s + 1)) with c | c
    · exact c
    · exact absurd ⟨hz, by omega⟩ this
  have e2 : (2 : Int) ^ (s + 1) = 2 * 2 ^ s := by rw [Int.pow_succ]; omega
  have hp := pow_pos2 s
  have hs128 : s < 128 := by
    rcases Nat.lt_or_ge s 128 with c | c
    · exact c
    · obtain rfl : s = 128 := by omega
      rw [show (2 : Int) ^ 128 = 340282366920938463463374607431768211456 from by decide] at hm
      omega
  have two : t + 1 - f < 2 ^ (s + 1) → k + 1 + s ≤ 257 → Phase (k + 1) (f + 2 ^ s) t := fun c d => Or.inr ⟨s, hs1, by omega, add_mod ho1, d⟩
  rcases h with ⟨a1, a2⟩ | ⟨m, b1, b2, b3, b4⟩
  · by_cases hz : f % 2 ^ (s + 1) = 0
    · exact two (hmax hs128 hz) (by omega)
    · have hks : k ≤ s := by
        rcases Nat.lt_or_ge s k with c | c
        · exact absurd (mod_less (show s + 1 ≤ k by omega) a2) hz
        · exact c
      refine Or.inl ⟨by omega, mod_less (show k + 1 ≤ s + 1 by omega) ?_⟩
      have g1 := Int.mul_ediv_add_emod f (2 ^ s)
      rw [ho1, Int.add_zero] at g1
      generalize f / 2 ^ s = d at g1
      have g2 : d % 2 = 1 := by
        rcases (show d % 2 = 0 ∨ d % 2 = 1 by omega) with c | c
        · exfalso
          apply hz
          rw [← g1, Int.pow_succ, Int.mul_emod_mul_of_pos _ _ hp, c, Int.mul_zero]
        · exact c
      have g3 : f + 2 ^ s = 2 ^ s * (d + 1) := by rw [Int.mul_add, g1, Int.mul_one]
      rw [g3, Int.pow_succ, Int.mul_emod_mul_of_pos _ _ hp, show (d + 1) % 2 = 0 from by omega, Int.mul_zero]
  · have hsm : s < m := pow_lt_pow (by omega)
    exact two (hmax hs128 (mod_less (show s + 1 ≤ m by omega) b3)) (by omega)
end Go.Proofs.YtcgdjnmfeibnoaaDoor
