/- Decimal digits of small numbers, plainly. -/
import Derived.Test.YtgnahagnmodpdaaDoorBytes
import Derived.Lib.ItoaNum
import Derived.Lib.Join
namespace Go.Proofs.YtgnahagnmodpdaaDoor
open Go.RowKit Go.Proofs.YtgnahagnmodpdaaDoorW.PrintWords
set_option linter.unusedVariables false
set_option linter.unusedSimpArgs false

/-- A digit's byte. -/
def dgt (n : Nat) : UInt8 := UInt8.ofNat (48 + n)
theorem dgt_toNat {n : Nat} (h : n < 10) : (dgt n).toNat = 48 + n := by
  unfold dgt
  rw [UInt8.toNat_ofNat']
  omega
/-- A number below 1000 in digits. -/
def dec3 (n : Nat) : List UInt8 := (if 100 ≤ n then [dgt (n / 100)] else []) ++ (if 10 ≤ n then [dgt (n / 10 % 10)] else []) ++ [dgt (n % 10)]
theorem decDigits_small {n : Nat} (h : n < 1000) : Lib.decDigits n = dec3 n := by
  unfold dec3
  by_cases h1 : n < 10
  · rw [Lib.decDigits, dif_pos h1, if_neg (by omega), if_neg (by omega), Nat.mod_eq_of_lt h1]
    rfl
  · rw [Lib.decDigits, dif_neg h1]
    by_cases h2 : n < 100
    · rw [Lib.decDigits, dif_pos (by omega), if_neg (by omega), if_pos (by omega), show n / 10 % 10 = n / 10 by omega]
      rfl
    · rw [Lib.decDigits, dif_neg (by omega), Lib.decDigits, dif_pos (by omega), if_pos (by omega), if_pos (by omega), Nat.div_div_eq_div_mul]
      rfl
theorem itoa_small {b : Int} (h0 : 0 ≤ b) (h1 : b < 1000) : Lib.itoa b = dec3 b.toNat := by
  unfold Lib.itoa
  rw [if_neg (by omega), decDigits_small (by omega)]
theorem dec3_len (n : Nat) : 1 ≤ (dec3 n).length ∧ (dec3 n).length ≤ 3 := by
  unfold dec3
  (repeat' split) <;> simp
theorem itoa_len {b : Int} (h0 : 0 ≤ b) (h1 : b ≤ 255) : 1 ≤ (Lib.itoa b).length ∧ (Lib.itoa b).length ≤ 3 := by
  rw [itoa_small h0 (by omega)]
  exact dec3_len _
theorem join4 (a b c d : List UInt8) : Lib.join [a, b, c, d] [46] = a ++ 46 :: (b ++ 46 :: (c ++ 46 :: d)) := by
  simp [Lib.join, List.intercalate]
end Go.Proofs.YtgnahagnmodpdaaDoor
