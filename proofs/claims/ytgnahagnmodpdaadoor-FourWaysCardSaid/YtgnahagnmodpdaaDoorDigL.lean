/- Digits to a base, plainly. -/
import Derived.Test.YtgnahagnmodpdaaDoorOct
import Derived.Test.YtgnahagnmodpdaaDoorBytes
namespace Go.Proofs.YtgnahagnmodpdaaDoor
open Go.RowKit Go.Proofs.YtgnahagnmodpdaaDoorW.PrintWords
set_option linter.unusedVariables false
set_option linter.unusedSimpArgs false

/-- Digits to a base. -/
def digL (base : Int) : List UInt8 → Int → Option Int
  | [], n => some n
  | c :: l, n => if digV (c.toNat : Int) base < 0 then none else digL base l (n * base + digV (c.toNat : Int) base)
theorem digV_lt {b base : Int} (h : 2 ≤ base) : digV b base < base := by
  unfold digV
  repeat' split
  all_goals omega
theorem digV_lo (b base : Int) : -1 ≤ digV b base := by
  unfold digV
  have := digN_lo b
  repeat' split
  all_goals omega
/-- What so many digits can say. -/
theorem digL_bound {base : Int} (hb : 2 ≤ base) : ∀ (l : List UInt8) (n N : Int), digL base l n = some N → 0 ≤ n → 0 ≤ N ∧ N + 1 ≤ (n + 1) * base ^ l.length
  | [], n, N, h, h0 => by
    obtain rfl := Option.some.inj h
    simp
    exact h0
  | c :: l, n, N, h, h0 => by
    unfold digL at h
    by_cases hd : digV (c.toNat : Int) base < 0
    · rw [if_pos hd] at h; cases h
    · rw [if_neg hd] at h
      have hlt := digV_lt (b := (c.toNat : Int)) hb
      have hnn : 0 ≤ n * base := Int.mul_nonneg h0 (by omega)
      obtain ⟨a, b⟩ := digL_bound hb l _ N h (by omega)
      refine ⟨a, Int.le_trans b ?_⟩
      rw [List.length_cons, Int.pow_succ', ← Int.mul_assoc]
      refine Int.mul_le_mul_of_nonneg_right ?_ (Int.pow_nonneg (by omega))
      rw [Int.add_mul]
      omega
end Go.Proofs.YtgnahagnmodpdaaDoor
