/- What octet.Digit answers: what a byte says as a digit to a base from 2 to 36. -/
import Derived.Test.YtgnahagnmodpdaaDoorWWords
import Derived.Test.YtgnahagnmodpdaaDoorShelf
import Derived.WalkLawsBesides
import Derived.WalkSpells
namespace Go.Proofs.YtgnahagnmodpdaaDoor
open Go.RowKit Go.Proofs.YtgnahagnmodpdaaDoorW.PrintWords
set_option linter.unusedVariables false
set_option linter.unusedSimpArgs false

theorem ret_int {k : IntKind} {a b : Int} (h : a = b) : Ending.returned (.int k a) = .returned (.int k b) := by rw [h]
theorem drawn_same {w w' : World} (h : w = w') : Drawn0 w w' := h ▸ Drawn0.refl w

/-- The digits to the base 36. -/
def digs : List UInt8 := [48, 49, 50, 51, 52, 53, 54, 55, 56, 57, 97, 98, 99, 100, 101, 102, 103, 104, 105, 106, 107, 108, 109, 110, 111, 112, 113, 114, 115, 116, 117, 118, 119, 120, 121, 122]
/-- What a byte says. -/
def digN (b : Int) : Int := if 48 ≤ b ∧ b ≤ 57 then b - 48 else if 65 ≤ b ∧ b ≤ 90 then b - 55 else if 97 ≤ b ∧ b ≤ 122 then b - 87 else -1
/-- .. to a base. -/
def digV (b base : Int) : Int := if base < 2 ∨ 36 < base then -1 else if digN b < base then digN b else -1

theorem idx_digs : ∀ n : Fin 256, Lib.indexByte digs (n.val.toUInt8) = digN (if 65 ≤ (n.val : Int) ∧ (n.val : Int) ≤ 90 then -1 else n.val) := by decide +kernel
theorem idx_of (b : Int) (h0 : 0 ≤ b) (h1 : b < 256) (h2 : ¬ (65 ≤ b ∧ b ≤ 90)) : Lib.indexByte digs b.toNat.toUInt8 = digN b := by
  obtain ⟨n, rfl⟩ := Int.eq_ofNat_of_zero_le h0
  have := idx_digs ⟨n, by omega⟩
  rw [if_neg (by simpa using h2)] at this
  simpa using this
theorem idx_up (b : Int) (h0 : 65 ≤ b) (h1 : b ≤ 90) : Lib.indexByte digs (b + 32).toNat.toUInt8 = digN b := by
  rw [idx_of (b + 32) (by omega) (by omega) (by omega)]
  unfold digN
  rw [if_neg (by omega), if_neg (by omega), if_pos (by omega), if_neg (by omega), if_pos (by omega)]
  omega

/-- The class of a byte. -/
def classV (b : Int) : Int :=
  if 48 ≤ b ∧ b ≤ 57 then 9 else if 65 ≤ b ∧ b ≤ 70 then 10 else if 97 ≤ b ∧ b ≤ 102 then 12 else if 65 ≤ b ∧ b ≤ 90 then 2 else if 97 ≤ b ∧ b ≤ 122 then 4 else if b < 32 ∨ b = 127 then 16 else if 127 < b then 32 else if b = 32 then 128 else 64
theorem class_up (b : Int) : ((if 65 ≤ b ∧ b ≤ 90 then true else false) : Bool) = (decide (classV b = 10) || decide (classV b = 2)) := by
  unfold classV
  repeat' split
  all_goals simp
  all_goals omega

set_option maxHeartbeats 4000000 in
set_option maxRecDepth 100000 in
theorem class_walk (b : Int) (h0 : 0 ≤ b) (h1 : b < 256) (w : World) : Calls Tryd.prog 74 #[.int .u8 b] w fun e w' => e = .returned (.int .i64 (classV b)) ∧ w = w' := by
  go_enter Tryd.func74, Tryd.ntmps74
  go_wp2
  all_goals go_ret
  all_goals refine ⟨ret_int ?_, rfl⟩
  all_goals (try simp only [beq_iff_eq, beq_eq_false_iff_ne, ne_eq] at *)
  all_goals unfold classV
  all_goals (repeat' split)
  all_goals omega

theorem class_bits (b : Int) : (bits BinOp.and IntKind.i64 (classV b) 2 != 0) = decide (65 ≤ b ∧ b ≤ 90) := by
  unfold classV
  (repeat' split) <;> rw [eq_comm] <;> first
    | (rw [decide_eq_true (by omega)]; rfl)
    | (rw [decide_eq_false (by omega)]; rfl)
theorem digN_lo (b : Int) : -1 ≤ digN b := by
  unfold digN
  repeat' split
  all_goals omega
theorem digV_of {b base : Int} (h : ¬ (base < 2 ∨ 36 < base)) : digV b base = if digN b < base then digN b else -1 := if_neg h
theorem dig_case {b base i : Int} (h : ¬ (base < 2 ∨ 36 < base)) (hi : i = digN b) : (base ≤ i → digV b base = -1) ∧ (i < base → digV b base = i) := by
  rw [digV_of h, hi]
  exact ⟨fun h => if_neg (by omega), fun h => if_pos h⟩
theorem idx_up' (b : Int) (h : 65 ≤ b ∧ b ≤ 90) : Lib.indexByte [48, 49, 50, 51, 52, 53, 54, 55, 56, 57, 97, 98, 99, 100, 101, 102, 103, 104, 105, 106, 107, 108, 109, 110, 111, 112, 113, 114, 115, 116, 117, 118, 119, 120, 121, 122] (UInt8.ofNat ((b + 32) % 256).toNat) = digN b := by
  rw [show (b + 32) % 256 = b + 32 by omega]
  exact idx_up b h.1 h.2
theorem idx_lo' (b : Int) (h0 : 0 ≤ b) (h1 : b < 256) (h : ¬ (65 ≤ b ∧ b ≤ 90)) : Lib.indexByte [48, 49, 50, 51, 52, 53, 54, 55, 56, 57, 97, 98, 99, 100, 101, 102, 103, 104, 105, 106, 107, 108, 109, 110, 111, 112, 113, 114, 115, 116, 117, 118, 119, 120, 121, 122] (UInt8.ofNat b.toNat) = digN b :=
  idx_of b h0 h1 h
set_option maxHeartbeats 4000000 in
set_option maxRecDepth 100000 in
theorem digit_walk (b base : Int) (h0 : 0 ≤ b) (h1 : b < 256) (w : World) : Calls Tryd.prog 44 #[.int .u8 b, .int .i64 base] w fun e w' => e = .returned (.int .i64 (digV b base)) ∧ w = w' := by
  have HB := class_bits b
  have HC := Aside0.mk HB
  clear HB
  go_enter Tryd.func44, Tryd.ntmps44
  go_wp2_with (first | (go_at_call 74; refine (class_walk b h0 h1 _).mono ?_; rintro e w' ⟨rfl, rfl⟩) | (go_at_call 75; refine (Tryd.strings_IndexByte _ _ _).mono ?_; rintro e w' ⟨rfl, rfl⟩))
  all_goals go_ret
  all_goals refine ⟨ret_int ?_, rfl⟩
  all_goals go_tidy
  all_goals have hB := HC.out
  all_goals clear HC
  all_goals first
    | (rw [show digV b base = -1 from if_pos (by omega)])
    | (rw [‹(bits BinOp.and IntKind.i64 (classV b) 2 != 0) = true›] at hB
       have hu := of_decide_eq_true hB.symm
       have e := idx_up' b hu
       simp only [e] at *
       first | exact ((dig_case (by omega) rfl).1 (by omega)).symm | exact ((dig_case (by omega) rfl).2 (by omega)).symm)
    | (rw [‹(bits BinOp.and IntKind.i64 (classV b) 2 != 0) = false›] at hB
       have hu := of_decide_eq_false hB.symm
       have e := idx_lo' b h0 h1 hu
       simp only [e] at *
       first | exact ((dig_case (by omega) rfl).1 (by omega)).symm | exact ((dig_case (by omega) rfl).2 (by omega)).symm)
    | trace_state
end Go.Proofs.YtgnahagnmodpdaaDoor
