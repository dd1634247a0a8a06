/- What Mask answers: the number without its last bits. -/
import Derived.Test.YtcgdjnmfeibnoaaDoorSixBits
namespace Go.Proofs.YtcgdjnmfeibnoaaDoor
open Go.RowKit
set_option linter.unusedVariables false
set_option linter.unusedSimpArgs false

/-- What is in the last bits of a number of 128 bits, behind the first n. -/
def tailOf (v n : Int) : Int := v % (2 ^ (128 - n).toNat)
/-- What Mask answers. -/
def MaskPost (v n : Int) (w : World) (e : Ending) (w' : World) : Prop :=
  ∃ y0 y1 y2 y3 y4 y5 y6 y7 : Int, e = .returned (.tuple #[A8 y0 y1 y2 y3 y4 y5 y6 y7, .int .i64 0]) ∧ R8 y0 y1 y2 y3 y4 y5 y6 y7 ∧
    V8 y0 y1 y2 y3 y4 y5 y6 y7 = v - tailOf v n ∧ Below w.heap.size w w'
theorem mask_ret {v n : Int} {w W : World} {y0 y1 y2 y3 y4 y5 y6 y7 : Int} (hr : R8 y0 y1 y2 y3 y4 y5 y6 y7) (h1 : V8 y0 y1 y2 y3 y4 y5 y6 y7 = v - tailOf v n) (hb : Below w.heap.size w W) :
    MaskPost v n w (.returned (.tuple #[A8 y0 y1 y2 y3 y4 y5 y6 y7, .int .i64 0])) W := ⟨y0, y1, y2, y3, y4, y5, y6, y7, rfl, hr, h1, hb⟩

set_option maxHeartbeats 2000000 in
set_option maxRecDepth 100000 in
theorem mask_in_0 (x0 x1 x2 x3 x4 x5 x6 x7 : Int) (h : R8 x0 x1 x2 x3 x4 x5 x6 x7) (n : Int) (n0 : 0 < n) (n1 : n < 16) (w : World) :
    Calls Tryd.prog 61 #[A8 x0 x1 x2 x3 x4 x5 x6 x7, .int .i64 n] w (MaskPost (V8 x0 x1 x2 x3 x4 x5 x6 x7) n w) := by
  go_enter Tryd.func61, Tryd.ntmps61
  go_wp2
  refine wp_loop_rounds 9 ?_
  iterate 8 (rw [rounds_succ]; go_wp2; go_region; go_wp2)
  rw [rounds_succ]
  go_wp2
  go_returns
  refine mask_ret ?_ ?_ (by go_grown)
  all_goals go_tidy
  all_goals obtain ⟨⟨_, _⟩, ⟨_, _⟩, ⟨_, _⟩, ⟨_, _⟩, ⟨_, _⟩, ⟨_, _⟩, ⟨_, _⟩, ⟨_, _⟩⟩ := h
  all_goals have ht : (16 - n).toNat ≤ 16 := by omega
  all_goals rw [andNot_tail x0 _ (by assumption) (by assumption) ht, andNot_whole x1 (by assumption) (by assumption), andNot_whole x2 (by assumption) (by assumption), andNot_whole x3 (by assumption) (by assumption), andNot_whole x4 (by assumption) (by assumption), andNot_whole x5 (by assumption) (by assumption), andNot_whole x6 (by assumption) (by assumption), andNot_whole x7 (by assumption) (by assumption)]
  · generalize hu : x0 % 2 ^ (16 - n).toNat = u
    have h1 := Int.emod_nonneg x0 (show (2 : Int) ^ (16 - n).toNat ≠ 0 from by have := pow_pos2 ((16 - n).toNat); omega)
    have h2 := emod_le16 x0 ht (by assumption)
    rw [hu] at h1 h2
    constructor <;> omega
  · have e : V8 x0 x1 x2 x3 x4 x5 x6 x7 = (0 * 65536 + x0) * 5192296858534827628530496329220096 + ((((((x1 * 65536 + x2) * 65536 + x3) * 65536 + x4) * 65536 + x5) * 65536 + x6) * 65536 + x7) := by unfold V8; omega
    have e2 : (2 : Int) ^ (128 - n).toNat = 2 ^ (16 - n).toNat * 5192296858534827628530496329220096 := by
      rw [show (128 - n).toNat = (16 - n).toNat + 112 from by omega, Int.pow_add]
      rfl
    have hpc : (2 : Int) ^ (16 - n).toNat * 2 ^ (16 - (16 - n).toNat) = 65536 := by
      rw [← Int.pow_add, show (16 - n).toNat + (16 - (16 - n).toNat) = 16 from by omega]
      rfl
    unfold tailOf
    rw [e2, e, mod_mid _ _ _ _ _ _ (by assumption) (by decide) (by omega) (by omega) (pow_pos2 _) hpc]
    generalize x0 % 2 ^ (16 - n).toNat = u
    unfold V8
    omega

set_option maxHeartbeats 2000000 in
set_option maxRecDepth 100000 in
theorem mask_in_1 (x0 x1 x2 x3 x4 x5 x6 x7 : Int) (h : R8 x0 x1 x2 x3 x4 x5 x6 x7) (n : Int) (n0 : 16 < n) (n1 : n < 32) (w : World) :
    Calls Tryd.prog 61 #[A8 x0 x1 x2 x3 x4 x5 x6 x7, .int .i64 n] w (MaskPost (V8 x0 x1 x2 x3 x4 x5 x6 x7) n w) := by
  go_enter Tryd.func61, Tryd.ntmps61
  go_wp2
  refine wp_loop_rounds 9 ?_
  iterate 8 (rw [rounds_succ]; go_wp2; go_region; go_wp2)
  rw [rounds_succ]
  go_wp2
  go_returns
  refine mask_ret ?_ ?_ (by go_grown)
  all_goals go_tidy
  all_goals obtain ⟨⟨_, _⟩, ⟨_, _⟩, ⟨_, _⟩, ⟨_, _⟩, ⟨_, _⟩, ⟨_, _⟩, ⟨_, _⟩, ⟨_, _⟩⟩ := h
  all_goals have ht : (16 - (n - 16)).toNat ≤ 16 := by omega
  all_goals rw [andNot_none x0 (by assumption) (by assumption), andNot_tail x1 _ (by assumption) (by assumption) ht, andNot_whole x2 (by assumption) (by assumption), andNot_whole x3 (by assumption) (by assumption), andNot_whole x4 (by assumption) (by assumption), andNot_whole x5 (by assumption) (by assumption), andNot_whole x6 (by assumption) (by assumption), andNot_whole x7 (by assumption) (by assumption)]
  · generalize hu : x1 % 2 ^ (16 - (n - 16)).toNat = u
    have h1 := Int.emod_nonneg x1 (show (2 : Int) ^ (16 - (n - 16)).toNat ≠ 0 from by have := pow_pos2 ((16 - (n - 16)).toNat); omega)
    have h2 := emod_le16 x1 ht (by assumption)
    rw [hu] at h1 h2
    constructor <;> omega
  · have e : V8 x0 x1 x2 x3 x4 x5 x6 x7 = (x0 * 65536 + x1) * 79228162514264337593543950336 + (((((x2 * 65536 + x3) * 65536 + x4) * 65536 + x5) * 65536 + x6) * 65536 + x7) := by unfold V8; omega
    have e2 : (2 : Int) ^ (128 - n).toNat = 2 ^ (16 - (n - 16)).toNat * 79228162514264337593543950336 := by
      rw [show (128 - n).toNat = (16 - (n - 16)).toNat + 96 from by omega, Int.pow_add]
      rfl
    have hpc : (2 : Int) ^ (16 - (n - 16)).toNat * 2 ^ (16 - (16 - (n - 16)).toNat) = 65536 := by
      rw [← Int.pow_add, show (16 - (n - 16)).toNat + (16 - (16 - (n - 16)).toNat) = 16 from by omega]
      rfl
    unfold tailOf
    rw [e2, e, mod_mid _ _ _ _ _ _ (by assumption) (by decide) (by omega) (by omega) (pow_pos2 _) hpc]
    generalize x1 % 2 ^ (16 - (n - 16)).toNat = u
    unfold V8
    omega

set_option maxHeartbeats 2000000 in
set_option maxRecDepth 100000 in
theorem mask_in_2 (x0 x1 x2 x3 x4 x5 x6 x7 : Int) (h : R8 x0 x1 x2 x3 x4 x5 x6 x7) (n : Int) (n0 : 32 < n) (n1 : n < 48) (w : World) :
    Calls Tryd.prog 61 #[A8 x0 x1 x2 x3 x4 x5 x6 x7, .int .i64 n] w (MaskPost (V8 x0 x1 x2 x3 x4 x5 x6 x7) n w) := by
  go_enter Tryd.func61, Tryd.ntmps61
  go_wp2
  refine wp_loop_rounds 9 ?_
  iterate 8 (rw [rounds_succ]; go_wp2; go_region; go_wp2)
  rw [rounds_succ]
  go_wp2
  go_returns
  refine mask_ret ?_ ?_ (by go_grown)
  all_goals go_tidy
  all_goals obtain ⟨⟨_, _⟩, ⟨_, _⟩, ⟨_, _⟩, ⟨_, _⟩, ⟨_, _⟩, ⟨_, _⟩, ⟨_, _⟩, ⟨_, _⟩⟩ := h
  all_goals have ht : (16 - (n - 32)).toNat ≤ 16 := by omega
  all_goals rw [andNot_none x0 (by assumption) (by assumption), andNot_none x1 (by assumption) (by assumption), andNot_tail x2 _ (by assumption) (by assumption) ht, andNot_whole x3 (by assumption) (by assumption), andNot_whole x4 (by assumption) (by assumption), andNot_whole x5 (by assumption) (by assumption), andNot_whole x6 (by assumption) (by assumption), andNot_whole x7 (by assumption) (by assumption)]
  · generalize hu : x2 % 2 ^ (16 - (n - 32)).toNat = u
    have h1 := Int.emod_nonneg x2 (show (2 : Int) ^ (16 - (n - 32)).toNat ≠ 0 from by have := pow_pos2 ((16 - (n - 32)).toNat); omega)
    have h2 := emod_le16 x2 ht (by assumption)
    rw [hu] at h1 h2
    constructor <;> omega
  · have e : V8 x0 x1 x2 x3 x4 x5 x6 x7 = ((x0 * 65536 + x1) * 65536 + x2) * 1208925819614629174706176 + ((((x3 * 65536 + x4) * 65536 + x5) * 65536 + x6) * 65536 + x7) := by unfold V8; omega
    have e2 : (2 : Int) ^ (128 - n).toNat = 2 ^ (16 - (n - 32)).toNat * 1208925819614629174706176 := by
      rw [show (128 - n).toNat = (16 - (n - 32)).toNat + 80 from by omega, Int.pow_add]
      rfl
    have hpc : (2 : Int) ^ (16 - (n - 32)).toNat * 2 ^ (16 - (16 - (n - 32)).toNat) = 65536 := by
      rw [← Int.pow_add, show (16 - (n - 32)).toNat + (16 - (16 - (n - 32)).toNat) = 16 from by omega]
      rfl
    unfold tailOf
    rw [e2, e, mod_mid _ _ _ _ _ _ (by assumption) (by decide) (by omega) (by omega) (pow_pos2 _) hpc]
    generalize x2 % 2 ^ (16 - (n - 32)).toNat = u
    unfold V8
    omega

set_option maxHeartbeats 2000000 in
set_option maxRecDepth 100000 in
theorem mask_in_3 (x0 x1 x2 x3 x4 x5 x6 x7 : Int) (h : R8 x0 x1 x2 x3 x4 x5 x6 x7) (n : Int) (n0 : 48 < n) (n1 : n < 64) (w : World) :
    Calls Tryd.prog 61 #[A8 x0 x1 x2 x3 x4 x5 x6 x7, .int .i64 n] w (MaskPost (V8 x0 x1 x2 x3 x4 x5 x6 x7) n w) := by
  go_enter Tryd.func61, Tryd.ntmps61
  go_wp2
  refine wp_loop_rounds 9 ?_
  iterate 8 (rw [rounds_succ]; go_wp2; go_region; go_wp2)
  rw [rounds_succ]
  go_wp2
  go_returns
  refine mask_ret ?_ ?_ (by go_grown)
  all_goals go_tidy
  all_goals obtain ⟨⟨_, _⟩, ⟨_, _⟩, ⟨_, _⟩, ⟨_, _⟩, ⟨_, _⟩, ⟨_, _⟩, ⟨_, _⟩, ⟨_, _⟩⟩ := h
  all_goals have ht : (16 - (n - 48)).toNat ≤ 16 := by omega
  all_goals rw [andNot_none x0 (by assumption) (by assumption), andNot_none x1 (by assumption) (by assumption), andNot_none x2 (by assumption) (by assumption), andNot_tail x3 _ (by assumption) (by assumption) ht, andNot_whole x4 (by assumption) (by assumption), andNot_whole x5 (by assumption) (by assumption), andNot_whole x6 (by assumption) (by assumption), andNot_whole x7 (by assumption) (by assumption)]
  · generalize hu : x3 % 2 ^ (16 - (n - 48)).toNat = u
    have h1 := Int.emod_nonneg x3 (show (2 : Int) ^ (16 - (n - 48)).toNat ≠ 0 from by have := pow_pos2 ((16 - (n - 48)).toNat); omega)
    have h2 := emod_le16 x3 ht (by assumption)
    rw [hu] at h1 h2
    constructor <;> omega
  · have e : V8 x0 x1 x2 x3 x4 x5 x6 x7 = (((x0 * 65536 + x1) * 65536 + x2) * 65536 + x3) * 18446744073709551616 + (((x4 * 65536 + x5) * 65536 + x6) * 65536 + x7) := by unfold V8; omega
    have e2 : (2 : Int) ^ (128 - n).toNat = 2 ^ (16 - (n - 48)).toNat * 18446744073709551616 := by
      rw [show (128 - n).toNat = (16 - (n - 48)).toNat + 64 from by omega, Int.pow_add]
      rfl
    have hpc : (2 : Int) ^ (16 - (n - 48)).toNat * 2 ^ (16 - (16 - (n - 48)).toNat) = 65536 := by
      rw [← Int.pow_add, show (16 - (n - 48)).toNat + (16 - (16 - (n - 48)).toNat) = 16 from by omega]
      rfl
    unfold tailOf
    rw [e2, e, mod_mid _ _ _ _ _ _ (by assumption) (by decide) (by omega) (by omega) (pow_pos2 _) hpc]
    generalize x3 % 2 ^ (16 - (n - 48)).toNat = u
    unfold V8
    omega

set_option maxHeartbeats 2000000 in
set_option maxRecDepth 100000 in
theorem mask_in_4 (x0 x1 x2 x3 x4 x5 x6 x7 : Int) (h : R8 x0 x1 x2 x3 x4 x5 x6 x7) (n : Int) (n0 : 64 < n) (n1 : n < 80) (w : World) :
    Calls Tryd.prog 61 #[A8 x0 x1 x2 x3 x4 x5 x6 x7, .int .i64 n] w (MaskPost (V8 x0 x1 x2 x3 x4 x5 x6 x7) n w) := by
  go_enter Tryd.func61, Tryd.ntmps61
  go_wp2
  refine wp_loop_rounds 9 ?_
  iterate 8 (rw [rounds_succ]; go_wp2; go_region; go_wp2)
  rw [rounds_succ]
  go_wp2
  go_returns
  refine mask_ret ?_ ?_ (by go_grown)
  all_goals go_tidy
  all_goals obtain ⟨⟨_, _⟩, ⟨_, _⟩, ⟨_, _⟩, ⟨_, _⟩, ⟨_, _⟩, ⟨_, _⟩, ⟨_, _⟩, ⟨_, _⟩⟩ := h
  all_goals have ht : (16 - (n - 64)).toNat ≤ 16 := by omega
  all_goals rw [andNot_none x0 (by assumption) (by assumption), andNot_none x1 (by assumption) (by assumption), andNot_none x2 (by assumption) (by assumption), andNot_none x3 (by assumption) (by assumption), andNot_tail x4 _ (by assumption) (by assumption) ht, andNot_whole x5 (by assumption) (by assumption), andNot_whole x6 (by assumption) (by assumption), andNot_whole x7 (by assumption) (by assumption)]
  · generalize hu : x4 % 2 ^ (16 - (n - 64)).toNat = u
    have h1 := Int.emod_nonneg x4 (show (2 : Int) ^ (16 - (n - 64)).toNat ≠ 0 from by have := pow_pos2 ((16 - (n - 64)).toNat); omega)
    have h2 := emod_le16 x4 ht (by assumption)
    rw [hu] at h1 h2
    constructor <;> omega
  · have e : V8 x0 x1 x2 x3 x4 x5 x6 x7 = ((((x0 * 65536 + x1) * 65536 + x2) * 65536 + x3) * 65536 + x4) * 281474976710656 + ((x5 * 65536 + x6) * 65536 + x7) := by unfold V8; omega
    have e2 : (2 : Int) ^ (128 - n).toNat = 2 ^ (16 - (n - 64)).toNat * 281474976710656 := by
      rw [show (128 - n).toNat = (16 - (n - 64)).toNat + 48 from by omega, Int.pow_add]
      rfl
    have hpc : (2 : Int) ^ (16 - (n - 64)).toNat * 2 ^ (16 - (16 - (n - 64)).toNat) = 65536 := by
      rw [← Int.pow_add, show (16 - (n - 64)).toNat + (16 - (16 - (n - 64)).toNat) = 16 from by omega]
      rfl
    unfold tailOf
    rw [e2, e, mod_mid _ _ _ _ _ _ (by assumption) (by decide) (by omega) (by omega) (pow_pos2 _) hpc]
    generalize x4 % 2 ^ (16 - (n - 64)).toNat = u
    unfold V8
    omega

set_option maxHeartbeats 2000000 in
set_option maxRecDepth 100000 in
theorem mask_in_5 (x0 x1 x2 x3 x4 x5 x6 x7 : Int) (h : R8 x0 x1 x2 x3 x4 x5 x6 x7) (n : Int) (n0 : 80 < n) (n1 : n < 96) (w : World) :
    Calls Tryd.prog 61 #[A8 x0 x1 x2 x3 x4 x5 x6 x7, .int .i64 n] w (MaskPost (V8 x0 x1 x2 x3 x4 x5 x6 x7) n w) := by
  go_enter Tryd.func61, Tryd.ntmps61
  go_wp2
  refine wp_loop_rounds 9 ?_
  iterate 8 (rw [rounds_succ]; go_wp2; go_region; go_wp2)
  rw [rounds_succ]
  go_wp2
  go_returns
  refine mask_ret ?_ ?_ (by go_grown)
  all_goals go_tidy
  all_goals obtain ⟨⟨_, _⟩, ⟨_, _⟩, ⟨_, _⟩, ⟨_, _⟩, ⟨_, _⟩, ⟨_, _⟩, ⟨_, _⟩, ⟨_, _⟩⟩ := h
  all_goals have ht : (16 - (n - 80)).toNat ≤ 16 := by omega
  all_goals rw [andNot_none x0 (by assumption) (by assumption), andNot_none x1 (by assumption) (by assumption), andNot_none x2 (by assumption) (by assumption), andNot_none x3 (by assumption) (by assumption), andNot_none x4 (by assumption) (by assumption), andNot_tail x5 _ (by assumption) (by assumption) ht, andNot_whole x6 (by assumption) (by assumption), andNot_whole x7 (by assumption) (by assumption)]
  · generalize hu : x5 % 2 ^ (16 - (n - 80)).toNat = u
    have h1 := Int.emod_nonneg x5 (show (2 : Int) ^ (16 - (n - 80)).toNat ≠ 0 from by have := pow_pos2 ((16 - (n - 80)).toNat); omega)
    have h2 := emod_le16 x5 ht (by assumption)
    rw [hu] at h1 h2
    constructor <;> omega
  · have e : V8 x0 x1 x2 x3 x4 x5 x6 x7 = (((((x0 * 65536 + x1) * 65536 + x2) * 65536 + x3) * 65536 + x4) * 65536 + x5) * 4294967296 + (x6 * 65536 + x7) := by unfold V8; omega
    have e2 : (2 : Int) ^ (128 - n).toNat = 2 ^ (16 - (n - 80)).toNat * 4294967296 := by
      rw [show (128 - n).toNat = (16 - (n - 80)).toNat + 32 from by omega, Int.pow_add]
      rfl
    have hpc : (2 : Int) ^ (16 - (n - 80)).toNat * 2 ^ (16 - (16 - (n - 80)).toNat) = 65536 := by
      rw [← Int.pow_add, show (16 - (n - 80)).toNat + (16 - (16 - (n - 80)).toNat) = 16 from by omega]
      rfl
    unfold tailOf
    rw [e2, e, mod_mid _ _ _ _ _ _ (by assumption) (by decide) (by omega) (by omega) (pow_pos2 _) hpc]
    generalize x5 % 2 ^ (16 - (n - 80)).toNat = u
    unfold V8
    omega

set_option maxHeartbeats 2000000 in
set_option maxRecDepth 100000 in
theorem mask_in_6 (x0 x1 x2 x3 x4 x5 x6 x7 : Int) (h : R8 x0 x1 x2 x3 x4 x5 x6 x7) (n : Int) (n0 : 96 < n) (n1 : n < 112) (w : World) :
    Calls Tryd.prog 61 #[A8 x0 x1 x2 x3 x4 x5 x6 x7, .int .i64 n] w (MaskPost (V8 x0 x1 x2 x3 x4 x5 x6 x7) n w) := by
  go_enter Tryd.func61, Tryd.ntmps61
  go_wp2
  refine wp_loop_rounds 9 ?_
  iterate 8 (rw [rounds_succ]; go_wp2; go_region; go_wp2)
  rw [rounds_succ]
  go_wp2
  go_returns
  refine mask_ret ?_ ?_ (by go_grown)
  all_goals go_tidy
  all_goals obtain ⟨⟨_, _⟩, ⟨_, _⟩, ⟨_, _⟩, ⟨_, _⟩, ⟨_, _⟩, ⟨_, _⟩, ⟨_, _⟩, ⟨_, _⟩⟩ := h
  all_goals have ht : (16 - (n - 96)).toNat ≤ 16 := by omega
  all_goals rw [andNot_none x0 (by assumption) (by assumption), andNot_none x1 (by assumption) (by assumption), andNot_none x2 (by assumption) (by assumption), andNot_none x3 (by assumption) (by assumption), andNot_none x4 (by assumption) (by assumption), andNot_none x5 (by assumption) (by assumption), andNot_tail x6 _ (by assumption) (by assumption) ht, andNot_whole x7 (by assumption) (by assumption)]
  · generalize hu : x6 % 2 ^ (16 - (n - 96)).toNat = u
    have h1 := Int.emod_nonneg x6 (show (2 : Int) ^ (16 - (n - 96)).toNat ≠ 0 from by have := pow_pos2 ((16 - (n - 96)).toNat); omega)
    have h2 := emod_le16 x6 ht (by assumption)
    rw [hu] at h1 h2
    constructor <;> omega
  · have e : V8 x0 x1 x2 x3 x4 x5 x6 x7 = ((((((x0 * 65536 + x1) * 65536 + x2) * 65536 + x3) * 65536 + x4) * 65536 + x5) * 65536 + x6) * 65536 + x7 := by unfold V8; omega
    have e2 : (2 : Int) ^ (128 - n).toNat = 2 ^ (16 - (n - 96)).toNat * 65536 := by
      rw [show (128 - n).toNat = (16 - (n - 96)).toNat + 16 from by omega, Int.pow_add]
      rfl
    have hpc : (2 : Int) ^ (16 - (n - 96)).toNat * 2 ^ (16 - (16 - (n - 96)).toNat) = 65536 := by
      rw [← Int.pow_add, show (16 - (n - 96)).toNat + (16 - (16 - (n - 96)).toNat) = 16 from by omega]
      rfl
    unfold tailOf
    rw [e2, e, mod_mid _ _ _ _ _ _ (by assumption) (by decide) (by omega) (by omega) (pow_pos2 _) hpc]
    generalize x6 % 2 ^ (16 - (n - 96)).toNat = u
    unfold V8
    omega

set_option maxHeartbeats 2000000 in
set_option maxRecDepth 100000 in
theorem mask_in_7 (x0 x1 x2 x3 x4 x5 x6 x7 : Int) (h : R8 x0 x1 x2 x3 x4 x5 x6 x7) (n : Int) (n0 : 112 < n) (n1 : n < 128) (w : World) :
    Calls Tryd.prog 61 #[A8 x0 x1 x2 x3 x4 x5 x6 x7, .int .i64 n] w (MaskPost (V8 x0 x1 x2 x3 x4 x5 x6 x7) n w) := by
  go_enter Tryd.func61, Tryd.ntmps61
  go_wp2
  refine wp_loop_rounds 9 ?_
  iterate 8 (rw [rounds_succ]; go_wp2; go_region; go_wp2)
  rw [rounds_succ]
  go_wp2
  go_returns
  refine mask_ret ?_ ?_ (by go_grown)
  all_goals go_tidy
  all_goals obtain ⟨⟨_, _⟩, ⟨_, _⟩, ⟨_, _⟩, ⟨_, _⟩, ⟨_, _⟩, ⟨_, _⟩, ⟨_, _⟩, ⟨_, _⟩⟩ := h
  all_goals have ht : (16 - (n - 112)).toNat ≤ 16 := by omega
  all_goals rw [andNot_none x0 (by assumption) (by assumption), andNot_none x1 (by assumption) (by assumption), andNot_none x2 (by assumption) (by assumption), andNot_none x3 (by assumption) (by assumption), andNot_none x4 (by assumption) (by assumption), andNot_none x5 (by assumption) (by assumption), andNot_none x6 (by assumption) (by assumption), andNot_tail x7 _ (by assumption) (by assumption) ht]
  · generalize hu : x7 % 2 ^ (16 - (n - 112)).toNat = u
    have h1 := Int.emod_nonneg x7 (show (2 : Int) ^ (16 - (n - 112)).toNat ≠ 0 from by have := pow_pos2 ((16 - (n - 112)).toNat); omega)
    have h2 := emod_le16 x7 ht (by assumption)
    rw [hu] at h1 h2
    constructor <;> omega
  · have e : V8 x0 x1 x2 x3 x4 x5 x6 x7 = (((((((x0 * 65536 + x1) * 65536 + x2) * 65536 + x3) * 65536 + x4) * 65536 + x5) * 65536 + x6) * 65536 + x7) * 1 + 0 := by unfold V8; omega
    have e2 : (2 : Int) ^ (128 - n).toNat = 2 ^ (16 - (n - 112)).toNat * 1 := by
      rw [show (128 - n).toNat = (16 - (n - 112)).toNat + 0 from by omega, Int.pow_add]
      rfl
    have hpc : (2 : Int) ^ (16 - (n - 112)).toNat * 2 ^ (16 - (16 - (n - 112)).toNat) = 65536 := by
      rw [← Int.pow_add, show (16 - (n - 112)).toNat + (16 - (16 - (n - 112)).toNat) = 16 from by omega]
      rfl
    unfold tailOf
    rw [e2, e, mod_mid _ _ _ _ _ _ (by assumption) (by decide) (by omega) (by omega) (pow_pos2 _) hpc]
    generalize x7 % 2 ^ (16 - (n - 112)).toNat = u
    unfold V8
    omega

set_option maxHeartbeats 2000000 in
set_option maxRecDepth 100000 in
theorem mask_at_0 (x0 x1 x2 x3 x4 x5 x6 x7 : Int) (h : R8 x0 x1 x2 x3 x4 x5 x6 x7) (w : World) :
    Calls Tryd.prog 61 #[A8 x0 x1 x2 x3 x4 x5 x6 x7, .int .i64 0] w (MaskPost (V8 x0 x1 x2 x3 x4 x5 x6 x7) 0 w) := by
  go_enter Tryd.func61, Tryd.ntmps61
  go_wp2
  refine wp_loop_rounds 9 ?_
  iterate 8 (rw [rounds_succ]; go_wp2; go_region; go_wp2)
  rw [rounds_succ]
  go_wp2
  go_returns
  refine mask_ret ?_ ?_ (by go_grown)
  all_goals go_tidy
  all_goals obtain ⟨⟨_, _⟩, ⟨_, _⟩, ⟨_, _⟩, ⟨_, _⟩, ⟨_, _⟩, ⟨_, _⟩, ⟨_, _⟩, ⟨_, _⟩⟩ := h
  all_goals rw [andNot_whole x0 (by assumption) (by assumption), andNot_whole x1 (by assumption) (by assumption), andNot_whole x2 (by assumption) (by assumption), andNot_whole x3 (by assumption) (by assumption), andNot_whole x4 (by assumption) (by assumption), andNot_whole x5 (by assumption) (by assumption), andNot_whole x6 (by assumption) (by assumption), andNot_whole x7 (by assumption) (by assumption)]
  · constructor <;> omega
  · unfold tailOf
    rw [show (2 : Int) ^ ((128 : Int) - 0).toNat = 340282366920938463463374607431768211456 from by decide]
    unfold V8
    omega

set_option maxHeartbeats 2000000 in
set_option maxRecDepth 100000 in
theorem mask_at_1 (x0 x1 x2 x3 x4 x5 x6 x7 : Int) (h : R8 x0 x1 x2 x3 x4 x5 x6 x7) (w : World) :
    Calls Tryd.prog 61 #[A8 x0 x1 x2 x3 x4 x5 x6 x7, .int .i64 16] w (MaskPost (V8 x0 x1 x2 x3 x4 x5 x6 x7) 16 w) := by
  go_enter Tryd.func61, Tryd.ntmps61
  go_wp2
  refine wp_loop_rounds 9 ?_
  iterate 8 (rw [rounds_succ]; go_wp2; go_region; go_wp2)
  rw [rounds_succ]
  go_wp2
  go_returns
  refine mask_ret ?_ ?_ (by go_grown)
  all_goals go_tidy
  all_goals obtain ⟨⟨_, _⟩, ⟨_, _⟩, ⟨_, _⟩, ⟨_, _⟩, ⟨_, _⟩, ⟨_, _⟩, ⟨_, _⟩, ⟨_, _⟩⟩ := h
  all_goals rw [andNot_none x0 (by assumption) (by assumption), andNot_whole x1 (by assumption) (by assumption), andNot_whole x2 (by assumption) (by assumption), andNot_whole x3 (by assumption) (by assumption), andNot_whole x4 (by assumption) (by assumption), andNot_whole x5 (by assumption) (by assumption), andNot_whole x6 (by assumption) (by assumption), andNot_whole x7 (by assumption) (by assumption)]
  · constructor <;> omega
  · unfold tailOf
    rw [show (2 : Int) ^ ((128 : Int) - 16).toNat = 5192296858534827628530496329220096 from by decide]
    unfold V8
    omega

set_option maxHeartbeats 2000000 in
set_option maxRecDepth 100000 in
theorem mask_at_2 (x0 x1 x2 x3 x4 x5 x6 x7 : Int) (h : R8 x0 x1 x2 x3 x4 x5 x6 x7) (w : World) :
    Calls Tryd.prog 61 #[A8 x0 x1 x2 x3 x4 x5 x6 x7, .int .i64 32] w (MaskPost (V8 x0 x1 x2 x3 x4 x5 x6 x7) 32 w) := by
  go_enter Tryd.func61, Tryd.ntmps61
  go_wp2
  refine wp_loop_rounds 9 ?_
  iterate 8 (rw [rounds_succ]; go_wp2; go_region; go_wp2)
  rw [rounds_succ]
  go_wp2
  go_returns
  refine mask_ret ?_ ?_ (by go_grown)
  all_goals go_tidy
  all_goals obtain ⟨⟨_, _⟩, ⟨_, _⟩, ⟨_, _⟩, ⟨_, _⟩, ⟨_, _⟩, ⟨_, _⟩, ⟨_, _⟩, ⟨_, _⟩⟩ := h
  all_goals rw [andNot_none x0 (by assumption) (by assumption), andNot_none x1 (by assumption) (by assumption), andNot_whole x2 (by assumption) (by assumption), andNot_whole x3 (by assumption) (by assumption), andNot_whole x4 (by assumption) (by assumption), andNot_whole x5 (by assumption) (by assumption), andNot_whole x6 (by assumption) (by assumption), andNot_whole x7 (by assumption) (by assumption)]
  · constructor <;> omega
  · unfold tailOf
    rw [show (2 : Int) ^ ((128 : Int) - 32).toNat = 79228162514264337593543950336 from by decide]
    unfold V8
    omega

set_option maxHeartbeats 2000000 in
set_option maxRecDepth 100000 in
theorem mask_at_3 (x0 x1 x2 x3 x4 x5 x6 x7 : Int) (h : R8 x0 x1 x2 x3 x4 x5 x6 x7) (w : World) :
    Calls Tryd.prog 61 #[A8 x0 x1 x2 x3 x4 x5 x6 x7, .int .i64 48] w (MaskPost (V8 x0 x1 x2 x3 x4 x5 x6 x7) 48 w) := by
  go_enter Tryd.func61, Tryd.ntmps61
  go_wp2
  refine wp_loop_rounds 9 ?_
  iterate 8 (rw [rounds_succ]; go_wp2; go_region; go_wp2)
  rw [rounds_succ]
  go_wp2
  go_returns
  refine mask_ret ?_ ?_ (by go_grown)
  all_goals go_tidy
  all_goals obtain ⟨⟨_, _⟩, ⟨_, _⟩, ⟨_, _⟩, ⟨_, _⟩, ⟨_, _⟩, ⟨_, _⟩, ⟨_, _⟩, ⟨_, _⟩⟩ := h
  all_goals rw [andNot_none x0 (by assumption) (by assumption), andNot_none x1 (by assumption) (by assumption), andNot_none x2 (by assumption) (by assumption), andNot_whole x3 (by assumption) (by assumption), andNot_whole x4 (by assumption) (by assumption), andNot_whole x5 (by assumption) (by assumption), andNot_whole x6 (by assumption) (by assumption), andNot_whole x7 (by assumption) (by assumption)]
  · constructor <;> omega
  · unfold tailOf
    rw [show (2 : Int) ^ ((128 : Int) - 48).toNat = 1208925819614629174706176 from by decide]
    unfold V8
    omega

set_option maxHeartbeats 2000000 in
set_option maxRecDepth 100000 in
theorem mask_at_4 (x0 x1 x2 x3 x4 x5 x6 x7 : Int) (h : R8 x0 x1 x2 x3 x4 x5 x6 x7) (w : World) :
    Calls Tryd.prog 61 #[A8 x0 x1 x2 x3 x4 x5 x6 x7, .int .i64 64] w (MaskPost (V8 x0 x1 x2 x3 x4 x5 x6 x7) 64 w) := by
  go_enter Tryd.func61, Tryd.ntmps61
  go_wp2
  refine wp_loop_rounds 9 ?_
  iterate 8 (rw [rounds_succ]; go_wp2; go_region; go_wp2)
  rw [rounds_succ]
  go_wp2
  go_returns
  refine mask_ret ?_ ?_ (by go_grown)
  all_goals go_tidy
  all_goals obtain ⟨⟨_, _⟩, ⟨_, _⟩, ⟨_, _⟩, ⟨_, _⟩, ⟨_, _⟩, ⟨_, _⟩, ⟨_, _⟩, ⟨_, _⟩⟩ := h
  all_goals rw [andNot_none x0 (by assumption) (by assumption), andNot_none x1 (by assumption) (by assumption), andNot_none x2 (by assumption) (by assumption), andNot_none x3 (by assumption) (by assumption), andNot_whole x4 (by assumption) (by assumption), andNot_whole x5 (by assumption) (by assumption), andNot_whole x6 (by assumption) (by assumption), andNot_whole x7 (by assumption) (by assumption)]
  · constructor <;> omega
  · unfold tailOf
    rw [show (2 : Int) ^ ((128 : Int) - 64).toNat = 18446744073709551616 from by decide]
    unfold V8
    omega

set_option maxHeartbeats 2000000 in
set_option maxRecDepth 100000 in
theorem mask_at_5 (x0 x1 x2 x3 x4 x5 x6 x7 : Int) (h : R8 x0 x1 x2 x3 x4 x5 x6 x7) (w : World) :
    Calls Tryd.prog 61 #[A8 x0 x1 x2 x3 x4 x5 x6 x7, .int .i64 80] w (MaskPost (V8 x0 x1 x2 x3 x4 x5 x6 x7) 80 w) := by
  go_enter Tryd.func61, Tryd.ntmps61
  go_wp2
  refine wp_loop_rounds 9 ?_
  iterate 8 (rw [rounds_succ]; go_wp2; go_region; go_wp2)
  rw [rounds_succ]
  go_wp2
  go_returns
  refine mask_ret ?_ ?_ (by go_grown)
  all_goals go_tidy
  all_goals obtain ⟨⟨_, _⟩, ⟨_, _⟩, ⟨_, _⟩, ⟨_, _⟩, ⟨_, _⟩, ⟨_, _⟩, ⟨_, _⟩, ⟨_, _⟩⟩ := h
  all_goals rw [andNot_none x0 (by assumption) (by assumption), andNot_none x1 (by assumption) (by assumption), andNot_none x2 (by assumption) (by assumption), andNot_none x3 (by assumption) (by assumption), andNot_none x4 (by assumption) (by assumption), andNot_whole x5 (by assumption) (by assumption), andNot_whole x6 (by assumption) (by assumption), andNot_whole x7 (by assumption) (by assumption)]
  · constructor <;> omega
  · unfold tailOf
    rw [show (2 : Int) ^ ((128 : Int) - 80).toNat = 281474976710656 from by decide]
    unfold V8
    omega

set_option maxHeartbeats 2000000 in
set_option maxRecDepth 100000 in
theorem mask_at_6 (x0 x1 x2 x3 x4 x5 x6 x7 : Int) (h : R8 x0 x1 x2 x3 x4 x5 x6 x7) (w : World) :
    Calls Tryd.prog 61 #[A8 x0 x1 x2 x3 x4 x5 x6 x7, .int .i64 96] w (MaskPost (V8 x0 x1 x2 x3 x4 x5 x6 x7) 96 w) := by
  go_enter Tryd.func61, Tryd.ntmps61
  go_wp2
  refine wp_loop_rounds 9 ?_
  iterate 8 (rw [rounds_succ]; go_wp2; go_region; go_wp2)
  rw [rounds_succ]
  go_wp2
  go_returns
  refine mask_ret ?_ ?_ (by go_grown)
  all_goals go_tidy
  all_goals obtain ⟨⟨_, _⟩, ⟨_, _⟩, ⟨_, _⟩, ⟨_, _⟩, ⟨_, _⟩, ⟨_, _⟩, ⟨_, _⟩, ⟨_, _⟩⟩ := h
  all_goals rw [andNot_none x0 (by assumption) (by assumption), andNot_none x1 (by assumption) (by assumption), andNot_none x2 (by assumption) (by assumption), andNot_none x3 (by assumption) (by assumption), andNot_none x4 (by assumption) (by assumption), andNot_none x5 (by assumption) (by assumption), andNot_whole x6 (by assumption) (by assumption), andNot_whole x7 (by assumption) (by assumption)]
  · constructor <;> omega
  · unfold tailOf
    rw [show (2 : Int) ^ ((128 : Int) - 96).toNat = 4294967296 from by decide]
    unfold V8
    omega

set_option maxHeartbeats 2000000 in
set_option maxRecDepth 100000 in
theorem mask_at_7 (x0 x1 x2 x3 x4 x5 x6 x7 : Int) (h : R8 x0 x1 x2 x3 x4 x5 x6 x7) (w : World) :
    Calls Tryd.prog 61 #[A8 x0 x1 x2 x3 x4 x5 x6 x7, .int .i64 112] w (MaskPost (V8 x0 x1 x2 x3 x4 x5 x6 x7) 112 w) := by
  go_enter Tryd.func61, Tryd.ntmps61
  go_wp2
  refine wp_loop_rounds 9 ?_
  iterate 8 (rw [rounds_succ]; go_wp2; go_region; go_wp2)
  rw [rounds_succ]
  go_wp2
  go_returns
  refine mask_ret ?_ ?_ (by go_grown)
  all_goals go_tidy
  all_goals obtain ⟨⟨_, _⟩, ⟨_, _⟩, ⟨_, _⟩, ⟨_, _⟩, ⟨_, _⟩, ⟨_, _⟩, ⟨_, _⟩, ⟨_, _⟩⟩ := h
  all_goals rw [andNot_none x0 (by assumption) (by assumption), andNot_none x1 (by assumption) (by assumption), andNot_none x2 (by assumption) (by assumption), andNot_none x3 (by assumption) (by assumption), andNot_none x4 (by assumption) (by assumption), andNot_none x5 (by assumption) (by assumption), andNot_none x6 (by assumption) (by assumption), andNot_whole x7 (by assumption) (by assumption)]
  · constructor <;> omega
  · unfold tailOf
    rw [show (2 : Int) ^ ((128 : Int) - 112).toNat = 65536 from by decide]
    unfold V8
    omega

set_option maxHeartbeats 2000000 in
set_option maxRecDepth 100000 in
theorem mask_at_8 (x0 x1 x2 x3 x4 x5 x6 x7 : Int) (h : R8 x0 x1 x2 x3 x4 x5 x6 x7) (w : World) :
    Calls Tryd.prog 61 #[A8 x0 x1 x2 x3 x4 x5 x6 x7, .int .i64 128] w (MaskPost (V8 x0 x1 x2 x3 x4 x5 x6 x7) 128 w) := by
  go_enter Tryd.func61, Tryd.ntmps61
  go_wp2
  refine wp_loop_rounds 9 ?_
  iterate 8 (rw [rounds_succ]; go_wp2; go_region; go_wp2)
  rw [rounds_succ]
  go_wp2
  go_returns
  refine mask_ret ?_ ?_ (by go_grown)
  all_goals go_tidy
  all_goals obtain ⟨⟨_, _⟩, ⟨_, _⟩, ⟨_, _⟩, ⟨_, _⟩, ⟨_, _⟩, ⟨_, _⟩, ⟨_, _⟩, ⟨_, _⟩⟩ := h
  all_goals rw [andNot_none x0 (by assumption) (by assumption), andNot_none x1 (by assumption) (by assumption), andNot_none x2 (by assumption) (by assumption), andNot_none x3 (by assumption) (by assumption), andNot_none x4 (by assumption) (by assumption), andNot_none x5 (by assumption) (by assumption), andNot_none x6 (by assumption) (by assumption), andNot_none x7 (by assumption) (by assumption)]
  · constructor <;> omega
  · unfold tailOf
    rw [show (2 : Int) ^ ((128 : Int) - 128).toNat = 1 from by decide]
    unfold V8
    omega

theorem mask_walk (x0 x1 x2 x3 x4 x5 x6 x7 : Int) (h : R8 x0 x1 x2 x3 x4 x5 x6 x7) (n : Int) (n0 : 0 ≤ n) (n1 : n ≤ 128) (w : World) :
    Calls Tryd.prog 61 #[A8 x0 x1 x2 x3 x4 x5 x6 x7, .int .i64 n] w (MaskPost (V8 x0 x1 x2 x3 x4 x5 x6 x7) n w) := by
  by_cases a0 : n = 0
  · subst a0; exact mask_at_0 _ _ _ _ _ _ _ _ h w
  by_cases b0 : n < 16
  · exact mask_in_0 _ _ _ _ _ _ _ _ h n (by omega) b0 w
  by_cases a1 : n = 16
  · subst a1; exact mask_at_1 _ _ _ _ _ _ _ _ h w
  by_cases b1 : n < 32
  · exact mask_in_1 _ _ _ _ _ _ _ _ h n (by omega) b1 w
  by_cases a2 : n = 32
  · subst a2; exact mask_at_2 _ _ _ _ _ _ _ _ h w
  by_cases b2 : n < 48
  · exact mask_in_2 _ _ _ _ _ _ _ _ h n (by omega) b2 w
  by_cases a3 : n = 48
  · subst a3; exact mask_at_3 _ _ _ _ _ _ _ _ h w
  by_cases b3 : n < 64
  · exact mask_in_3 _ _ _ _ _ _ _ _ h n (by omega) b3 w
  by_cases a4 : n = 64
  · subst a4; exact mask_at_4 _ _ _ _ _ _ _ _ h w
  by_cases b4 : n < 80
  · exact mask_in_4 _ _ _ _ _ _ _ _ h n (by omega) b4 w
  by_cases a5 : n = 80
  · subst a5; exact mask_at_5 _ _ _ _ _ _ _ _ h w
  by_cases b5 : n < 96
  · exact mask_in_5 _ _ _ _ _ _ _ _ h n (by omega) b5 w
  by_cases a6 : n = 96
  · subst a6; exact mask_at_6 _ _ _ _ _ _ _ _ h w
  by_cases b6 : n < 112
  · exact mask_in_6 _ _ _ _ _ _ _ _ h n (by omega) b6 w
  by_cases a7 : n = 112
  · subst a7; exact mask_at_7 _ _ _ _ _ _ _ _ h w
  by_cases b7 : n < 128
  · exact mask_in_7 _ _ _ _ _ _ _ _ h n (by omega) b7 w
  by_cases a8 : n = 128
  · subst a8; exact mask_at_8 _ _ _ _ _ _ _ _ h w
  omega
end Go.Proofs.YtcgdjnmfeibnoaaDoor
