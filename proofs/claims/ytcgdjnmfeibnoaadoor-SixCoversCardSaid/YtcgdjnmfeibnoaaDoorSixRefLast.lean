/- What the document's Last answers: the last of the addresses of a prefix. -/
import Derived.Test.YtcgdjnmfeibnoaaDoorSixRefMask
namespace Go.Proofs.YtcgdjnmfeibnoaaDoor
open Go.RowKit
set_option linter.unusedVariables false
set_option linter.unusedSimpArgs false

theorem nat_or_bit (a t : Nat) (h : a / 2 ^ t % 2 = 0) : a ||| 2 ^ t = a + 2 ^ t := by
  have hq : 0 < 2 ^ t := Nat.two_pow_pos t
  have e1 := Nat.div_add_mod a (2 ^ (t + 1))
  have hr : a % 2 ^ (t + 1) < 2 ^ t := by
    rw [Nat.pow_succ, Nat.mod_mul, h]
    have := Nat.mod_lt a hq
    omega
  rw [← e1, ← nat_join (t + 1) _ (a % 2 ^ (t + 1)) (Nat.mul_mod_right _ _) (Nat.mod_lt _ (Nat.two_pow_pos _)), Nat.or_assoc, Nat.or_comm (a % 2 ^ (t + 1)) (2 ^ t),
    nat_join t (2 ^ t) _ (Nat.mod_self _) hr, nat_join (t + 1) _ _ (Nat.mul_mod_right _ _) (by have hs : 2 ^ (t + 1) = 2 ^ t * 2 := Nat.pow_succ ..; omega), nat_join (t + 1) _ (a % 2 ^ (t + 1)) (Nat.mul_mod_right _ _) (Nat.mod_lt _ (Nat.two_pow_pos _))]
  omega
theorem or_bit (x : Int) (t : Nat) (h0 : 0 ≤ x) (h1 : x ≤ 65535) (ht : t ≤ 15) (hb : x / 2 ^ t % 2 = 0) : bits .or .u16 x (IntKind.u16.wrap (2 ^ t)) = x + 2 ^ t := by
  have hp := pow_pos2 t
  have hl : (2 : Int) ^ t ≤ 32768 := by
    have := Nat.pow_le_pow_right (n := 2) (by omega) (show t ≤ 15 by omega)
    have h : ((2 ^ t : Nat) : Int) ≤ ((2 ^ 15 : Nat) : Int) := by exact_mod_cast this
    simpa using h
  rw [IntKind.wrap_u16, show (2 : Int) ^ t % 65536 = 2 ^ t from by omega, u16_or _ _ h0 (by omega) (by omega) (by omega)]
  obtain ⟨a, rfl⟩ := Int.eq_ofNat_of_zero_le h0
  have e : (2 : Int) ^ t = ((2 ^ t : Nat) : Int) := by simp
  rw [e] at hb ⊢
  rw [Int.toNat_natCast, Int.toNat_natCast, nat_or_bit a t (by exact_mod_cast hb)]
  omega

/-- The step of one bit. -/
theorem piece_or {v n A x lo B Y : Int} {k t : Nat} (n0 : 0 ≤ n) (hn : n ≤ k) (hk : k < 128) (hx0 : 0 ≤ x) (hx1 : x ≤ 65535) (ht : t ≤ 15) (hB : B = 2 ^ (127 - k - t)) (htk : t ≤ 127 - k) (h0 : 0 ≤ lo) (h1 : lo < B)
    (hY : Y = (A * 65536 + x) * B + lo) (hv : Y = v + (2 ^ (128 - n).toNat - 2 ^ (128 - k))) (hz : v % 2 ^ (128 - n).toNat = 0) :
    ∃ x', bits .or .u16 x (IntKind.u16.wrap (2 ^ t)) = x' ∧ 0 ≤ x' ∧ x' ≤ 65535 ∧ (A * 65536 + x') * B + lo = v + (2 ^ (128 - n).toNat - 2 ^ (128 - (k + 1))) := by
  have hp := pow_pos2 t
  have hpB : 0 < B := by rw [hB]; exact pow_pos2 _
  have hPB : (2 : Int) ^ (127 - k) = 2 ^ t * B := by rw [hB, ← pow_add2, show t + (127 - k - t) = 127 - k from by omega]
  have hP2 : (2 : Int) ^ (128 - k) = 2 * 2 ^ (127 - k) := by rw [show 128 - k = (127 - k) + 1 from by omega, Int.pow_succ]; omega
  have hdiv : Y % 2 ^ (128 - k) = 0 := by
    obtain ⟨d, hd⟩ : ∃ d, (128 - n).toNat = (128 - k) + d := ⟨(128 - n).toNat - (128 - k), by omega⟩
    rw [hd, pow_add2] at hz hv
    have e := Int.mul_ediv_add_emod v (2 ^ (128 - k) * 2 ^ d)
    rw [hz, Int.add_zero] at e
    rw [hv, ← e]
    have : 2 ^ (128 - k) * 2 ^ d * (v / (2 ^ (128 - k) * 2 ^ d)) + (2 ^ (128 - k) * 2 ^ d - 2 ^ (128 - k)) = (2 ^ (128 - k) : Int) * (2 ^ d * (v / (2 ^ (128 - k) * 2 ^ d)) + 2 ^ d - 1) := by
      rw [Int.mul_sub, Int.mul_add, Int.mul_one, ← Int.mul_assoc]
      omega
    rw [this]
    exact Int.mul_emod_right _ _
  have hb : x / 2 ^ t % 2 = 0 := by
    rw [← bit_mid A x lo B t ht hpB h0 h1, ← hY, ← hPB]
    rw [hP2] at hdiv
    have e := Int.mul_ediv_add_emod Y (2 * 2 ^ (127 - k))
    rw [hdiv, Int.add_zero, Int.mul_comm 2 (2 ^ (127 - k)), Int.mul_assoc] at e
    rw [← e, Int.mul_ediv_cancel_left _ (by have := pow_pos2 (127 - k); omega)]
    exact Int.mul_emod_right _ _
  rw [or_bit x t hx0 hx1 ht hb]
  have hle : x + 2 ^ t ≤ 65535 := by
    have e : (65536 : Int) = 2 * 2 ^ t * 2 ^ (15 - t) := by
      rw [Int.mul_assoc, ← pow_add2, show t + (15 - t) = 15 from by omega]; rfl
    have e2 := Int.mul_ediv_add_emod x (2 ^ t)
    have e3 := Int.emod_lt_of_pos x hp
    have hq := pow_pos2 (15 - t)
    have e4 : x / 2 ^ t = 2 * (x / 2 ^ t / 2) := by omega
    generalize x / 2 ^ t / 2 = q at *
    rw [e4] at e2
    have e5 : q < 2 ^ (15 - t) := by
      apply Int.lt_of_mul_lt_mul_left (a := 2 * 2 ^ t) _ (by omega)
      rw [← e]
      have : 2 ^ t * (2 * q) = 2 * 2 ^ t * q := by ac_rfl
      have := Int.emod_nonneg x (show (2 : Int) ^ t ≠ 0 by omega)
      omega
    have e6 := Int.mul_le_mul_of_nonneg_left (show q + 1 ≤ 2 ^ (15 - t) by omega) (show (0 : Int) ≤ 2 * 2 ^ t by omega)
    rw [← e, Int.mul_add, Int.mul_one] at e6
    have : 2 ^ t * (2 * q) = 2 * 2 ^ t * q := by ac_rfl
    omega
  refine ⟨_, rfl, by omega, hle, ?_⟩
  rw [show 128 - (k + 1) = 127 - k from by omega]
  have e : (A * 65536 + (x + 2 ^ t)) * B + lo = (A * 65536 + x) * B + lo + 2 ^ t * B := by
    rw [← Int.add_assoc, Int.add_mul _ (2 ^ t) B]; omega
  rw [e, ← hY, hv, ← hPB, hP2]
  omega

/-- What stands at the head of a round of Last. -/
def LastRel (v n : Int) (x0 x1 x2 x3 x4 x5 x6 x7 : Int) (w : World) (i : Value) (W : World) : Prop :=
  ∃ (k : Nat) (y0 y1 y2 y3 y4 y5 y6 y7 : Int), n ≤ k ∧ k ≤ 128 ∧ i = .int .i64 k ∧ R8 y0 y1 y2 y3 y4 y5 y6 y7 ∧ V8 y0 y1 y2 y3 y4 y5 y6 y7 = v + (2 ^ (128 - n).toNat - 2 ^ (128 - k)) ∧ W = ((w.alloc (.cells #[.int .u16 x0, .int .u16 x1, .int .u16 x2, .int .u16 x3, .int .u16 x4, .int .u16 x5, .int .u16 x6, .int .u16 x7, .int .i64 n] 61)).alloc (.cells #[.int .u16 0, .int .u16 0, .int .u16 0, .int .u16 0, .int .u16 0, .int .u16 0, .int .u16 0, .int .u16 0] 30)).alloc (.cells #[.int .u16 y0, .int .u16 y1, .int .u16 y2, .int .u16 y3, .int .u16 y4, .int .u16 y5, .int .u16 y6, .int .u16 y7] 30)
theorem last_step_0 {v n : Int} {w : World} {k t : Nat} {x0 x1 x2 x3 x4 x5 x6 x7 y0 y1 y2 y3 y4 y5 y6 y7 : Int} (n0 : 0 ≤ n) (hk : k < 128) (h : n ≤ (k : Int)) (ht : 127 - k = t + 112) (ht2 : t ≤ 15) (hr : R8 y0 y1 y2 y3 y4 y5 y6 y7) (hz : v % 2 ^ (128 - n).toNat = 0) (hy : V8 y0 y1 y2 y3 y4 y5 y6 y7 = v + (2 ^ (128 - n).toNat - 2 ^ (128 - k))) :
    LastRel v n x0 x1 x2 x3 x4 x5 x6 x7 w (.int .i64 ((k : Int) + 1)) (((w.alloc (.cells #[.int .u16 x0, .int .u16 x1, .int .u16 x2, .int .u16 x3, .int .u16 x4, .int .u16 x5, .int .u16 x6, .int .u16 x7, .int .i64 n] 61)).alloc (.cells #[.int .u16 0, .int .u16 0, .int .u16 0, .int .u16 0, .int .u16 0, .int .u16 0, .int .u16 0, .int .u16 0] 30)).alloc (.cells #[.int .u16 (bits .or .u16 y0 (IntKind.u16.wrap (2 ^ t))), .int .u16 y1, .int .u16 y2, .int .u16 y3, .int .u16 y4, .int .u16 y5, .int .u16 y6, .int .u16 y7] 30)) := by
  have hR := hr
  obtain ⟨⟨_, _⟩, ⟨_, _⟩, ⟨_, _⟩, ⟨_, _⟩, ⟨_, _⟩, ⟨_, _⟩, ⟨_, _⟩, ⟨_, _⟩⟩ := hr
  obtain ⟨z, hz1, z0, z1, he⟩ := piece_or (A := 0) (x := y0) (lo := ((((((y1 * 65536 + y2) * 65536 + y3) * 65536 + y4) * 65536 + y5) * 65536 + y6) * 65536 + y7)) (B := 5192296858534827628530496329220096) (t := t) n0 h hk (by assumption) (by assumption) ht2 (by rw [show 127 - k - t = 112 from by omega]; rfl) (by omega) (by omega) (by omega) (show V8 y0 y1 y2 y3 y4 y5 y6 y7 = _ from by unfold V8; omega) hy hz
  refine ⟨k + 1, z, y1, y2, y3, y4, y5, y6, y7, by omega, by omega, by simp, ?_, ?_, by rw [hz1]⟩
  · constructor <;> omega
  · rw [← he]
    unfold V8
    omega
theorem last_step_1 {v n : Int} {w : World} {k t : Nat} {x0 x1 x2 x3 x4 x5 x6 x7 y0 y1 y2 y3 y4 y5 y6 y7 : Int} (n0 : 0 ≤ n) (hk : k < 128) (h : n ≤ (k : Int)) (ht : 127 - k = t + 96) (ht2 : t ≤ 15) (hr : R8 y0 y1 y2 y3 y4 y5 y6 y7) (hz : v % 2 ^ (128 - n).toNat = 0) (hy : V8 y0 y1 y2 y3 y4 y5 y6 y7 = v + (2 ^ (128 - n).toNat - 2 ^ (128 - k))) :
    LastRel v n x0 x1 x2 x3 x4 x5 x6 x7 w (.int .i64 ((k : Int) + 1)) (((w.alloc (.cells #[.int .u16 x0, .int .u16 x1, .int .u16 x2, .int .u16 x3, .int .u16 x4, .int .u16 x5, .int .u16 x6, .int .u16 x7, .int .i64 n] 61)).alloc (.cells #[.int .u16 0, .int .u16 0, .int .u16 0, .int .u16 0, .int .u16 0, .int .u16 0, .int .u16 0, .int .u16 0] 30)).alloc (.cells #[.int .u16 y0, .int .u16 (bits .or .u16 y1 (IntKind.u16.wrap (2 ^ t))), .int .u16 y2, .int .u16 y3, .int .u16 y4, .int .u16 y5, .int .u16 y6, .int .u16 y7] 30)) := by
  have hR := hr
  obtain ⟨⟨_, _⟩, ⟨_, _⟩, ⟨_, _⟩, ⟨_, _⟩, ⟨_, _⟩, ⟨_, _⟩, ⟨_, _⟩, ⟨_, _⟩⟩ := hr
  obtain ⟨z, hz1, z0, z1, he⟩ := piece_or (A := y0) (x := y1) (lo := (((((y2 * 65536 + y3) * 65536 + y4) * 65536 + y5) * 65536 + y6) * 65536 + y7)) (B := 79228162514264337593543950336) (t := t) n0 h hk (by assumption) (by assumption) ht2 (by rw [show 127 - k - t = 96 from by omega]; rfl) (by omega) (by omega) (by omega) (show V8 y0 y1 y2 y3 y4 y5 y6 y7 = _ from by unfold V8; omega) hy hz
  refine ⟨k + 1, y0, z, y2, y3, y4, y5, y6, y7, by omega, by omega, by simp, ?_, ?_, by rw [hz1]⟩
  · constructor <;> omega
  · rw [← he]
    unfold V8
    omega
theorem last_step_2 {v n : Int} {w : World} {k t : Nat} {x0 x1 x2 x3 x4 x5 x6 x7 y0 y1 y2 y3 y4 y5 y6 y7 : Int} (n0 : 0 ≤ n) (hk : k < 128) (h : n ≤ (k : Int)) (ht : 127 - k = t + 80) (ht2 : t ≤ 15) (hr : R8 y0 y1 y2 y3 y4 y5 y6 y7) (hz : v % 2 ^ (128 - n).toNat = 0) (hy : V8 y0 y1 y2 y3 y4 y5 y6 y7 = v + (2 ^ (128 - n).toNat - 2 ^ (128 - k))) :
    LastRel v n x0 x1 x2 x3 x4 x5 x6 x7 w (.int .i64 ((k : Int) + 1)) (((w.alloc (.cells #[.int .u16 x0, .int .u16 x1, .int .u16 x2, .int .u16 x3, .int .u16 x4, .int .u16 x5, .int .u16 x6, .int .u16 x7, .int .i64 n] 61)).alloc (.cells #[.int .u16 0, .int .u16 0, .int .u16 0, .int .u16 0, .int .u16 0, .int .u16 0, .int .u16 0, .int .u16 0] 30)).alloc (.cells #[.int .u16 y0, .int .u16 y1, .int .u16 (bits .or .u16 y2 (IntKind.u16.wrap (2 ^ t))), .int .u16 y3, .int .u16 y4, .int .u16 y5, .int .u16 y6, .int .u16 y7] 30)) := by
  have hR := hr
  obtain ⟨⟨_, _⟩, ⟨_, _⟩, ⟨_, _⟩, ⟨_, _⟩, ⟨_, _⟩, ⟨_, _⟩, ⟨_, _⟩, ⟨_, _⟩⟩ := hr
  obtain ⟨z, hz1, z0, z1, he⟩ := piece_or (A := (y0 * 65536 + y1)) (x := y2) (lo := ((((y3 * 65536 + y4) * 65536 + y5) * 65536 + y6) * 65536 + y7)) (B := 1208925819614629174706176) (t := t) n0 h hk (by assumption) (by assumption) ht2 (by rw [show 127 - k - t = 80 from by omega]; rfl) (by omega) (by omega) (by omega) (show V8 y0 y1 y2 y3 y4 y5 y6 y7 = _ from by unfold V8; omega) hy hz
  refine ⟨k + 1, y0, y1, z, y3, y4, y5, y6, y7, by omega, by omega, by simp, ?_, ?_, by rw [hz1]⟩
  · constructor <;> omega
  · rw [← he]
    unfold V8
    omega
theorem last_step_3 {v n : Int} {w : World} {k t : Nat} {x0 x1 x2 x3 x4 x5 x6 x7 y0 y1 y2 y3 y4 y5 y6 y7 : Int} (n0 : 0 ≤ n) (hk : k < 128) (h : n ≤ (k : Int)) (ht : 127 - k = t + 64) (ht2 : t ≤ 15) (hr : R8 y0 y1 y2 y3 y4 y5 y6 y7) (hz : v % 2 ^ (128 - n).toNat = 0) (hy : V8 y0 y1 y2 y3 y4 y5 y6 y7 = v + (2 ^ (128 - n).toNat - 2 ^ (128 - k))) :
    LastRel v n x0 x1 x2 x3 x4 x5 x6 x7 w (.int .i64 ((k : Int) + 1)) (((w.alloc (.cells #[.int .u16 x0, .int .u16 x1, .int .u16 x2, .int .u16 x3, .int .u16 x4, .int .u16 x5, .int .u16 x6, .int .u16 x7, .int .i64 n] 61)).alloc (.cells #[.int .u16 0, .int .u16 0, .int .u16 0, .int .u16 0, .int .u16 0, .int .u16 0, .int .u16 0, .int .u16 0] 30)).alloc (.cells #[.int .u16 y0, .int .u16 y1, .int .u16 y2, .int .u16 (bits .or .u16 y3 (IntKind.u16.wrap (2 ^ t))), .int .u16 y4, .int .u16 y5, .int .u16 y6, .int .u16 y7] 30)) := by
  have hR := hr
  obtain ⟨⟨_, _⟩, ⟨_, _⟩, ⟨_, _⟩, ⟨_, _⟩, ⟨_, _⟩, ⟨_, _⟩, ⟨_, _⟩, ⟨_, _⟩⟩ := hr
  obtain ⟨z, hz1, z0, z1, he⟩ := piece_or (A := ((y0 * 65536 + y1) * 65536 + y2)) (x := y3) (lo := (((y4 * 65536 + y5) * 65536 + y6) * 65536 + y7)) (B := 18446744073709551616) (t := t) n0 h hk (by assumption) (by assumption) ht2 (by rw [show 127 - k - t = 64 from by omega]; rfl) (by omega) (by omega) (by omega) (show V8 y0 y1 y2 y3 y4 y5 y6 y7 = _ from by unfold V8; omega) hy hz
  refine ⟨k + 1, y0, y1, y2, z, y4, y5, y6, y7, by omega, by omega, by simp, ?_, ?_, by rw [hz1]⟩
  · constructor <;> omega
  · rw [← he]
    unfold V8
    omega
theorem last_step_4 {v n : Int} {w : World} {k t : Nat} {x0 x1 x2 x3 x4 x5 x6 x7 y0 y1 y2 y3 y4 y5 y6 y7 : Int} (n0 : 0 ≤ n) (hk : k < 128) (h : n ≤ (k : Int)) (ht : 127 - k = t + 48) (ht2 : t ≤ 15) (hr : R8 y0 y1 y2 y3 y4 y5 y6 y7) (hz : v % 2 ^ (128 - n).toNat = 0) (hy : V8 y0 y1 y2 y3 y4 y5 y6 y7 = v + (2 ^ (128 - n).toNat - 2 ^ (128 - k))) :
    LastRel v n x0 x1 x2 x3 x4 x5 x6 x7 w (.int .i64 ((k : Int) + 1)) (((w.alloc (.cells #[.int .u16 x0, .int .u16 x1, .int .u16 x2, .int .u16 x3, .int .u16 x4, .int .u16 x5, .int .u16 x6, .int .u16 x7, .int .i64 n] 61)).alloc (.cells #[.int .u16 0, .int .u16 0, .int .u16 0, .int .u16 0, .int .u16 0, .int .u16 0, .int .u16 0, .int .u16 0] 30)).alloc (.cells #[.int .u16 y0, .int .u16 y1, .int .u16 y2, .int .u16 y3, .int .u16 (bits .or .u16 y4 (IntKind.u16.wrap (2 ^ t))), .int .u16 y5, .int .u16 y6, .int .u16 y7] 30)) := by
  have hR := hr
  obtain ⟨⟨_, _⟩, ⟨_, _⟩, ⟨_, _⟩, ⟨_, _⟩, ⟨_, _⟩, ⟨_, _⟩, ⟨_, _⟩, ⟨_, _⟩⟩ := hr
  obtain ⟨z, hz1, z0, z1, he⟩ := piece_or (A := (((y0 * 65536 + y1) * 65536 + y2) * 65536 + y3)) (x := y4) (lo := ((y5 * 65536 + y6) * 65536 + y7)) (B := 281474976710656) (t := t) n0 h hk (by assumption) (by assumption) ht2 (by rw [show 127 - k - t = 48 from by omega]; rfl) (by omega) (by omega) (by omega) (show V8 y0 y1 y2 y3 y4 y5 y6 y7 = _ from by unfold V8; omega) hy hz
  refine ⟨k + 1, y0, y1, y2, y3, z, y5, y6, y7, by omega, by omega, by simp, ?_, ?_, by rw [hz1]⟩
  · constructor <;> omega
  · rw [← he]
    unfold V8
    omega
theorem last_step_5 {v n : Int} {w : World} {k t : Nat} {x0 x1 x2 x3 x4 x5 x6 x7 y0 y1 y2 y3 y4 y5 y6 y7 : Int} (n0 : 0 ≤ n) (hk : k < 128) (h : n ≤ (k : Int)) (ht : 127 - k = t + 32) (ht2 : t ≤ 15) (hr : R8 y0 y1 y2 y3 y4 y5 y6 y7) (hz : v % 2 ^ (128 - n).toNat = 0) (hy : V8 y0 y1 y2 y3 y4 y5 y6 y7 = v + (2 ^ (128 - n).toNat - 2 ^ (128 - k))) :
    LastRel v n x0 x1 x2 x3 x4 x5 x6 x7 w (.int .i64 ((k : Int) + 1)) (((w.alloc (.cells #[.int .u16 x0, .int .u16 x1, .int .u16 x2, .int .u16 x3, .int .u16 x4, .int .u16 x5, .int .u16 x6, .int .u16 x7, .int .i64 n] 61)).alloc (.cells #[.int .u16 0, .int .u16 0, .int .u16 0, .int .u16 0, .int .u16 0, .int .u16 0, .int .u16 0, .int .u16 0] 30)).alloc (.cells #[.int .u16 y0, .int .u16 y1, .int .u16 y2, .int .u16 y3, .int .u16 y4, .int .u16 (bits .or .u16 y5 (IntKind.u16.wrap (2 ^ t))), .int .u16 y6, .int .u16 y7] 30)) := by
  have hR := hr
  obtain ⟨⟨_, _⟩, ⟨_, _⟩, ⟨_, _⟩, ⟨_, _⟩, ⟨_, _⟩, ⟨_, _⟩, ⟨_, _⟩, ⟨_, _⟩⟩ := hr
  obtain ⟨z, hz1, z0, z1, he⟩ := piece_or (A := ((((y0 * 65536 + y1) * 65536 + y2) * 65536 + y3) * 65536 + y4)) (x := y5) (lo := (y6 * 65536 + y7)) (B := 4294967296) (t := t) n0 h hk (by assumption) (by assumption) ht2 (by rw [show 127 - k - t = 32 from by omega]; rfl) (by omega) (by omega) (by omega) (show V8 y0 y1 y2 y3 y4 y5 y6 y7 = _ from by unfold V8; omega) hy hz
  refine ⟨k + 1, y0, y1, y2, y3, y4, z, y6, y7, by omega, by omega, by simp, ?_, ?_, by rw [hz1]⟩
  · constructor <;> omega
  · rw [← he]
    unfold V8
    omega
theorem last_step_6 {v n : Int} {w : World} {k t : Nat} {x0 x1 x2 x3 x4 x5 x6 x7 y0 y1 y2 y3 y4 y5 y6 y7 : Int} (n0 : 0 ≤ n) (hk : k < 128) (h : n ≤ (k : Int)) (ht : 127 - k = t + 16) (ht2 : t ≤ 15) (hr : R8 y0 y1 y2 y3 y4 y5 y6 y7) (hz : v % 2 ^ (128 - n).toNat = 0) (hy : V8 y0 y1 y2 y3 y4 y5 y6 y7 = v + (2 ^ (128 - n).toNat - 2 ^ (128 - k))) :
    LastRel v n x0 x1 x2 x3 x4 x5 x6 x7 w (.int .i64 ((k : Int) + 1)) (((w.alloc (.cells #[.int .u16 x0, .int .u16 x1, .int .u16 x2, .int .u16 x3, .int .u16 x4, .int .u16 x5, .int .u16 x6, .int .u16 x7, .int .i64 n] 61)).alloc (.cells #[.int .u16 0, .int .u16 0, .int .u16 0, .int .u16 0, .int .u16 0, .int .u16 0, .int .u16 0, .int .u16 0] 30)).alloc (.cells #[.int .u16 y0, .int .u16 y1, .int .u16 y2, .int .u16 y3, .int .u16 y4, .int .u16 y5, .int .u16 (bits .or .u16 y6 (IntKind.u16.wrap (2 ^ t))), .int .u16 y7] 30)) := by
  have hR := hr
  obtain ⟨⟨_, _⟩, ⟨_, _⟩, ⟨_, _⟩, ⟨_, _⟩, ⟨_, _⟩, ⟨_, _⟩, ⟨_, _⟩, ⟨_, _⟩⟩ := hr
  obtain ⟨z, hz1, z0, z1, he⟩ := piece_or (A := (((((y0 * 65536 + y1) * 65536 + y2) * 65536 + y3) * 65536 + y4) * 65536 + y5)) (x := y6) (lo := y7) (B := 65536) (t := t) n0 h hk (by assumption) (by assumption) ht2 (by rw [show 127 - k - t = 16 from by omega]; rfl) (by omega) (by omega) (by omega) (show V8 y0 y1 y2 y3 y4 y5 y6 y7 = _ from by unfold V8; omega) hy hz
  refine ⟨k + 1, y0, y1, y2, y3, y4, y5, z, y7, by omega, by omega, by simp, ?_, ?_, by rw [hz1]⟩
  · constructor <;> omega
  · rw [← he]
    unfold V8
    omega
theorem last_step_7 {v n : Int} {w : World} {k t : Nat} {x0 x1 x2 x3 x4 x5 x6 x7 y0 y1 y2 y3 y4 y5 y6 y7 : Int} (n0 : 0 ≤ n) (hk : k < 128) (h : n ≤ (k : Int)) (ht : 127 - k = t + 0) (ht2 : t ≤ 15) (hr : R8 y0 y1 y2 y3 y4 y5 y6 y7) (hz : v % 2 ^ (128 - n).toNat = 0) (hy : V8 y0 y1 y2 y3 y4 y5 y6 y7 = v + (2 ^ (128 - n).toNat - 2 ^ (128 - k))) :
    LastRel v n x0 x1 x2 x3 x4 x5 x6 x7 w (.int .i64 ((k : Int) + 1)) (((w.alloc (.cells #[.int .u16 x0, .int .u16 x1, .int .u16 x2, .int .u16 x3, .int .u16 x4, .int .u16 x5, .int .u16 x6, .int .u16 x7, .int .i64 n] 61)).alloc (.cells #[.int .u16 0, .int .u16 0, .int .u16 0, .int .u16 0, .int .u16 0, .int .u16 0, .int .u16 0, .int .u16 0] 30)).alloc (.cells #[.int .u16 y0, .int .u16 y1, .int .u16 y2, .int .u16 y3, .int .u16 y4, .int .u16 y5, .int .u16 y6, .int .u16 (bits .or .u16 y7 (IntKind.u16.wrap (2 ^ t)))] 30)) := by
  have hR := hr
  obtain ⟨⟨_, _⟩, ⟨_, _⟩, ⟨_, _⟩, ⟨_, _⟩, ⟨_, _⟩, ⟨_, _⟩, ⟨_, _⟩, ⟨_, _⟩⟩ := hr
  obtain ⟨z, hz1, z0, z1, he⟩ := piece_or (A := ((((((y0 * 65536 + y1) * 65536 + y2) * 65536 + y3) * 65536 + y4) * 65536 + y5) * 65536 + y6)) (x := y7) (lo := 0) (B := 1) (t := t) n0 h hk (by assumption) (by assumption) ht2 (by rw [show 127 - k - t = 0 from by omega]; rfl) (by omega) (by omega) (by omega) (show V8 y0 y1 y2 y3 y4 y5 y6 y7 = _ from by unfold V8; omega) hy hz
  refine ⟨k + 1, y0, y1, y2, y3, y4, y5, y6, z, by omega, by omega, by simp, ?_, ?_, by rw [hz1]⟩
  · constructor <;> omega
  · rw [← he]
    unfold V8
    omega

theorem last_meas {k : Nat} (h : k < 128) : 128 - (intOf (.int .i64 ((k : Int) + 1))).toNat < 128 - (intOf (.int .i64 (k : Int))).toNat := by simp [intOf]; omega
set_option maxHeartbeats 1000000 in
set_option maxRecDepth 100000 in
theorem refLast_walk (x0 x1 x2 x3 x4 x5 x6 x7 : Int) (h : R8 x0 x1 x2 x3 x4 x5 x6 x7) (n : Int) (n0 : 0 ≤ n) (n1 : n ≤ 128) (hz : V8 x0 x1 x2 x3 x4 x5 x6 x7 % 2 ^ (128 - n).toNat = 0) (w : World) :
    Calls Tryd.prog 40 #[.agg #[.int .u16 x0, .int .u16 x1, .int .u16 x2, .int .u16 x3, .int .u16 x4, .int .u16 x5, .int .u16 x6, .int .u16 x7, .int .i64 n]] w fun e w' => ∃ y0 y1 y2 y3 y4 y5 y6 y7 : Int, e = .returned (A8 y0 y1 y2 y3 y4 y5 y6 y7) ∧ R8 y0 y1 y2 y3 y4 y5 y6 y7 ∧ V8 y0 y1 y2 y3 y4 y5 y6 y7 = V8 x0 x1 x2 x3 x4 x5 x6 x7 + 2 ^ (128 - n).toNat - 1 ∧ Below w.heap.size w w' := by
  obtain ⟨v, hv⟩ : ∃ v, v = V8 x0 x1 x2 x3 x4 x5 x6 x7 := ⟨_, rfl⟩
  rw [← hv] at hz ⊢
  obtain ⟨m, rfl⟩ := Int.eq_ofNat_of_zero_le n0
  go_enter Tryd.func40, Tryd.ntmps40
  go_wp2_with fail
  go_loopw [4] (fun i W => LastRel v m x0 x1 x2 x3 x4 x5 x6 x7 w i W) (fun i _ => 128 - (intOf i).toNat)
  case atStart => exact ⟨m, x0, x1, x2, x3, x4, x5, x6, x7, by omega, by omega, rfl, h, by rw [← hv, show (128 - (m : Int)).toNat = 128 - m from by omega]; omega, rfl⟩
  case round =>
    obtain ⟨k, y0, y1, y2, y3, y4, y5, y6, y7, hn, hk, rfl, hr, hy, rfl⟩ := hrel
    have HY := Lib.hid hy
    have HV := Lib.hid hv
    have HR := Lib.hid hr
    have HZ := Lib.hid hz
    clear hy hv hr h hz
    by_cases hlt : k < 128
    · have hj : k / 16 = 0 ∨ k / 16 = 1 ∨ k / 16 = 2 ∨ k / 16 = 3 ∨ k / 16 = 4 ∨ k / 16 = 5 ∨ k / 16 = 6 ∨ k / 16 = 7 := by omega
      rcases hj with hj | hj | hj | hj | hj | hj | hj | hj
      · have hq : (k : Int) / 16 = 0 := by omega
        go_wp2
        exact ⟨last_step_0 n0 hlt hn (by omega) (by omega) HR.out HZ.out HY.out, last_meas hlt⟩
      · have hq : (k : Int) / 16 = 1 := by omega
        go_wp2
        exact ⟨last_step_1 n0 hlt hn (by omega) (by omega) HR.out HZ.out HY.out, last_meas hlt⟩
      · have hq : (k : Int) / 16 = 2 := by omega
        go_wp2
        exact ⟨last_step_2 n0 hlt hn (by omega) (by omega) HR.out HZ.out HY.out, last_meas hlt⟩
      · have hq : (k : Int) / 16 = 3 := by omega
        go_wp2
        exact ⟨last_step_3 n0 hlt hn (by omega) (by omega) HR.out HZ.out HY.out, last_meas hlt⟩
      · have hq : (k : Int) / 16 = 4 := by omega
        go_wp2
        exact ⟨last_step_4 n0 hlt hn (by omega) (by omega) HR.out HZ.out HY.out, last_meas hlt⟩
      · have hq : (k : Int) / 16 = 5 := by omega
        go_wp2
        exact ⟨last_step_5 n0 hlt hn (by omega) (by omega) HR.out HZ.out HY.out, last_meas hlt⟩
      · have hq : (k : Int) / 16 = 6 := by omega
        go_wp2
        exact ⟨last_step_6 n0 hlt hn (by omega) (by omega) HR.out HZ.out HY.out, last_meas hlt⟩
      · have hq : (k : Int) / 16 = 7 := by omega
        go_wp2
        exact ⟨last_step_7 n0 hlt hn (by omega) (by omega) HR.out HZ.out HY.out, last_meas hlt⟩
    · obtain rfl : k = 128 := by omega
      go_wp2
      go_returns
      refine ⟨_, _, _, _, _, _, _, _, rfl, HR.out, ?_, by go_grown⟩
      rw [HY.out]
      simp
      omega
end Go.Proofs.YtcgdjnmfeibnoaaDoor
