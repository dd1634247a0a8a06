/- The last address of a prefix; how many of the lowest bits are 0. -/
import Derived.Test.YtcgdjnmfeibnoaaDoorSixWide
import Derived.Shelf.Spec.TrailingZeros
namespace Go.Proofs.YtcgdjnmfeibnoaaDoor
open Go.RowKit
set_option linter.unusedVariables false
set_option linter.unusedSimpArgs false

set_option maxHeartbeats 1000000 in
set_option maxRecDepth 100000 in
theorem tz64_core (x k idx : Nat) (w : World) (hx0 : ((x : Int) == 0) = false)
    (key : IntKind.u64.wrap (bits BinOp.and IntKind.u64 (x : Int) (IntKind.u64.wrap (-(x : Int))) * 285870213051353865) / 288230376151711744 = (idx : Int))
    (hi : idx < 64) (hk : k < 64) (hcell : w.cell? ⟨0, idx, none⟩ = some (.int .u8 k)) :
    Calls Tryd.prog 116 #[.int .u64 x] w fun e w' => e = .returned (.int .i64 k) ∧ w' = w := by
  go_enter Tryd.func116, Tryd.ntmps116
  go_wp2_with (simp only [key])
  go_returns
  exact ⟨rfl, rfl⟩
set_option maxRecDepth 100000 in
theorem tz64_zero (w : World) :
    Calls Tryd.prog 116 #[.int .u64 0] w fun e w' => e = .returned (.int .i64 64) ∧ w' = w := by
  go_enter Tryd.func116, Tryd.ntmps116
  go_wp2
  go_returns
  exact ⟨rfl, rfl⟩
/-- The library's table stands as it was laid. -/
def Tab (w : World) : Prop := TabAt 0 Lib.deBruijn64tab w
theorem Tab.keep {w W : World} {B : Nat} (h : Tab w) (hg : 0 < B) (hb : Below B w W) : Tab W := fun j hj => (hb.cell (p := ⟨0, j, none⟩) hg).trans (h j hj)
theorem tz64_walk (x : Nat) (hx : x < 18446744073709551616) (w : World) (hT : Tab w) :
    Calls Tryd.prog 116 #[.int .u64 x] w fun e w' => e = .returned (.int .i64 (Lib.ctz 64 x)) ∧ w' = w := by
  by_cases hx0 : x = 0
  · subst hx0
    exact tz64_zero w
  · obtain ⟨hlow, hk⟩ := Lib.lowest_bit 64 x hx0 hx
    obtain ⟨hi, htab⟩ := Lib.deBruijn64_at _ hk
    have hcell := hT _ hi
    rw [htab] at hcell
    exact tz64_core x _ _ w (by simp; omega) (tz64_key x _ hx hx0 hlow) hi hk hcell

/-- The lowest bits that are 0. -/
structure Zeros (n z : Int) : Prop where
  lo : 0 ≤ z
  hi : z ≤ 128
  zero : n % 2 ^ z.toNat = 0
  more : z < 128 → n % 2 ^ (z + 1).toNat ≠ 0

theorem ctz_zeros {x : Nat} (h0 : x ≠ 0) (h : x < 18446744073709551616) : Lib.ctz 64 x < 64 ∧ (x : Int) % 2 ^ (Lib.ctz 64 x) = 0 ∧ (x : Int) % 2 ^ (Lib.ctz 64 x + 1) ≠ 0 := by
  obtain ⟨m, he, hl⟩ := Lib.ctzFrom_spec 64 x (by omega) h
  have e : Lib.ctz 64 x = Lib.ctzFrom 64 x := if_neg h0
  rw [e]
  generalize Lib.ctzFrom 64 x = k at *
  subst he
  have hp := pow_pos2 k
  have e1 : (((2 ^ k * (2 * m + 1) : Nat)) : Int) = 2 ^ k * (2 * m + 1) := by simp
  refine ⟨hl, ?_, ?_⟩
  · rw [e1]; exact Int.mul_emod_right _ _
  · rw [e1, Int.pow_succ, Int.mul_emod_mul_of_pos _ _ hp]
    intro hz
    have h3 : ((2 * (m : Int) + 1) % 2) = 1 := by omega
    rw [h3] at hz
    omega

theorem n2_mod_low {h l : Int} {t : Nat} (ht : t ≤ 64) : N2 h l % 2 ^ t = l % 2 ^ t := by
  unfold N2
  have : (18446744073709551616 : Int) = 2 ^ t * 2 ^ (64 - t) := by
    rw [← Int.pow_add, show t + (64 - t) = 64 from by omega]; rfl
  rw [this, show h * (2 ^ t * 2 ^ (64 - t)) = 2 ^ t * (h * 2 ^ (64 - t)) from by ac_rfl, Int.mul_add_emod_self_left]
theorem n2_mod_high {h l : Int} {t : Nat} (hl : Word l) : N2 h l % 2 ^ (64 + t) = N2 (h % 2 ^ t) l := by
  obtain ⟨l0, l1⟩ := hl
  have hp := pow_pos2 t
  unfold N2
  have e1 : (2 : Int) ^ (64 + t) = 2 ^ t * 18446744073709551616 := by rw [Nat.add_comm, Int.pow_add]; rfl
  have e2 := Int.mul_ediv_add_emod h (2 ^ t)
  have h3 := Int.emod_nonneg h (show (2 : Int) ^ t ≠ 0 by omega)
  have h4 := Int.emod_lt_of_pos h hp
  have e : h * 18446744073709551616 + l = (h % 2 ^ t * 18446744073709551616 + l) + 2 ^ t * 18446744073709551616 * (h / 2 ^ t) := by
    have : h * 18446744073709551616 = (2 ^ t * (h / 2 ^ t) + h % 2 ^ t) * 18446744073709551616 := by rw [e2]
    rw [this, Int.add_mul]
    have : 2 ^ t * (h / 2 ^ t) * 18446744073709551616 = 2 ^ t * 18446744073709551616 * (h / 2 ^ t) := by ac_rfl
    omega
  rw [e1, e, Int.add_mul_emod_self_left]
  apply Int.emod_eq_of_lt
  · omega
  · have : h % 2 ^ t + 1 ≤ 2 ^ t := by omega
    have := Int.mul_le_mul_of_nonneg_right this (show (0 : Int) ≤ 18446744073709551616 by decide)
    rw [Int.add_mul] at this
    omega

set_option maxHeartbeats 1000000 in
set_option maxRecDepth 100000 in
theorem zeros_walk (h l : Int) (hh : Word h) (hl : Word l) (w : World) (hg : 0 < w.heap.size) (hT : Tab w) :
    Calls Tryd.prog 83 #[W2 h l] w fun e w' => ∃ z : Int, e = .returned (.int .i64 z) ∧ Zeros (N2 h l) z ∧ Below w.heap.size w w' := by
  have hh' := hh
  have hl' := hl
  obtain ⟨a0, a1⟩ := hh
  obtain ⟨b0, b1⟩ := hl
  obtain ⟨a, rfl⟩ := Int.eq_ofNat_of_zero_le a0
  obtain ⟨b, rfl⟩ := Int.eq_ofNat_of_zero_le b0
  have hT2 : Tab (w.alloc (.cells #[.int .u64 a, .int .u64 b] 74)) := hT.keep hg ((Below.refl _ w).alloc (Nat.le_refl _) _)
  by_cases hb : b = 0
  · subst hb
    go_enter Tryd.func83, Tryd.ntmps83
    go_wp2_with fail
    have hcle : Lib.ctz 64 a ≤ 64 := by
      by_cases ha : a = 0
      · subst ha; decide
      · have := (ctz_zeros ha (by omega)).1; omega
    have hspec : a ≠ 0 → Lib.ctz 64 a < 64 ∧ (a : Int) % 2 ^ (Lib.ctz 64 a) = 0 ∧ (a : Int) % 2 ^ (Lib.ctz 64 a + 1) ≠ 0 := fun ha => ctz_zeros ha (by omega)
    have hzero : a = 0 → Lib.ctz 64 a = 64 := fun ha => by subst ha; rfl
    refine (tz64_walk a (by omega) _ hT2).mono ?_
    rintro e w1 ⟨rfl, rfl⟩
    generalize Lib.ctz 64 a = c at *
    have HS := Lib.hid hspec
    have HZ := Lib.hid hzero
    clear hspec hzero
    go_wp2_with fail
    go_returns
    refine ⟨_, rfl, ?_, by go_grown⟩
    have hW0 : Word 0 := ⟨by decide, by decide⟩
    by_cases ha : a = 0
    · obtain rfl := HZ.out ha
      subst ha
      exact ⟨by decide, by decide, by decide, fun h => absurd h (by decide)⟩
    · obtain ⟨c1, c2, c3⟩ := HS.out ha
      refine ⟨by omega, by omega, ?_, fun _ => ?_⟩
      · rw [show (64 + (c : Int)).toNat = 64 + c from by omega]
        have := n2_mod_high (h := (a : Int)) (t := c) hW0
        rw [show (((0 : Nat) : Int)) = 0 from rfl, this, c2]
        rfl
      · rw [show (64 + (c : Int) + 1).toNat = 64 + (c + 1) from by omega]
        have := n2_mod_high (h := (a : Int)) (t := c + 1) hW0
        rw [show (((0 : Nat) : Int)) = 0 from rfl, this]
        unfold N2
        omega
  · have hb' : ((b : Int) != 0) = true := by simp; omega
    go_enter Tryd.func83, Tryd.ntmps83
    go_wp2_with fail
    refine (tz64_walk b (by omega) _ hT2).mono ?_
    rintro e w1 ⟨rfl, rfl⟩
    go_wp2_with fail
    go_returns
    obtain ⟨c1, c2, c3⟩ := ctz_zeros hb (by omega)
    refine ⟨_, rfl, ⟨by omega, by omega, ?_, fun _ => ?_⟩, by go_grown⟩
    · rw [Int.toNat_natCast, n2_mod_low (by omega)]; exact c2
    · rw [show ((Lib.ctz 64 b : Int) + 1).toNat = Lib.ctz 64 b + 1 from by omega, n2_mod_low (by omega)]; exact c3

theorem pow_lt64 {t : Nat} (h : t < 64) : (2 : Int) ^ t ≤ 9223372036854775808 := by
  have := Nat.pow_le_pow_right (n := 2) (by omega) (show t ≤ 63 by omega)
  have h : ((2 ^ t : Nat) : Int) ≤ ((2 ^ 63 : Nat) : Int) := by exact_mod_cast this
  simpa using h
theorem or_tail (x : Int) (t : Nat) (hx : Word x) (ht : t ≤ 64) (hz : x % 2 ^ t = 0) : bits .or .u64 x (2 ^ t - 1) = x + (2 ^ t - 1) := by
  obtain ⟨x0, x1⟩ := hx
  have hp := pow_pos2 t
  have hl : (2 : Int) ^ t ≤ 18446744073709551616 := by
    have := Nat.pow_le_pow_right (n := 2) (by omega) ht
    have h : ((2 ^ t : Nat) : Int) ≤ ((2 ^ 64 : Nat) : Int) := by exact_mod_cast this
    simpa using h
  obtain ⟨a, rfl⟩ := Int.eq_ofNat_of_zero_le x0
  have e : (2 : Int) ^ t = ((2 ^ t : Nat) : Int) := by simp
  rw [e] at hz hl hp ⊢
  have hz' : a % 2 ^ t = 0 := by exact_mod_cast hz
  rw [u64_or _ _ x0 x1 (by omega) (by omega), show (((2 ^ t : Nat) : Int) - 1).toNat = 2 ^ t - 1 from by omega, Int.toNat_natCast, nat_or_add t _ _ hz' (by omega)]
  omega

theorem wrap_tail {t : Nat} (ht : t ≤ 64) : IntKind.u64.wrap (IntKind.u64.wrap (2 ^ t) - 1) = 2 ^ t - 1 := by
  have hp := pow_pos2 t
  rw [IntKind.wrap_u64, IntKind.wrap_u64]
  by_cases h : t = 64
  · subst h; decide
  · have := pow_lt64 (t := t) (by omega)
    omega
/-- The lowest n bits set. -/
def TailPost (n : Int) (w : World) (e : Ending) (w' : World) : Prop :=
  e = .returned (if 64 ≤ n then W2 (2 ^ (n - 64).toNat - 1) 18446744073709551615 else W2 0 (2 ^ n.toNat - 1)) ∧ Below w.heap.size w w'
set_option maxHeartbeats 1000000 in
set_option maxRecDepth 100000 in
theorem tail_walk (n : Int) (n0 : 0 ≤ n) (n1 : n ≤ 128) (w : World) : Calls Tryd.prog 101 #[.int .i64 n] w (TailPost n w) := by
  by_cases h : 64 ≤ n
  · unfold TailPost
    rw [if_pos h]
    go_enter Tryd.func101, Tryd.ntmps101
    go_wp2
    go_returns
    refine ⟨ret_two (wrap_tail (by omega)) rfl, by go_grown⟩
  · unfold TailPost
    rw [if_neg h]
    go_enter Tryd.func101, Tryd.ntmps101
    go_wp2
    go_returns
    refine ⟨ret_two rfl (wrap_tail (by omega)), by go_grown⟩

/-- What last answers: the last of the addresses of a prefix. -/
def LastPost (v n : Int) (w : World) (e : Ending) (w' : World) : Prop :=
  ∃ k m : Int, e = .returned (W2 k m) ∧ Word k ∧ Word m ∧ N2 k m = v + 2 ^ (128 - n).toNat - 1 ∧ Below w.heap.size w w'
theorem n2_zero {h l : Int} {t : Nat} (hl : Word l) (hz : N2 (h % 2 ^ t) l = 0) : h % 2 ^ t = 0 ∧ l = 0 := by
  obtain ⟨l0, l1⟩ := hl
  have hp := pow_pos2 t
  have h3 := Int.emod_nonneg h (show (2 : Int) ^ t ≠ 0 by omega)
  unfold N2 at hz
  omega
theorem tail_room {x : Int} {t : Nat} (hx : Word x) (ht : t ≤ 64) (hz : x % 2 ^ t = 0) : x + 2 ^ t ≤ 18446744073709551616 ∧ Word (x + (2 ^ t - 1)) := by
  obtain ⟨x0, x1⟩ := hx
  have hp := pow_pos2 t
  have hq := pow_pos2 (64 - t)
  have e : (18446744073709551616 : Int) = 2 ^ t * 2 ^ (64 - t) := by
    rw [← Int.pow_add, show t + (64 - t) = 64 from by omega]; rfl
  have e2 := Int.mul_ediv_add_emod x (2 ^ t)
  rw [hz, Int.add_zero] at e2
  have e3 : x / 2 ^ t < 2 ^ (64 - t) := by
    apply Int.lt_of_mul_lt_mul_left (a := 2 ^ t) _ (Int.le_of_lt hp)
    rw [e2, ← e]; exact x1
  have e4 := Int.mul_le_mul_of_nonneg_left (show x / 2 ^ t + 1 ≤ 2 ^ (64 - t) by omega) (Int.le_of_lt hp)
  rw [Int.mul_add, e2, ← e, Int.mul_one] at e4
  exact ⟨e4, by omega, by omega⟩
theorem or_all : bits .or .u64 0 18446744073709551615 = 18446744073709551615 := by decide
theorem or_none (x : Int) (hx : Word x) : bits .or .u64 x 0 = x := by
  have := or_tail x 0 hx (by omega) (by simp)
  simpa using this

theorem two_at0 {w : World} {b : Nat} {x y : Value} (h0 : w.cell? ⟨b, 0, none⟩ = some x) (h1 : w.cell? ⟨b, 1, none⟩ = some y) (hb : b < w.heap.size) (u v : Value) (o : Obj) :
    (((w.setCell ⟨b, 0, none⟩ u).setCell ⟨b, 1, none⟩ v).alloc o).cell? ⟨b, 0, none⟩ = some u := by
  have hB : Below (w.setCell ⟨b, 0, none⟩ u |>.setCell ⟨b, 1, none⟩ v).heap.size (w.setCell ⟨b, 0, none⟩ u |>.setCell ⟨b, 1, none⟩ v) (((w.setCell ⟨b, 0, none⟩ u).setCell ⟨b, 1, none⟩ v).alloc o) := (Below.refl _ _).alloc (Nat.le_refl _) _
  rw [hB.cell (p := ⟨b, 0, none⟩) (by simp only [World.size_setCell]; exact hb), World.cell?_setCell_other _ _ _ _ (by simp), World.cell?_setCell_same _ _ _ h0]
theorem two_at1 {w : World} {b : Nat} {x y : Value} (h0 : w.cell? ⟨b, 0, none⟩ = some x) (h1 : w.cell? ⟨b, 1, none⟩ = some y) (hb : b < w.heap.size) (u v : Value) (o : Obj) :
    (((w.setCell ⟨b, 0, none⟩ u).setCell ⟨b, 1, none⟩ v).alloc o).cell? ⟨b, 1, none⟩ = some v := by
  have hB : Below (w.setCell ⟨b, 0, none⟩ u |>.setCell ⟨b, 1, none⟩ v).heap.size (w.setCell ⟨b, 0, none⟩ u |>.setCell ⟨b, 1, none⟩ v) (((w.setCell ⟨b, 0, none⟩ u).setCell ⟨b, 1, none⟩ v).alloc o) := (Below.refl _ _).alloc (Nat.le_refl _) _
  rw [hB.cell (p := ⟨b, 1, none⟩) (by simp only [World.size_setCell]; exact hb)]
  exact World.cell?_setCell_same (u := y) _ _ _ ((World.cell?_setCell_other _ _ _ _ (by simp)).trans h1)

set_option maxHeartbeats 1000000 in
set_option maxRecDepth 100000 in
theorem wlast_walk (h l n : Int) (hh : Word h) (hl : Word l) (n0 : 0 ≤ n) (n1 : n ≤ 128) (hz : N2 h l % 2 ^ (128 - n).toNat = 0) (w : World) :
    Calls Tryd.prog 58 #[W2 h l, .int .i64 n] w (LastPost (N2 h l) n w) := by
  have hT := tail_walk (128 - n) (by omega) (by omega)
  by_cases h64 : 64 ≤ 128 - n
  · unfold TailPost at hT
    rw [if_pos h64] at hT
    have HT := Lib.hid hT
    clear hT
    go_enter Tryd.func58, Tryd.ntmps58
    go_wp2_with fail
    refine (HT.out _).mono ?_
    rintro e w1 ⟨rfl, hb⟩
    have B1 : Below w.heap.size w w1 := chain (by go_grown) hb
    obtain ⟨hc, hf, hs⟩ := after hb
    simp only [World.size_alloc] at hs
    have l0 : w.heap.size < w1.heap.size := by omega
    have l1 : w.heap.size + 1 < w1.heap.size := by omega
    have z0 : w1.cell? ⟨w.heap.size + 1, 0, none⟩ = some (.int .u64 0) := (hc _ _ (by simp only [World.size_alloc]; omega)).trans (by go_simp)
    have z1 : w1.cell? ⟨w.heap.size + 1, 1, none⟩ = some (.int .u64 0) := (hc _ _ (by simp only [World.size_alloc]; omega)).trans (by go_simp)
    clear hs hb
    go_wp2_with fail
    refine bodyPost_ret (by simp [results, Tryd.results58, go_sem, two_at0 z0 z1 l1, two_at1 z0 z1 l1]; try rfl) rfl ?_
    have ht : (128 - n).toNat = 64 + (128 - n - 64).toNat := by omega
    rw [ht] at hz
    unfold LastPost
    rw [ht]
    generalize (128 - n - 64).toNat = t at *
    have ht2 : t ≤ 64 := by omega
    obtain ⟨e1, e2⟩ := n2_zero hl (by rw [← n2_mod_high hl]; exact hz)
    subst e2
    obtain ⟨q1, q2⟩ := tail_room hh ht2 e1
    refine ⟨_, _, rfl, ?_, ?_, ?_, by go_grown⟩
    · rw [or_tail h t hh ht2 e1]; exact q2
    · rw [or_all]; exact ⟨by decide, by decide⟩
    · rw [or_tail h t hh ht2 e1, or_all, Int.pow_add]
      unfold N2
      rw [show (2 : Int) ^ 64 = 18446744073709551616 from by decide]
      omega
  · unfold TailPost at hT
    rw [if_neg h64] at hT
    have HT := Lib.hid hT
    clear hT
    go_enter Tryd.func58, Tryd.ntmps58
    go_wp2_with fail
    refine (HT.out _).mono ?_
    rintro e w1 ⟨rfl, hb⟩
    have B1 : Below w.heap.size w w1 := chain (by go_grown) hb
    obtain ⟨hc, hf, hs⟩ := after hb
    simp only [World.size_alloc] at hs
    have l0 : w.heap.size < w1.heap.size := by omega
    have l1 : w.heap.size + 1 < w1.heap.size := by omega
    have z0 : w1.cell? ⟨w.heap.size + 1, 0, none⟩ = some (.int .u64 0) := (hc _ _ (by simp only [World.size_alloc]; omega)).trans (by go_simp)
    have z1 : w1.cell? ⟨w.heap.size + 1, 1, none⟩ = some (.int .u64 0) := (hc _ _ (by simp only [World.size_alloc]; omega)).trans (by go_simp)
    clear hs hb
    go_wp2_with fail
    refine bodyPost_ret (by simp [results, Tryd.results58, go_sem, two_at0 z0 z1 l1, two_at1 z0 z1 l1]; try rfl) rfl ?_
    have ht : (128 - n).toNat ≤ 64 := by omega
    unfold LastPost
    generalize (128 - n).toNat = t at *
    have e1 : l % 2 ^ t = 0 := by rw [← n2_mod_low (h := h) ht]; exact hz
    obtain ⟨q1, q2⟩ := tail_room hl ht e1
    refine ⟨_, _, rfl, ?_, ?_, ?_, by go_grown⟩
    · rw [or_none h hh]; exact hh
    · rw [or_tail l t hl ht e1]; exact q2
    · rw [or_none h hh, or_tail l t hl ht e1]
      unfold N2
      omega
end Go.Proofs.YtcgdjnmfeibnoaaDoor
