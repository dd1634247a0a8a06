/- What FromFour, low and Four answer: an address of 32 bits in the low pieces. -/
import Derived.Test.YtcgdjnmfeibnoaaSixBits
import Derived.Lib.Hide
namespace Go.Proofs.Ytcgdjnmfeibnoaa
open Go.RowKit
set_option linter.unusedVariables false
set_option linter.unusedSimpArgs false

theorem or16 (x y : Int) (h0 : 0 ≤ x) (h1 : x ≤ 65535) (k0 : 0 ≤ y) (k1 : y ≤ 65535) : bits .or .u32 (x % 4294967296 * 65536 % 4294967296) (y % 4294967296) = x * 65536 + y := by
  have e1 : x % 4294967296 * 65536 % 4294967296 = x * 65536 := by omega
  have e2 : y % 4294967296 = y := by omega
  rw [e1, e2, u32_or _ _ (by omega) (by omega) (by omega) (by omega)]
  obtain ⟨a, rfl⟩ := Int.eq_ofNat_of_zero_le h0
  obtain ⟨b, rfl⟩ := Int.eq_ofNat_of_zero_le k0
  rw [show ((a : Int) * 65536).toNat = a * 65536 from by omega, Int.toNat_natCast, nat_join16 _ _ (by omega) (by omega)]
  omega

theorem ret_eight {x0 x1 x2 x3 x4 x5 x6 x7 y0 y1 y2 y3 y4 y5 y6 y7 : Int} (h0 : x0 = y0) (h1 : x1 = y1) (h2 : x2 = y2) (h3 : x3 = y3) (h4 : x4 = y4) (h5 : x5 = y5) (h6 : x6 = y6) (h7 : x7 = y7) :
    Ending.returned (A8 x0 x1 x2 x3 x4 x5 x6 x7) = .returned (A8 y0 y1 y2 y3 y4 y5 y6 y7) := by subst h0 h1 h2 h3 h4 h5 h6 h7; rfl

set_option maxHeartbeats 1000000 in
set_option maxRecDepth 100000 in
theorem fromFour_walk (u : Int) (u0 : 0 ≤ u) (u1 : u ≤ 4294967295) (w : World) :
    Calls Try.prog 15 #[.int .u32 u] w fun e w' => e = .returned (A8 0 0 0 0 0 65535 (u / 65536) (u % 65536)) ∧ Below w.heap.size w w' := by
  go_enter Try.func15, Try.ntmps15
  go_wp2
  go_returns
  refine ⟨ret_eight rfl rfl rfl rfl rfl rfl ?_ ?_, by go_grown⟩
  all_goals go_tidy
  all_goals (try simp only [IntKind.wrap_u16, IntKind.wrap_u32])
  all_goals omega

set_option maxHeartbeats 1000000 in
set_option maxRecDepth 100000 in
theorem refFromFour_walk (u : Int) (u0 : 0 ≤ u) (u1 : u ≤ 4294967295) (w : World) :
    Calls Try.prog 16 #[.int .u32 u] w fun e w' => e = .returned (A8 0 0 0 0 0 65535 (u / 65536) (u % 65536)) ∧ Below w.heap.size w w' := by
  go_enter Try.func16, Try.ntmps16
  go_wp2
  go_returns
  refine ⟨ret_eight rfl rfl rfl rfl rfl rfl ?_ ?_, by go_grown⟩
  all_goals go_tidy
  all_goals (try simp only [IntKind.wrap_u16, IntKind.wrap_u32])
  all_goals omega
set_option maxHeartbeats 1000000 in
set_option maxRecDepth 100000 in
theorem low_walk (x0 x1 x2 x3 x4 x5 x6 x7 : Int) (h : R8 x0 x1 x2 x3 x4 x5 x6 x7) (w : World) :
    Calls Try.prog 19 #[A8 x0 x1 x2 x3 x4 x5 x6 x7] w fun e w' => e = .returned (.int .u32 (x6 * 65536 + x7)) ∧ Below w.heap.size w w' := by
  go_enter Try.func19, Try.ntmps19
  go_wp2
  go_returns
  refine ⟨ret_int (or16 x6 x7 h.h6.1 h.h6.2 h.h7.1 h.h7.2), by go_grown⟩

/-- What Four answers. -/
def isFour (x0 x1 x2 x3 x4 x5 : Int) : Bool := decide (x0 = 0 ∧ x1 = 0 ∧ x2 = 0 ∧ x3 = 0 ∧ x4 = 0 ∧ x5 = 65535)
theorem six_ok {x6 x7 : Int} (h6 : 0 ≤ x6 ∧ x6 ≤ 65535) (h7 : 0 ≤ x7 ∧ x7 ≤ 65535) : 0 ≤ x6 * 65536 + x7 ∧ x6 * 65536 + x7 ≤ 4294967295 := by omega
theorem four_eq (x0 x1 x2 x3 x4 x5 : Int) {x6 x7 u : Int} (h6 : 0 ≤ x6 ∧ x6 ≤ 65535) (h7 : 0 ≤ x7 ∧ x7 ≤ 65535) (hu : u = x6 * 65536 + x7) :
    (x0 == 0 && (x1 == 0 && (x2 == 0 && (x3 == 0 && (x4 == 0 && (x5 == 65535 && (x6 == u / 65536 && x7 == u % 65536))))))) = isFour x0 x1 x2 x3 x4 x5 := by
  have h1 : u / 65536 = x6 := by omega
  have h2 : u % 65536 = x7 := by omega
  rw [h1, h2, Bool.eq_iff_iff]
  unfold isFour
  simp

set_option maxHeartbeats 1000000 in
set_option maxRecDepth 100000 in
theorem four_walk (x0 x1 x2 x3 x4 x5 x6 x7 : Int) (h : R8 x0 x1 x2 x3 x4 x5 x6 x7) (w : World) :
    Calls Try.prog 12 #[A8 x0 x1 x2 x3 x4 x5 x6 x7] w fun e w' => e = .returned (.tuple #[.int .u32 (if isFour x0 x1 x2 x3 x4 x5 = true then x6 * 65536 + x7 else 0), .bool (isFour x0 x1 x2 x3 x4 x5)]) ∧ Below w.heap.size w w' := by
  go_enter Try.func12, Try.ntmps12
  go_wp2_with fail
  refine (low_walk _ _ _ _ _ _ _ _ h _).mono ?_
  rintro e w1 ⟨rfl, hb1⟩
  have B1 : Below w.heap.size w w1 := chain (by go_grown) hb1
  obtain ⟨hc1, hf1, hs1⟩ := after hb1
  simp only [World.size_alloc] at hs1
  have l0 : w.heap.size < w1.heap.size := by omega
  clear hf1 hs1 hb1
  obtain ⟨u, hu⟩ : ∃ u, u = x6 * 65536 + x7 := ⟨_, rfl⟩
  have hx := six_ok h.h6 h.h7
  rw [← hu] at hx
  have k0 := hx.1
  have k1 := hx.2
  clear hx
  rw [← hu]
  have HU := Lib.hid hu
  clear hu
  go_wp2_with fail
  refine wp_region_ext (by kernel_rfl) (by kernel_rfl) ?_
  repeat (go_big_quiet_step (with_reducible exact ext_of (fromFour_walk _ k0 k1 _)))
  refine wpQuiet_nil ?_
  rintro _ ⟨⟨w2, hb2⟩, rfl⟩
  have B2 := chain B1 hb2
  rw [four_eq x0 x1 x2 x3 x4 x5 h.h6 h.h7 HU.out]
  cases hF : isFour x0 x1 x2 x3 x4 x5
  all_goals go_wp2_with fail
  all_goals go_returns
  all_goals first | exact ⟨rfl, B2⟩ | exact ⟨by rw [← HU.out]; rfl, B2⟩

set_option maxHeartbeats 1000000 in
set_option maxRecDepth 100000 in
theorem refFour_walk (x0 x1 x2 x3 x4 x5 x6 x7 : Int) (h : R8 x0 x1 x2 x3 x4 x5 x6 x7) (w : World) :
    Calls Try.prog 13 #[A8 x0 x1 x2 x3 x4 x5 x6 x7] w fun e w' => e = .returned (.tuple #[.int .u32 (x6 * 65536 + x7), .bool (isFour x0 x1 x2 x3 x4 x5)]) ∧ Below w.heap.size w w' := by
  go_enter Try.func13, Try.ntmps13
  go_wp2_with fail
  rw [show (x6 % 4294967296 * 65536 % 4294967296 + x7 % 4294967296) % 4294967296 = x6 * 65536 + x7 from by have := h.h6; have := h.h7; omega, show x6 % 4294967296 * 65536 % 4294967296 = x6 * 65536 from by have := h.h6; omega]
  obtain ⟨u, hu⟩ : ∃ u, u = x6 * 65536 + x7 := ⟨_, rfl⟩
  have hx := six_ok h.h6 h.h7
  rw [← hu] at hx
  have k0 := hx.1
  have k1 := hx.2
  clear hx
  rw [← hu]
  have HU := Lib.hid hu
  clear hu
  refine wp_region_ext (by kernel_rfl) (by kernel_rfl) ?_
  repeat (go_big_quiet_step (with_reducible exact ext_of (refFromFour_walk _ k0 k1 _)))
  refine wpQuiet_nil ?_
  rintro _ ⟨⟨w2, hb2⟩, rfl⟩
  go_wp2_with fail
  go_returns
  rw [four_eq x0 x1 x2 x3 x4 x5 h.h6 h.h7 HU.out]
  exact ⟨by rw [← HU.out]; rfl, chain (by go_grown) hb2⟩
end Go.Proofs.Ytcgdjnmfeibnoaa
