/- What Mask answers of bits that may not be; what Within answers. -/
import Derived.Test.YtcgdjnmfeibnoaaDoorSixMask
namespace Go.Proofs.YtcgdjnmfeibnoaaDoor
open Go.RowKit
set_option linter.unusedVariables false
set_option linter.unusedSimpArgs false

set_option maxHeartbeats 1000000 in
set_option maxRecDepth 100000 in
theorem mask_less (x0 x1 x2 x3 x4 x5 x6 x7 : Int) (n : Int) (n0 : n < 0) (w : World) :
    Calls Tryd.prog 61 #[A8 x0 x1 x2 x3 x4 x5 x6 x7, .int .i64 n] w fun e w' => e = .returned (.tuple #[A8 0 0 0 0 0 0 0 0, .int .i64 211]) ∧ Below w.heap.size w w' := by
  go_enter Tryd.func61, Tryd.ntmps61
  go_wp2
  go_returns
  exact ⟨rfl, by go_grown⟩
set_option maxHeartbeats 1000000 in
set_option maxRecDepth 100000 in
theorem mask_more (x0 x1 x2 x3 x4 x5 x6 x7 : Int) (n : Int) (n0 : 128 < n) (w : World) :
    Calls Tryd.prog 61 #[A8 x0 x1 x2 x3 x4 x5 x6 x7, .int .i64 n] w fun e w' => e = .returned (.tuple #[A8 0 0 0 0 0 0 0 0, .int .i64 211]) ∧ Below w.heap.size w w' := by
  go_enter Tryd.func61, Tryd.ntmps61
  go_wp2
  go_returns
  exact ⟨rfl, by go_grown⟩

set_option maxHeartbeats 1000000 in
set_option maxRecDepth 100000 in
theorem within_walk (x0 x1 x2 x3 x4 x5 x6 x7 y0 y1 y2 y3 y4 y5 y6 y7 : Int) (h : R8 x0 x1 x2 x3 x4 x5 x6 x7) (k : R8 y0 y1 y2 y3 y4 y5 y6 y7) (n : Int) (n0 : 0 ≤ n) (n1 : n ≤ 128) (w : World) :
    Calls Tryd.prog 81 #[A8 x0 x1 x2 x3 x4 x5 x6 x7, A8 y0 y1 y2 y3 y4 y5 y6 y7, .int .i64 n] w fun e w' => e = .returned (.tuple #[.bool (decide (V8 x0 x1 x2 x3 x4 x5 x6 x7 - tailOf (V8 x0 x1 x2 x3 x4 x5 x6 x7) n = V8 y0 y1 y2 y3 y4 y5 y6 y7 - tailOf (V8 y0 y1 y2 y3 y4 y5 y6 y7) n)), .int .i64 0]) ∧ Below w.heap.size w w' := by
  go_enter Tryd.func81, Tryd.ntmps81
  go_wp2_with fail
  refine (mask_walk _ _ _ _ _ _ _ _ h n n0 n1 _).mono ?_
  rintro e w1 ⟨a0, a1, a2, a3, a4, a5, a6, a7, rfl, ha, hva, hb1⟩
  obtain ⟨hc1, _, hs1⟩ := after hb1
  simp only [World.size_alloc] at hs1
  have l0 : w.heap.size < w1.heap.size := by omega
  have l1 : w.heap.size + 1 < w1.heap.size := by omega
  clear hs1
  go_wp2_with fail
  refine (mask_walk _ _ _ _ _ _ _ _ k n n0 n1 _).mono ?_
  rintro e w2 ⟨b0, b1, b2, b3, b4, b5, b6, b7, rfl, hb, hvb, hb2⟩
  obtain ⟨hc2, _, hs2⟩ := after hb2
  simp only [World.size_alloc] at hs2
  have l2 : w1.heap.size < w2.heap.size := by omega
  clear hs2
  go_wp2_with fail
  go_returns
  rw [eq8_dec ha hb, hva, hvb]
  trace_state
  refine ⟨rfl, ?_⟩
  refine Below.alloc (Below.trans (Below.alloc (Below.trans ?_ (hb1.mono (by simp only [World.size_alloc]; omega))) ?_ _) (hb2.mono ?_)) ?_ _
  · go_grown
  · omega
  · simp only [World.size_alloc]; omega
  · omega
end Go.Proofs.YtcgdjnmfeibnoaaDoor
