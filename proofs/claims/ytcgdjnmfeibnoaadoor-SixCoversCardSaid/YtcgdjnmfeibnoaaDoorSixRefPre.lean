/- What the document's IsPrefix answers; the document's functions over numbers. -/
import Derived.Test.YtcgdjnmfeibnoaaDoorSixAll
import Derived.Test.YtcgdjnmfeibnoaaDoorSixRefCmp
import Derived.Test.YtcgdjnmfeibnoaaDoorSixRefLast
import Derived.Test.YtcgdjnmfeibnoaaDoorSixCoverV
namespace Go.Proofs.YtcgdjnmfeibnoaaDoor
open Go.RowKit
set_option linter.unusedVariables false
set_option linter.unusedSimpArgs false

abbrev P9 (x0 x1 x2 x3 x4 x5 x6 x7 n : Int) : Value := .agg #[.int .u16 x0, .int .u16 x1, .int .u16 x2, .int .u16 x3, .int .u16 x4, .int .u16 x5, .int .u16 x6, .int .u16 x7, .int .i64 n]
/-- Is it a prefix? -/
def isPre (v n : Int) : Bool := decide (0 ≤ n ∧ n ≤ 128 ∧ tailOf v n = 0)

set_option maxHeartbeats 1000000 in
set_option maxRecDepth 100000 in
theorem refIsPrefix_walk (x0 x1 x2 x3 x4 x5 x6 x7 : Int) (h : R8 x0 x1 x2 x3 x4 x5 x6 x7) (n : Int) (w : World) :
    Calls Tryd.prog 26 #[P9 x0 x1 x2 x3 x4 x5 x6 x7 n] w fun e w' => e = .returned (.bool (isPre (V8 x0 x1 x2 x3 x4 x5 x6 x7) n)) ∧ Below w.heap.size w w' := by
  go_enter Tryd.func26, Tryd.ntmps26
  go_wp2_with fail
  refine (refMask_all _ _ _ _ _ _ _ _ h n _).mono ?_
  rintro e w1 ⟨y0, y1, y2, y3, y4, y5, y6, y7, rfl, hy, hv, hb1⟩
  have B1 : Below w.heap.size w w1 := chain (by go_grown) hb1
  obtain ⟨hc1, _, hs1⟩ := after hb1
  simp only [World.size_alloc] at hs1
  have l0 : w.heap.size < w1.heap.size := by omega
  have HV := Lib.hid hv
  clear hv hs1
  by_cases hn : 0 ≤ n ∧ n ≤ 128
  · rw [show maskE n = 0 from if_pos hn]
    go_wp2_with fail
    go_returns
    rw [eq8_dec hy h, HV.out, maskV, if_pos hn]
    refine ⟨ret_bool ?_, B1.alloc B1.size _⟩
    unfold isPre
    rw [decide_eq_decide]
    omega
  · rw [show maskE n = 211 from if_neg hn]
    go_wp2_with fail
    go_returns
    refine ⟨ret_bool ?_, B1.alloc B1.size _⟩
    rw [show isPre (V8 x0 x1 x2 x3 x4 x5 x6 x7) n = false from decide_eq_false (by omega)]

/-- The pieces of a number, as the document has it. -/
abbrev AV (v : Int) : Value := A8 (pc 0 v) (pc 1 v) (pc 2 v) (pc 3 v) (pc 4 v) (pc 5 v) (pc 6 v) (pc 7 v)
abbrev PV (v n : Int) : Value := P9 (pc 0 v) (pc 1 v) (pc 2 v) (pc 3 v) (pc 4 v) (pc 5 v) (pc 6 v) (pc 7 v) n
theorem isPrefix_at {v : Int} (hv : Wide v) (n : Int) (w : World) :
    Calls Tryd.prog 26 #[PV v n] w fun e w' => e = .returned (.bool (isPre v n)) ∧ Below w.heap.size w w' := by
  have h := refIsPrefix_walk _ _ _ _ _ _ _ _ (pc_r8 v) n w
  rw [pc_v8 hv] at h
  exact h
theorem isPre_mod {v : Int} {k : Nat} (hk : k ≤ 128) : isPre v k = decide (v % 2 ^ (128 - k) = 0) := by
  unfold isPre tailOf
  rw [decide_eq_decide, show (128 - (k : Int)).toNat = 128 - k from by omega]
  omega
theorem refLast_at {v : Int} {n : Nat} (hv : Wide v) (hn : n ≤ 128) (hz : v % 2 ^ (128 - n) = 0) (w : World) :
    Calls Tryd.prog 40 #[PV v n] w fun e w' => e = .returned (AV (v + 2 ^ (128 - n) - 1)) ∧ Below w.heap.size w w' := by
  have e : (128 - (n : Int)).toNat = 128 - n := by omega
  have h := refLast_walk _ _ _ _ _ _ _ _ (pc_r8 v) n (by omega) (by omega) (by rw [pc_v8 hv, e]; exact hz) w
  rw [pc_v8 hv, e] at h
  refine h.mono ?_
  rintro e1 w' ⟨y0, y1, y2, y3, y4, y5, y6, y7, rfl, hr, hv2, hb⟩
  obtain ⟨rfl, rfl, rfl, rfl, rfl, rfl, rfl, rfl⟩ := pc_of hr hv2
  exact ⟨rfl, hb⟩
theorem refCompare_at {v u : Int} (hv : Wide v) (hu : Wide u) (w : World) :
    Calls Tryd.prog 11 #[AV v, AV u] w fun e w' => e = .returned (.int .i64 (cmpI v u)) ∧ Below w.heap.size w w' := by
  have h := refCompare_walk _ _ _ _ _ _ _ _ _ _ _ _ _ _ _ _ (pc_r8 v) (pc_r8 u) w
  rw [pc_v8 hv, pc_v8 hu] at h
  exact h
theorem refNext_at {v : Int} (hv : Wide v) (h : v < 340282366920938463463374607431768211455) (w : World) :
    Calls Tryd.prog 41 #[AV v] w fun e w' => e = .returned (.tuple #[AV (v + 1), .bool true]) ∧ Below w.heap.size w w' := by
  have hN := refNext_walk _ _ _ _ _ _ _ _ (pc_r8 v) w
  rw [pc_v8 hv] at hN
  refine hN.mono ?_
  rintro e w' ⟨y0, y1, y2, y3, y4, y5, y6, y7, ok, rfl, hr, h1, h2, hb⟩
  cases ok with
  | false => have := (h2 rfl).1; omega
  | true =>
    obtain ⟨rfl, rfl, rfl, rfl, rfl, rfl, rfl, rfl⟩ := pc_of hr (h1 rfl)
    exact ⟨rfl, hb⟩
end Go.Proofs.YtcgdjnmfeibnoaaDoor
