/- Mask, Within and Next of any bits, the program's and the document's. -/
import Derived.Test.YtcgdjnmfeibnoaaDoorSixWithin
import Derived.Test.YtcgdjnmfeibnoaaDoorSixNext
import Derived.Test.YtcgdjnmfeibnoaaDoorSixRefMask
import Derived.Test.YtcgdjnmfeibnoaaDoorSixRefNext
namespace Go.Proofs.YtcgdjnmfeibnoaaDoor
open Go.RowKit
set_option linter.unusedVariables false
set_option linter.unusedSimpArgs false

def maskE (n : Int) : Int := if 0 ≤ n ∧ n ≤ 128 then 0 else 211
def maskV (v n : Int) : Int := if 0 ≤ n ∧ n ≤ 128 then v - tailOf v n else 0
/-- What Mask answers, of any bits. -/
def MaskAll (v n : Int) (w : World) (e : Ending) (w' : World) : Prop :=
  ∃ y0 y1 y2 y3 y4 y5 y6 y7 : Int, e = .returned (.tuple #[A8 y0 y1 y2 y3 y4 y5 y6 y7, .int .i64 (maskE n)]) ∧ R8 y0 y1 y2 y3 y4 y5 y6 y7 ∧
    V8 y0 y1 y2 y3 y4 y5 y6 y7 = maskV v n ∧ Below w.heap.size w w'
theorem R8_zero : R8 0 0 0 0 0 0 0 0 := ⟨by decide, by decide, by decide, by decide, by decide, by decide, by decide, by decide⟩
theorem mask_in_all {v n : Int} {w : World} {e : Ending} {w' : World} (n0 : 0 ≤ n) (n1 : n ≤ 128) (h : MaskPost v n w e w') : MaskAll v n w e w' := by
  obtain ⟨y0, y1, y2, y3, y4, y5, y6, y7, he, hr, hv, hb⟩ := h
  exact ⟨y0, y1, y2, y3, y4, y5, y6, y7, by rw [he, maskE, if_pos ⟨n0, n1⟩], hr, by rw [hv, maskV, if_pos ⟨n0, n1⟩], hb⟩
theorem mask_out_all {v n : Int} {w : World} {e : Ending} {w' : World} (hn : ¬ (0 ≤ n ∧ n ≤ 128)) (h : e = .returned (.tuple #[A8 0 0 0 0 0 0 0 0, .int .i64 211]) ∧ Below w.heap.size w w') : MaskAll v n w e w' :=
  ⟨0, 0, 0, 0, 0, 0, 0, 0, by rw [h.1, maskE, if_neg hn], R8_zero, by rw [maskV, if_neg hn]; rfl, h.2⟩

theorem mask_all (x0 x1 x2 x3 x4 x5 x6 x7 : Int) (h : R8 x0 x1 x2 x3 x4 x5 x6 x7) (n : Int) (w : World) :
    Calls Tryd.prog 61 #[A8 x0 x1 x2 x3 x4 x5 x6 x7, .int .i64 n] w (MaskAll (V8 x0 x1 x2 x3 x4 x5 x6 x7) n w) := by
  by_cases h0 : n < 0
  · exact (mask_less _ _ _ _ _ _ _ _ n h0 w).mono fun e w' hh => mask_out_all (by omega) hh
  by_cases h1 : 128 < n
  · exact (mask_more _ _ _ _ _ _ _ _ n h1 w).mono fun e w' hh => mask_out_all (by omega) hh
  · exact (mask_walk _ _ _ _ _ _ _ _ h n (by omega) (by omega) w).mono fun e w' hh => mask_in_all (by omega) (by omega) hh

set_option maxHeartbeats 1000000 in
set_option maxRecDepth 100000 in
theorem refMask_less (x0 x1 x2 x3 x4 x5 x6 x7 : Int) (n : Int) (n0 : n < 0) (w : World) :
    Calls Tryd.prog 62 #[A8 x0 x1 x2 x3 x4 x5 x6 x7, .int .i64 n] w fun e w' => e = .returned (.tuple #[A8 0 0 0 0 0 0 0 0, .int .i64 211]) ∧ Below w.heap.size w w' := by
  go_enter Tryd.func62, Tryd.ntmps62
  go_wp2
  go_returns
  exact ⟨rfl, by go_grown⟩
set_option maxHeartbeats 1000000 in
set_option maxRecDepth 100000 in
theorem refMask_more (x0 x1 x2 x3 x4 x5 x6 x7 : Int) (n : Int) (n0 : 128 < n) (w : World) :
    Calls Tryd.prog 62 #[A8 x0 x1 x2 x3 x4 x5 x6 x7, .int .i64 n] w fun e w' => e = .returned (.tuple #[A8 0 0 0 0 0 0 0 0, .int .i64 211]) ∧ Below w.heap.size w w' := by
  go_enter Tryd.func62, Tryd.ntmps62
  go_wp2
  go_returns
  exact ⟨rfl, by go_grown⟩
theorem refMask_all (x0 x1 x2 x3 x4 x5 x6 x7 : Int) (h : R8 x0 x1 x2 x3 x4 x5 x6 x7) (n : Int) (w : World) :
    Calls Tryd.prog 62 #[A8 x0 x1 x2 x3 x4 x5 x6 x7, .int .i64 n] w (MaskAll (V8 x0 x1 x2 x3 x4 x5 x6 x7) n w) := by
  by_cases h0 : n < 0
  · exact (refMask_less _ _ _ _ _ _ _ _ n h0 w).mono fun e w' hh => mask_out_all (by omega) hh
  by_cases h1 : 128 < n
  · exact (refMask_more _ _ _ _ _ _ _ _ n h1 w).mono fun e w' hh => mask_out_all (by omega) hh
  · exact (refMask_walk _ _ _ _ _ _ _ _ h n (by omega) (by omega) w).mono fun e w' hh => mask_in_all (by omega) (by omega) hh

set_option maxHeartbeats 1000000 in
set_option maxRecDepth 100000 in
theorem within_out (x0 x1 x2 x3 x4 x5 x6 x7 y0 y1 y2 y3 y4 y5 y6 y7 : Int) (h : R8 x0 x1 x2 x3 x4 x5 x6 x7) (n : Int) (hn : ¬ (0 ≤ n ∧ n ≤ 128)) (w : World) :
    Calls Tryd.prog 81 #[A8 x0 x1 x2 x3 x4 x5 x6 x7, A8 y0 y1 y2 y3 y4 y5 y6 y7, .int .i64 n] w fun e w' => e = .returned (.tuple #[.bool false, .int .i64 211]) ∧ Below w.heap.size w w' := by
  go_enter Tryd.func81, Tryd.ntmps81
  go_wp2_with fail
  refine (mask_all _ _ _ _ _ _ _ _ h n _).mono ?_
  rintro e w1 ⟨a0, a1, a2, a3, a4, a5, a6, a7, rfl, ha, hva, hb1⟩
  rw [show maskE n = 211 from if_neg hn]
  have B1 : Below w.heap.size w w1 := chain (by go_grown) hb1
  have hs1 := hb1.size
  simp only [World.size_alloc] at hs1
  clear hb1
  go_wp2_with fail
  go_returns
  first | exact ⟨rfl, B1⟩ | exact ⟨rfl, B1.alloc B1.size _⟩

/-- Within of any bits: whether both are in the same prefix, piece by piece. -/
theorem within_all (x0 x1 x2 x3 x4 x5 x6 x7 y0 y1 y2 y3 y4 y5 y6 y7 : Int) {p0 p1 p2 p3 p4 p5 p6 p7 q0 q1 q2 q3 q4 q5 q6 q7 : Int} (h : R8 x0 x1 x2 x3 x4 x5 x6 x7) (k : R8 y0 y1 y2 y3 y4 y5 y6 y7) (hp : R8 p0 p1 p2 p3 p4 p5 p6 p7) (hq : R8 q0 q1 q2 q3 q4 q5 q6 q7) (n : Int)
    (hv : V8 p0 p1 p2 p3 p4 p5 p6 p7 = maskV (V8 x0 x1 x2 x3 x4 x5 x6 x7) n) (kv : V8 q0 q1 q2 q3 q4 q5 q6 q7 = maskV (V8 y0 y1 y2 y3 y4 y5 y6 y7) n) (w : World) :
    Calls Tryd.prog 81 #[A8 x0 x1 x2 x3 x4 x5 x6 x7, A8 y0 y1 y2 y3 y4 y5 y6 y7, .int .i64 n] w fun e w' => e = .returned (.tuple #[.bool (maskE n == 0 && (p0 == q0 && (p1 == q1 && (p2 == q2 && (p3 == q3 && (p4 == q4 && (p5 == q5 && (p6 == q6 && p7 == q7)))))))), .int .i64 (maskE n)]) ∧ Below w.heap.size w w' := by
  rw [eq8_dec hp hq, hv, kv]
  by_cases hn : 0 ≤ n ∧ n ≤ 128
  · refine (within_walk _ _ _ _ _ _ _ _ _ _ _ _ _ _ _ _ h k n hn.1 hn.2 w).mono fun e w' ⟨he, hb⟩ => ⟨?_, hb⟩
    rw [he, maskE, if_pos hn, maskV, if_pos hn, maskV, if_pos hn]
    simp
  · refine (within_out _ _ _ _ _ _ _ _ _ _ _ _ _ _ _ _ h n hn w).mono fun e w' ⟨he, hb⟩ => ⟨?_, hb⟩
    rw [he, maskE, if_neg hn]
    simp

/-- What Next answers is one thing. -/
theorem next_same {v : Int} {y0 y1 y2 y3 y4 y5 y6 y7 z0 z1 z2 z3 z4 z5 z6 z7 : Int} {ok is : Bool} (hy : R8 y0 y1 y2 y3 y4 y5 y6 y7) (hz : R8 z0 z1 z2 z3 z4 z5 z6 z7)
    (h1 : ok = true → V8 y0 y1 y2 y3 y4 y5 y6 y7 = v + 1) (h2 : ok = false → v = 340282366920938463463374607431768211455 ∧ V8 y0 y1 y2 y3 y4 y5 y6 y7 = 0)
    (k1 : is = true → V8 z0 z1 z2 z3 z4 z5 z6 z7 = v + 1) (k2 : is = false → v = 340282366920938463463374607431768211455 ∧ V8 z0 z1 z2 z3 z4 z5 z6 z7 = 0) :
    ok = is ∧ y0 = z0 ∧ y1 = z1 ∧ y2 = z2 ∧ y3 = z3 ∧ y4 = z4 ∧ y5 = z5 ∧ y6 = z6 ∧ y7 = z7 := by
  have ly : V8 y0 y1 y2 y3 y4 y5 y6 y7 ≤ 340282366920938463463374607431768211455 := by
    obtain ⟨⟨_, _⟩, ⟨_, _⟩, ⟨_, _⟩, ⟨_, _⟩, ⟨_, _⟩, ⟨_, _⟩, ⟨_, _⟩, ⟨_, _⟩⟩ := hy
    unfold V8; omega
  have lz : V8 z0 z1 z2 z3 z4 z5 z6 z7 ≤ 340282366920938463463374607431768211455 := by
    obtain ⟨⟨_, _⟩, ⟨_, _⟩, ⟨_, _⟩, ⟨_, _⟩, ⟨_, _⟩, ⟨_, _⟩, ⟨_, _⟩, ⟨_, _⟩⟩ := hz
    unfold V8; omega
  cases ok <;> cases is
  · exact ⟨rfl, V8_inj hy hz (by rw [(h2 rfl).2, (k2 rfl).2])⟩
  · have := h2 rfl; have := k1 rfl; omega
  · have := h1 rfl; have := k2 rfl; omega
  · exact ⟨rfl, V8_inj hy hz (by rw [h1 rfl, k1 rfl])⟩
end Go.Proofs.YtcgdjnmfeibnoaaDoor
