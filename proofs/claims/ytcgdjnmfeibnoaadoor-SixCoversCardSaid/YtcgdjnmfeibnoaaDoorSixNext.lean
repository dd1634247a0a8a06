/- What Next answers: the number one more, or that there is none. -/
import Derived.Test.YtcgdjnmfeibnoaaDoorSixV
namespace Go.Proofs.YtcgdjnmfeibnoaaDoor
open Go.RowKit
set_option linter.unusedVariables false
set_option linter.unusedSimpArgs false

/-- What Next answers. -/
def NextPost (v : Int) (w : World) (e : Ending) (w' : World) : Prop :=
  ∃ y0 y1 y2 y3 y4 y5 y6 y7 : Int, ∃ ok : Bool, e = .returned (.tuple #[A8 y0 y1 y2 y3 y4 y5 y6 y7, .bool ok]) ∧ R8 y0 y1 y2 y3 y4 y5 y6 y7 ∧
    (ok = true → V8 y0 y1 y2 y3 y4 y5 y6 y7 = v + 1) ∧ (ok = false → v = 340282366920938463463374607431768211455 ∧ V8 y0 y1 y2 y3 y4 y5 y6 y7 = 0) ∧ Below w.heap.size w w'

theorem u16w (x : Int) : IntKind.u16.wrap x = x % 65536 := by rw [IntKind.wrap_u16]

theorem next_ret {v : Int} {w W : World} {y0 y1 y2 y3 y4 y5 y6 y7 : Int} {ok : Bool} (hr : R8 y0 y1 y2 y3 y4 y5 y6 y7)
    (h1 : ok = true → V8 y0 y1 y2 y3 y4 y5 y6 y7 = v + 1) (h2 : ok = false → v = 340282366920938463463374607431768211455 ∧ V8 y0 y1 y2 y3 y4 y5 y6 y7 = 0) (hb : Below w.heap.size w W) :
    NextPost v w (.returned (.tuple #[A8 y0 y1 y2 y3 y4 y5 y6 y7, .bool ok])) W := ⟨y0, y1, y2, y3, y4, y5, y6, y7, ok, rfl, hr, h1, h2, hb⟩

set_option maxHeartbeats 1000000 in
set_option maxRecDepth 100000 in
theorem next_walk (x0 x1 x2 x3 x4 x5 x6 x7 : Int) (h : R8 x0 x1 x2 x3 x4 x5 x6 x7) (w : World) :
    Calls Tryd.prog 25 #[A8 x0 x1 x2 x3 x4 x5 x6 x7] w (NextPost (V8 x0 x1 x2 x3 x4 x5 x6 x7) w) := by
  go_enter Tryd.func25, Tryd.ntmps25
  go_wp2
  go_rounds 9
  all_goals go_returns
  all_goals refine next_ret ?_ ?_ ?_ (by go_grown)
  all_goals go_tidy
  all_goals obtain ⟨⟨_, _⟩, ⟨_, _⟩, ⟨_, _⟩, ⟨_, _⟩, ⟨_, _⟩, ⟨_, _⟩, ⟨_, _⟩, ⟨_, _⟩⟩ := h
  all_goals simp only [IntKind.wrap_u16, bne_iff_ne, ne_eq, bne_eq_false_iff_eq] at *
  all_goals first
    | (constructor <;> omega)
    | (intro hk; exact absurd hk (by decide))
    | (intro _; unfold V8; omega)
end Go.Proofs.YtcgdjnmfeibnoaaDoor
