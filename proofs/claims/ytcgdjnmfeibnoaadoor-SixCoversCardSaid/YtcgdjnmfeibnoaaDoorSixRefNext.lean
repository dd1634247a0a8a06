/- What the document's Next answers: the number one more, or that there is none. -/
import Derived.Test.YtcgdjnmfeibnoaaDoorSixNext
namespace Go.Proofs.YtcgdjnmfeibnoaaDoor
open Go.RowKit
set_option linter.unusedVariables false
set_option linter.unusedSimpArgs false

set_option maxHeartbeats 1000000 in
set_option maxRecDepth 100000 in
theorem refNext_walk (x0 x1 x2 x3 x4 x5 x6 x7 : Int) (h : R8 x0 x1 x2 x3 x4 x5 x6 x7) (w : World) :
    Calls Tryd.prog 41 #[A8 x0 x1 x2 x3 x4 x5 x6 x7] w (NextPost (V8 x0 x1 x2 x3 x4 x5 x6 x7) w) := by
  go_enter Tryd.func41, Tryd.ntmps41
  go_wp2
  go_rounds 9
  all_goals go_returns
  all_goals refine next_ret ?_ ?_ ?_ (by go_grown)
  all_goals go_tidy
  all_goals obtain ⟨⟨_, _⟩, ⟨_, _⟩, ⟨_, _⟩, ⟨_, _⟩, ⟨_, _⟩, ⟨_, _⟩, ⟨_, _⟩, ⟨_, _⟩⟩ := h
  all_goals simp only [IntKind.wrap_u16, bne_iff_ne, ne_eq, bne_eq_false_iff_eq] at *
  all_goals first
    | (constructor <;> omega)
    | (intro hk; exact absurd hk (by decide))
    | (intro _; unfold V8; omega)
end Go.Proofs.YtcgdjnmfeibnoaaDoor
