/- What the document's Compare answers: which of two numbers of 128 bits is less. -/
import Derived.Test.YtcgdjnmfeibnoaaDoorSixV
namespace Go.Proofs.YtcgdjnmfeibnoaaDoor
open Go.RowKit
set_option linter.unusedVariables false
set_option linter.unusedSimpArgs false

set_option maxHeartbeats 2000000 in
set_option maxRecDepth 100000 in
theorem refCompare_walk (x0 x1 x2 x3 x4 x5 x6 x7 y0 y1 y2 y3 y4 y5 y6 y7 : Int) (h : R8 x0 x1 x2 x3 x4 x5 x6 x7) (k : R8 y0 y1 y2 y3 y4 y5 y6 y7) (w : World) :
    Calls Tryd.prog 11 #[A8 x0 x1 x2 x3 x4 x5 x6 x7, A8 y0 y1 y2 y3 y4 y5 y6 y7] w fun e w' => e = .returned (.int .i64 (cmpI (V8 x0 x1 x2 x3 x4 x5 x6 x7) (V8 y0 y1 y2 y3 y4 y5 y6 y7))) ∧ Below w.heap.size w w' := by
  go_enter Tryd.func11, Tryd.ntmps11
  go_wp2
  refine wp_loop_rounds 9 ?_
  repeat any_goals first | (rw [rounds_succ]; go_wp2) | (go_quiet (fail); go_wp2)
  all_goals go_returns
  all_goals go_tidy
  all_goals refine ⟨ret_int ?_, by ((repeat refine bdn ?_ _); go_grown)⟩
  all_goals obtain ⟨⟨_, _⟩, ⟨_, _⟩, ⟨_, _⟩, ⟨_, _⟩, ⟨_, _⟩, ⟨_, _⟩, ⟨_, _⟩, ⟨_, _⟩⟩ := h
  all_goals obtain ⟨⟨_, _⟩, ⟨_, _⟩, ⟨_, _⟩, ⟨_, _⟩, ⟨_, _⟩, ⟨_, _⟩, ⟨_, _⟩, ⟨_, _⟩⟩ := k
  all_goals unfold cmpI V8
  all_goals (repeat' split)
  all_goals omega
end Go.Proofs.YtcgdjnmfeibnoaaDoor
