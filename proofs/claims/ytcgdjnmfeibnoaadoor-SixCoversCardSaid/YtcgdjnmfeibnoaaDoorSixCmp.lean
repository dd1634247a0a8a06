/- What Compare answers: which of two numbers of 128 bits is less. -/
import Derived.Test.YtcgdjnmfeibnoaaDoorSixV
namespace Go.Proofs.YtcgdjnmfeibnoaaDoor
open Go.RowKit
set_option linter.unusedVariables false
set_option linter.unusedSimpArgs false

set_option maxHeartbeats 400000 in
theorem cmp_walk (x y : Int) (w : World) : Calls Tryd.prog 103 #[.int .u16 x, .int .u16 y] w fun e w' => e = .returned (.int .i64 (cmpI x y)) ∧ w = w' := by
  go_enter Tryd.func103, Tryd.ntmps103
  go_wp2
  all_goals go_returns
  all_goals go_tidy
  all_goals refine ⟨ret_int ?_, rfl⟩
  all_goals unfold cmpI
  all_goals (repeat' split)
  all_goals omega

set_option maxHeartbeats 1000000 in
set_option maxRecDepth 100000 in
theorem scmp_walk (x0 x1 x2 x3 x4 x5 x6 x7 y0 y1 y2 y3 y4 y5 y6 y7 : Int) (h : R8 x0 x1 x2 x3 x4 x5 x6 x7) (k : R8 y0 y1 y2 y3 y4 y5 y6 y7) (w : World) (b c : Nat)
    (hb : C8 w b x0 x1 x2 x3 x4 x5 x6 x7) (hc : C8 w c y0 y1 y2 y3 y4 y5 y6 y7) :
    Calls Tryd.prog 63 #[.slice (some ⟨b, 0, none⟩) 8 8, .slice (some ⟨c, 0, none⟩) 8 8] w fun e w' => e = .returned (.int .i64 (cmpI (V8 x0 x1 x2 x3 x4 x5 x6 x7) (V8 y0 y1 y2 y3 y4 y5 y6 y7))) ∧ w = w' := by
  obtain ⟨a0, a1, a2, a3, a4, a5, a6, a7⟩ := hb
  obtain ⟨b0, b1, b2, b3, b4, b5, b6, b7⟩ := hc
  go_enter Tryd.func63, Tryd.ntmps63
  go_wp2
  refine wp_loop_rounds 9 ?_
  repeat any_goals (rw [rounds_succ]; go_wp2_with (go_at_call 103; refine (cmp_walk _ _ _).mono ?_; rintro e w' ⟨rfl, rfl⟩))
  all_goals go_returns
  all_goals go_tidy
  all_goals refine ⟨ret_int ?_, rfl⟩
  all_goals clear a0 a1 a2 a3 a4 a5 a6 a7 b0 b1 b2 b3 b4 b5 b6 b7
  all_goals obtain ⟨⟨_, _⟩, ⟨_, _⟩, ⟨_, _⟩, ⟨_, _⟩, ⟨_, _⟩, ⟨_, _⟩, ⟨_, _⟩, ⟨_, _⟩⟩ := h
  all_goals obtain ⟨⟨_, _⟩, ⟨_, _⟩, ⟨_, _⟩, ⟨_, _⟩, ⟨_, _⟩, ⟨_, _⟩, ⟨_, _⟩, ⟨_, _⟩⟩ := k
  all_goals simp only [bne_iff_ne, ne_eq, bne_eq_false_iff_eq, cmpI_zero] at *
  all_goals unfold cmpI V8
  all_goals (repeat' split)
  all_goals omega

set_option maxHeartbeats 1000000 in
set_option maxRecDepth 100000 in
theorem compare_walk (x0 x1 x2 x3 x4 x5 x6 x7 y0 y1 y2 y3 y4 y5 y6 y7 : Int) (h : R8 x0 x1 x2 x3 x4 x5 x6 x7) (k : R8 y0 y1 y2 y3 y4 y5 y6 y7) (w : World) :
    Calls Tryd.prog 23 #[A8 x0 x1 x2 x3 x4 x5 x6 x7, A8 y0 y1 y2 y3 y4 y5 y6 y7] w fun e w' => e = .returned (.int .i64 (cmpI (V8 x0 x1 x2 x3 x4 x5 x6 x7) (V8 y0 y1 y2 y3 y4 y5 y6 y7))) ∧ Below w.heap.size w w' := by
  go_enter Tryd.func23, Tryd.ntmps23
  go_wp2
  go_quiet ((go_at_call 63; exact Calls.quiet_of_same ((scmp_walk x0 x1 x2 x3 x4 x5 x6 x7 y0 y1 y2 y3 y4 y5 y6 y7 h k _ _ _ ⟨by go_simp, by go_simp, by go_simp, by go_simp, by go_simp, by go_simp, by go_simp, by go_simp⟩ ⟨by go_simp, by go_simp, by go_simp, by go_simp, by go_simp, by go_simp, by go_simp, by go_simp⟩).mono fun _ _ ⟨he, hw⟩ => ⟨he, hw.symm⟩)))
  go_wp2
  go_returns
  exact ⟨rfl, bdn (by go_grown) _⟩
theorem compare_lt {x0 x1 x2 x3 x4 x5 x6 x7 y0 y1 y2 y3 y4 y5 y6 y7 : Int} (h : R8 x0 x1 x2 x3 x4 x5 x6 x7) (k : R8 y0 y1 y2 y3 y4 y5 y6 y7) (hlt : V8 x0 x1 x2 x3 x4 x5 x6 x7 < V8 y0 y1 y2 y3 y4 y5 y6 y7) (w : World) :
    Calls Tryd.prog 23 #[A8 x0 x1 x2 x3 x4 x5 x6 x7, A8 y0 y1 y2 y3 y4 y5 y6 y7] w fun e w' => e = .returned (.int .i64 (-1)) ∧ Below w.heap.size w w' :=
  (compare_walk _ _ _ _ _ _ _ _ _ _ _ _ _ _ _ _ h k w).mono fun e w' ⟨he, hb⟩ => ⟨by rw [he, cmpI_lt hlt], hb⟩
theorem compare_gt {x0 x1 x2 x3 x4 x5 x6 x7 y0 y1 y2 y3 y4 y5 y6 y7 : Int} (h : R8 x0 x1 x2 x3 x4 x5 x6 x7) (k : R8 y0 y1 y2 y3 y4 y5 y6 y7) (hlt : V8 y0 y1 y2 y3 y4 y5 y6 y7 < V8 x0 x1 x2 x3 x4 x5 x6 x7) (w : World) :
    Calls Tryd.prog 23 #[A8 x0 x1 x2 x3 x4 x5 x6 x7, A8 y0 y1 y2 y3 y4 y5 y6 y7] w fun e w' => e = .returned (.int .i64 1) ∧ Below w.heap.size w w' :=
  (compare_walk _ _ _ _ _ _ _ _ _ _ _ _ _ _ _ _ h k w).mono fun e w' ⟨he, hb⟩ => ⟨by rw [he, cmpI_gt hlt], hb⟩
theorem compare_eq {x0 x1 x2 x3 x4 x5 x6 x7 y0 y1 y2 y3 y4 y5 y6 y7 : Int} (h : R8 x0 x1 x2 x3 x4 x5 x6 x7) (k : R8 y0 y1 y2 y3 y4 y5 y6 y7) (hlt : V8 x0 x1 x2 x3 x4 x5 x6 x7 = V8 y0 y1 y2 y3 y4 y5 y6 y7) (w : World) :
    Calls Tryd.prog 23 #[A8 x0 x1 x2 x3 x4 x5 x6 x7, A8 y0 y1 y2 y3 y4 y5 y6 y7] w fun e w' => e = .returned (.int .i64 0) ∧ Below w.heap.size w w' :=
  (compare_walk _ _ _ _ _ _ _ _ _ _ _ _ _ _ _ _ h k w).mono fun e w' ⟨he, hb⟩ => ⟨by rw [he, cmpI_eq hlt], hb⟩
end Go.Proofs.YtcgdjnmfeibnoaaDoor
