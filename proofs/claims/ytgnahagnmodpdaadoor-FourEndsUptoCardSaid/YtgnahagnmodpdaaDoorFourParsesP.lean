/- FourParses, plainly. -/
import Derived.Test.YtgnahagnmodpdaaDoorFourP3
import Derived.Test.YtgnahagnmodpdaaDoorFourS
import Derived.Test.YtgnahagnmodpdaaDoorX10
namespace Go.Proofs.YtgnahagnmodpdaaDoor
open Go.RowKit Go.Proofs.YtgnahagnmodpdaaDoorW.PrintWords Go.Proofs.YtgnahagnmodpdaaDoor.X Go.IntWalk
set_option linter.unusedVariables false
set_option linter.unusedSimpArgs false

theorem parse_ev (s : ByteArray) (hs : s.size ≤ 4294967280) : Ev (fun k => four_Parse.f s) (parseV s.data.toList) := by
  refine Ev.congr (f := fun k => some (parseV s.data.toList)) (fun k => ?_) (Ev.now _)
  unfold four_Parse.f
  rw [if_pos hs]
theorem parses_true (s : ByteArray) (hs : s.size ≤ 4294967280) : Ev (fun k => posternlaw20_FourParses.f k s) true := by
  refine Ev.bind awake_ev ?_
  simp only [if_true]
  refine Ev.bind (parse_ev s hs) (Ev.bind (ref_parse s hs) ?_)
  simp only [if_true, bne_self_eq_false]
  refine Ev.step (f := fun k => (four_Strict.f k s).bind fun bt190 => ((posternref20_Strict.f k s).bind fun bt193 => (if bt190.1 = bt193.1 then (if bt190.2.1 = bt193.2.1 then (some (bt190.2.2 == bt193.2.2)) else (some false)) else (some false)))) (fun k => ?_) (Ev.bind (strict_ev s hs) (Ev.bind (ref_strict s hs) ?_))
  · simp only [posternlaw20_FourParses.j0]
    rw [if_neg (by simp)]
  · simp only [if_true, beq_self_eq_true]
    exact Ev.now _
theorem parses_walk (s : ByteArray) (hs : s.size ≤ 4294967280) (w : World) (hG : GW w) :
    Calls Tryd.prog 5 #[.string s] w fun e w' => e = .returned (.bool true) ∧ Below w.heap.size w w' := by
  obtain ⟨k, h⟩ := (parses_true s hs).rounds
  exact posternlaw20_FourParses.calls k s true w hG h
end Go.Proofs.YtgnahagnmodpdaaDoor
