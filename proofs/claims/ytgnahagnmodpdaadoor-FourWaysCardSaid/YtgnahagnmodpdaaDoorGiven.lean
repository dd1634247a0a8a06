/- The contracts that are given by hand to the print of this seat. -/
import Derived.Test.YtgnahagnmodpdaaDoorOct
namespace Go.Proofs.YtgnahagnmodpdaaDoor
open Go.RowKit Go.Proofs.YtgnahagnmodpdaaDoorW.PrintWords
set_option linter.unusedVariables false

def octet_Digit.f (a0 a1 : Int) : Option Int := if 0 ≤ a0 ∧ a0 < 256 then some (digV a0 a1) else none
theorem octet_Digit.calls (a0 a1 : Int) (r : Int) (w : World) (h : octet_Digit.f a0 a1 = some r) :
    Calls Tryd.prog 44 #[.int .u8 a0, .int .i64 a1] w fun e w' => e = .returned (.int .i64 r) ∧ Drawn0 w w' := by
  unfold octet_Digit.f at h
  by_cases hs : 0 ≤ a0 ∧ a0 < 256
  · rw [if_pos hs] at h
    obtain rfl := Option.some.inj h
    exact (digit_walk a0 a1 hs.1 hs.2 w).mono fun e w' ⟨he, hw⟩ => ⟨he, drawn_same hw⟩
  · rw [if_neg hs] at h
    cases h
end Go.Proofs.YtgnahagnmodpdaaDoor
