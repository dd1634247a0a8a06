/- The contracts that are given by hand to the print of this seat. -/
import Derived.Test.YtllhdekhgbbibaaDoorStr
import Derived.Test.YtllhdekhgbbibaaDoorNum
import Derived.Test.YtllhdekhgbbibaaDoorWords
namespace Go.Proofs.YtllhdekhgbbibaaDoor
open Go.RowKit Go.Proofs.YtllhdekhgbbibaaDoorW.PrintWords
set_option linter.unusedVariables false

def octet_Digit.f (a0 a1 : Int) : Option Int := if 0 ≤ a0 ∧ a0 < 256 then some (digV a0 a1) else none
theorem octet_Digit.calls (a0 a1 : Int) (r : Int) (w : World) (h : octet_Digit.f a0 a1 = some r) :
    Calls Tryd.prog 33 #[.int .u8 a0, .int .i64 a1] w fun e w' => e = .returned (.int .i64 r) ∧ Drawn0 w w' := by
  unfold octet_Digit.f at h
  by_cases hs : 0 ≤ a0 ∧ a0 < 256
  · rw [if_pos hs] at h
    obtain rfl := Option.some.inj h
    exact (digit_walk a0 a1 hs.1 hs.2 w).mono fun e w' ⟨he, hw⟩ => ⟨he, drawn_same hw⟩
  · rw [if_neg hs] at h
    cases h
def octet_Number.f (a0 : ByteArray) (a1 : Int) : Option (Int × Int × Int) := if a0.size ≤ 9223372036854775807 then some (numV a0.data.toList a1) else none
theorem octet_Number.calls (a0 : ByteArray) (a1 : Int) (r1 r2 r3 : Int) (w : World) (h : octet_Number.f a0 a1 = some (r1, r2, r3)) :
    Calls Tryd.prog 25 #[.string a0, .int .i64 a1] w fun e w' => e = .returned (.tuple #[.int .u64 r1, .int .i64 r2, .int .i64 r3]) ∧ Drawn0 w w' := by
  unfold octet_Number.f at h
  by_cases hs : a0.size ≤ 9223372036854775807
  · rw [if_pos hs] at h
    have h := Option.some.inj h
    refine (number_walk a0 a1 hs w).mono fun e w' ⟨he, hw⟩ => ⟨?_, drawn_same hw⟩
    rw [he, h]
  · rw [if_neg hs] at h
    cases h
end Go.Proofs.YtllhdekhgbbibaaDoor
