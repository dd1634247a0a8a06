/- What Print answers; that the layer is awake. -/
import Derived.Test.YtcgdjnmfeibnoaaDoorSixText
namespace Go.Proofs.YtcgdjnmfeibnoaaDoor
open Go.RowKit
set_option linter.unusedVariables false
set_option linter.unusedSimpArgs false

/-- The text of an address. -/
def printL (x0 x1 x2 x3 x4 x5 x6 x7 : Int) : List UInt8 := textL [x0.toNat, x1.toNat, x2.toNat, x3.toNat, x4.toNat, x5.toNat, x6.toNat, x7.toNat]

set_option maxHeartbeats 2000000 in
set_option maxRecDepth 100000 in
theorem print_walk (x0 x1 x2 x3 x4 x5 x6 x7 : Int) (h : R8 x0 x1 x2 x3 x4 x5 x6 x7) (w : World) :
    Calls Tryd.prog 17 #[A8 x0 x1 x2 x3 x4 x5 x6 x7] w fun e w' => e = .returned (.string ⟨(printL x0 x1 x2 x3 x4 x5 x6 x7).toArray⟩) ∧ Below w.heap.size w w' := by
  obtain ⟨⟨a0, b0⟩, ⟨a1, b1⟩, ⟨a2, b2⟩, ⟨a3, b3⟩, ⟨a4, b4⟩, ⟨a5, b5⟩, ⟨a6, b6⟩, ⟨a7, b7⟩⟩ := h
  obtain ⟨n0, rfl⟩ := Int.eq_ofNat_of_zero_le a0
  obtain ⟨n1, rfl⟩ := Int.eq_ofNat_of_zero_le a1
  obtain ⟨n2, rfl⟩ := Int.eq_ofNat_of_zero_le a2
  obtain ⟨n3, rfl⟩ := Int.eq_ofNat_of_zero_le a3
  obtain ⟨n4, rfl⟩ := Int.eq_ofNat_of_zero_le a4
  obtain ⟨n5, rfl⟩ := Int.eq_ofNat_of_zero_le a5
  obtain ⟨n6, rfl⟩ := Int.eq_ofNat_of_zero_le a6
  obtain ⟨n7, rfl⟩ := Int.eq_ofNat_of_zero_le a7
  have hT := text_walk [n0, n1, n2, n3, n4, n5, n6, n7] w.heap.size 8 (w.alloc (.cells #[.int .u16 n0, .int .u16 n1, .int .u16 n2, .int .u16 n3, .int .u16 n4, .int .u16 n5, .int .u16 n6, .int .u16 n7] 24))
    (by simp) (by simp) (by simp) (by
      intro x hx
      simp only [List.mem_cons, List.not_mem_nil, or_false] at hx
      omega)
    (by
      intro j hj
      have hb : (w.alloc (.cells #[.int .u16 n0, .int .u16 n1, .int .u16 n2, .int .u16 n3, .int .u16 n4, .int .u16 n5, .int .u16 n6, .int .u16 n7] 24)).heap[w.heap.size]? = some (.cells #[.int .u16 n0, .int .u16 n1, .int .u16 n2, .int .u16 n3, .int .u16 n4, .int .u16 n5, .int .u16 n6, .int .u16 n7] 24 (0, 0)) := heap_alloc_new w _
      rw [Lib.cell_of_heap hb]
      match j, hj with
      | 0, _ => rfl
      | 1, _ => rfl
      | 2, _ => rfl
      | 3, _ => rfl
      | 4, _ => rfl
      | 5, _ => rfl
      | 6, _ => rfl
      | 7, _ => rfl
      | j + 8, hj => exact absurd hj (by simp))
  have HT := Lib.hid hT
  clear hT
  go_enter Tryd.func17, Tryd.ntmps17
  go_wp2_with fail
  refine (HT.out).mono ?_
  rintro e w1 ⟨rfl, hb⟩
  go_wp2_with fail
  go_returns
  exact ⟨rfl, ((Below.refl _ _).alloc (Nat.le_refl _) _).trans (hb.mono (by simp))⟩

theorem revHex_one : revHex 1 = [49] := by rw [revHex_last (by decide)]; rfl
theorem text_one : textL [0, 0, 0, 0, 0, 0, 0, 1] = [58, 58, 49] := by
  unfold textL
  rw [show runL [0, 0, 0, 0, 0, 0, 0, 1] = (0, 7) from by decide]
  simp [textGo, textAt, hexL, revHex_one]

set_option maxHeartbeats 1000000 in
set_option maxRecDepth 100000 in
theorem awake_walk (w : World) : Calls Tryd.prog 12 #[] w fun e w' => e = .returned (.bool true) ∧ Below w.heap.size w w' := by
  go_enter Tryd.func12, Tryd.ntmps12
  go_wp2_with fail
  refine (print_walk 0 0 0 0 0 0 0 1 ⟨by decide, by decide, by decide, by decide, by decide, by decide, by decide, by decide⟩ _).mono ?_
  rintro e w1 ⟨rfl, hb⟩
  rw [show printL 0 0 0 0 0 0 0 1 = [58, 58, 49] from text_one]
  go_wp2_with fail
  go_returns
  exact ⟨rfl, hb⟩
end Go.Proofs.YtcgdjnmfeibnoaaDoor
