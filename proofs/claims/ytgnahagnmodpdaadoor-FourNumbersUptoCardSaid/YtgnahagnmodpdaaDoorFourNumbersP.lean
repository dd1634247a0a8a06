/- FourNumbers, plainly. -/
import Derived.Test.YtgnahagnmodpdaaDoorFourP2
import Derived.Test.YtgnahagnmodpdaaDoorX10
namespace Go.Proofs.YtgnahagnmodpdaaDoor
open Go.RowKit Go.Proofs.YtgnahagnmodpdaaDoorW.PrintWords Go.Proofs.YtgnahagnmodpdaaDoor.X Go.IntWalk
set_option linter.unusedVariables false
set_option linter.unusedSimpArgs false

theorem numbers_loop (L : List (List UInt8)) (hL : L.length ≤ 9223372036854775806) : ∀ (m i : Nat), i + m = L.length → Ev (fun k => posternlaw20_FourNumbers.l0 k (L.map BA) (L.map BA) (L.length : Int) (i : Int)) true
  | 0, i, hm => by
    refine Ev.step (f := fun k => some true) (fun k => ?_) (Ev.now _)
    simp only [posternlaw20_FourNumbers.l0]
    rw [if_neg (by omega)]
  | m + 1, i, hm => by
    have w1 : wrap64 ((i : Int) + 1) = ((i + 1 : Nat) : Int) := by rw [wrap64_in _ (by omega)]; omega
    refine Ev.step (f := fun k => posternlaw20_FourNumbers.l0 k (L.map BA) (L.map BA) (L.length : Int) ((i + 1 : Nat) : Int)) (fun k => ?_) (numbers_loop L hL m (i + 1) (by omega))
    simp only [posternlaw20_FourNumbers.l0]
    rw [w1, if_pos (by omega), if_pos (by omega), if_pos (by simp; omega), if_pos (by simp; omega)]
    simp only [if_true]
theorem numbers_true (s : ByteArray) (hs : s.size ≤ 4294967280) : Ev (fun k => posternlaw20_FourNumbers.f k s) true := by
  have hz := size_len s
  have hple := partsL_len (splitC 46 s.data.toList)
  have hsl := splitC_len 46 s.data.toList
  have hpl : (partsV s.data.toList).length ≤ s.data.toList.length + 1 := by unfold partsV; omega
  refine Ev.bind awake_ev ?_
  simp only [if_true]
  refine Ev.bind (number_ev s (by omega)) (Ev.bind (ref_number s (by omega)) ?_)
  refine Ev.bind (a := (partsV s.data.toList).map BA) (g := fun k => four_Parts.f s) ?_ (Ev.bind (ref_parts s (by omega)) ?_)
  · refine Ev.congr (f := fun k => some ((partsV s.data.toList).map BA)) (fun k => ?_) (Ev.now _)
    unfold four_Parts.f
    rw [parts_f s hs]
    rfl
  simp only [if_true]
  refine Ev.bind (four_ends s hs) (Ev.bind (ref_ends s hs) ?_)
  refine Ev.step (f := fun k => posternlaw20_FourNumbers.l0 k ((partsV s.data.toList).map BA) ((partsV s.data.toList).map BA) (((partsV s.data.toList).map BA).length : Int) ((0 : Nat) : Int)) (fun k => ?_) ?_
  · simp only [posternlaw20_FourNumbers.j0]
    rw [if_neg (by simp)]
    rfl
  · rw [List.length_map]
    exact numbers_loop _ (by omega) _ 0 (Nat.zero_add _)
theorem numbers_walk (s : ByteArray) (hs : s.size ≤ 4294967280) (w : World) (hG : GW w) :
    Calls Tryd.prog 4 #[.string s] w fun e w' => e = .returned (.bool true) ∧ Below w.heap.size w w' := by
  obtain ⟨k, h⟩ := (numbers_true s hs).rounds
  exact posternlaw20_FourNumbers.calls k s true w hG h
end Go.Proofs.YtgnahagnmodpdaaDoor
