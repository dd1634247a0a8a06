/- FourEnds, plainly. -/
import Derived.Test.YtgnahagnmodpdaaDoorFourG
import Derived.Test.YtgnahagnmodpdaaDoorFourParsesP
import Derived.Test.YtgnahagnmodpdaaDoorX11
namespace Go.Proofs.YtgnahagnmodpdaaDoor
open Go.RowKit Go.Proofs.YtgnahagnmodpdaaDoorW.PrintWords Go.Proofs.YtgnahagnmodpdaaDoor.X Go.IntWalk
set_option linter.unusedVariables false
set_option linter.unusedSimpArgs false

theorem ends_j2 (s : ByteArray) (hs : s.size ≤ 4294967279) (b : Bool) (hb : b = false → s.data.toList ≠ [] ∧ s.data.toList.getLast? ≠ some 46) :
    Ev (fun k => posternlaw20_FourEnds.j2 k s (parseV s.data.toList).1 (parseV s.data.toList).2.1 (parseV s.data.toList).2.2 b) true := by
  cases b with
  | true =>
    refine Ev.step (f := fun k => some true) (fun k => ?_) (Ev.now _)
    simp only [posternlaw20_FourEnds.j2, if_true]
  | false =>
    obtain ⟨h1, h2⟩ := hb rfl
    have ed : (s ++ (⟨#[46]⟩ : ByteArray)).data.toList = s.data.toList ++ [46] := by simp
    have ez : (s ++ (⟨#[46]⟩ : ByteArray)).size ≤ 4294967280 := by rw [size_len, ed]; have := size_len s; simp; omega
    have p1 := parse_ev (s ++ (⟨#[46]⟩ : ByteArray)) ez
    have e1 := four_ends (s ++ (⟨#[46]⟩ : ByteArray)) ez
    rw [ed, parseV_stop _ h1 h2] at p1
    rw [ed, endsV_stop _ h1 h2] at e1
    refine Ev.step (f := fun k => (four_Parse.f (s ++ (⟨#[46]⟩ : ByteArray))).bind fun bt227 => (if bt227.1 = (parseV s.data.toList).1 then (if bt227.2.1 = (parseV s.data.toList).2.1 then (if bt227.2.2 = (parseV s.data.toList).2.2 then ((four_Ends.f k (s ++ (⟨#[46]⟩ : ByteArray))).bind fun t230 => ((four_Ends.f k s).bind fun t231 => (some (t230 == t231)))) else (some false)) else (some false)) else (some false))) (fun k => ?_) (Ev.bind p1 ?_)
    · simp only [posternlaw20_FourEnds.j2]
      rw [if_neg (by simp), if_pos (by omega)]
    · simp only [if_true]
      refine Ev.bind e1 (Ev.bind (four_ends s (by omega)) ?_)
      simp only [beq_self_eq_true]
      exact Ev.now _
theorem ends_j1 (s : ByteArray) (hs : s.size ≤ 4294967279) :
    Ev (fun k => posternlaw20_FourEnds.j1 k s (parseV s.data.toList).1 (parseV s.data.toList).2.1 (parseV s.data.toList).2.2 false) true := by
  have hz := size_len s
  by_cases h0 : s.data.toList = []
  · refine Ev.step (fun k => ?_) (ends_j2 s hs true (by simp))
    simp only [posternlaw20_FourEnds.j1]
    rw [if_neg (by simp), if_pos (by rw [toList_data]; exact h0)]
  · have hl : 0 < s.data.toList.length := List.length_pos_iff.2 h0
    have w1 : wrap64 ((s.size : Int) - 1) = ((s.data.toList.length - 1 : Nat) : Int) := by rw [wrap64_in _ (by omega)]; omega
    have hg := bt_get s (s.data.toList.length - 1) (by omega)
    refine Ev.step (fun k => ?_) (ends_j2 s hs ((bt s ((s.data.toList.length - 1 : Nat) : Int)) == 46) ?_)
    · simp only [posternlaw20_FourEnds.j1]
      rw [if_neg (by simp), if_neg (by rw [toList_data]; exact h0), w1, if_pos (by omega), if_pos (by omega)]
    · intro h
      refine ⟨h0, fun e => ?_⟩
      rw [List.getLast?_eq_getElem?, List.getElem?_eq_getElem (by omega)] at e
      rw [hg, Option.some.inj e] at h
      exact absurd h (by decide)
theorem ends_j0 (s : ByteArray) (hs : s.size ≤ 4294967279) :
    Ev (fun k => posternlaw20_FourEnds.j0 k s (parseV s.data.toList).1 (parseV s.data.toList).2.1 (parseV s.data.toList).2.2 false) true := by
  refine Ev.step (f := fun k => (four_Strict.f k s).bind fun bt224 => (if bt224.2.2 = 0 then (posternlaw20_FourEnds.j1 k s (parseV s.data.toList).1 (parseV s.data.toList).2.1 (parseV s.data.toList).2.2 ((parseV s.data.toList).2.2 != 0)) else (posternlaw20_FourEnds.j1 k s (parseV s.data.toList).1 (parseV s.data.toList).2.1 (parseV s.data.toList).2.2 false))) (fun k => ?_) (Ev.bind (strict_ev s (by omega)) ?_)
  · simp only [posternlaw20_FourEnds.j0]
    rw [if_neg (by simp)]
  · by_cases h : (strictV s.data.toList).2.2 = 0
    · have hp : ((parseV s.data.toList).2.2 != 0) = false := by rw [strict_parse h]; rfl
      simp only [if_pos h, hp]
      exact ends_j1 s hs
    · simp only [if_neg h]
      exact ends_j1 s hs
theorem ends_true (s : ByteArray) (hs : s.size ≤ 4294967279) : Ev (fun k => posternlaw20_FourEnds.f k s) true := by
  refine Ev.bind awake_ev ?_
  simp only [if_true]
  refine Ev.bind (parse_ev s (by omega)) ?_
  by_cases h : (parseV s.data.toList).2.2 = 0
  · simp only [if_pos h]
    have he := four_ends s (by omega)
    rw [parse_ends h] at he
    refine Ev.bind he ?_
    simp only [if_true]
    exact ends_j0 s hs
  · have hp : ((parseV s.data.toList).1 != 0) = false := by unfold parseV at h ⊢; rw [parseP_err h]; rfl
    simp only [if_neg h, hp]
    exact ends_j0 s hs
theorem ends_walk (s : ByteArray) (hs : s.size ≤ 4294967279) (w : World) (hG : GW w) :
    Calls Tryd.prog 7 #[.string s] w fun e w' => e = .returned (.bool true) ∧ Below w.heap.size w w' := by
  obtain ⟨k, h⟩ := (ends_true s hs).rounds
  exact posternlaw20_FourEnds.calls k s true w hG h
end Go.Proofs.YtgnahagnmodpdaaDoor
