/- prefixes: of two rows of the same prefixes it answers true. -/
import Derived.Test.YtcgdjnmfeibnoaaDoorSixRefCover
import Derived.Deep.AppendLies
namespace Go.Proofs.YtcgdjnmfeibnoaaDoor
open Go.RowKit
set_option linter.unusedVariables false
set_option linter.unusedSimpArgs false

theorem pcells_get : ∀ (l : List (Int × Nat)) (k : Nat) (p : Int × Nat), l[k]? = some p → ∀ j, j < 9 → (pcells l)[k * 9 + j]? = (pcell p)[j]?
  | [], k, p, h, j, hj => by simp at h
  | q :: l, 0, p, h, j, hj => by
    obtain rfl : q = p := by simpa using h
    show (pcell q ++ pcells l)[0 * 9 + j]? = _
    rw [List.getElem?_append_left (by simp [pcell]; omega), Nat.zero_mul, Nat.zero_add]
  | q :: l, k + 1, p, h, j, hj => by
    show (pcell q ++ pcells l)[(k + 1) * 9 + j]? = _
    rw [List.getElem?_append_right (by simp [pcell]; omega), show (k + 1) * 9 + j - (pcell q).length = k * 9 + j from by simp [pcell]; omega]
    exact pcells_get l k p (by simpa using h) j hj

/-- The cells of a row of prefixes. -/
def Row9 (W : World) (g n : Nat) (l : List (Int × Nat)) : Prop := ∀ k p, l[k]? = some p → CA W g p.1 = CA W g p.1 ∧ ∀ j, j < 9 → W.cell? ⟨g, k * 9 + j, none⟩ = (pcell p)[j]?
theorem row9_of {W : World} {base g n cap : Nat} {e : TypeId} {l : List (Int × Nat)} (h : W.ownsRow base e 9 (.slice (some ⟨g, 0, none⟩) n cap) n (pcells l)) (hn : n = l.length) : Row9 W g n l := by
  intro k p hk
  have hkl : k < l.length := by
    obtain ⟨h1, _⟩ := List.getElem?_eq_some_iff.1 hk
    exact h1
  exact ⟨rfl, fun j hj => by rw [h.cellAt _ (by omega), pcells_get l k p hk j hj]⟩

theorem drewN_two (w : World) (m n : Nat) : (w.drewN m).drewN n = w.drewN (m + n) := by simp [World.drewN, Nat.add_assoc]
def SameRel (w : World) (n : Nat) (i : Value) (W : World) : Prop := ∃ k : Nat, k ≤ n ∧ i = .int .i64 k ∧ ∃ m, W = w.drewN m

set_option maxHeartbeats 4000000 in
set_option maxRecDepth 100000 in
theorem same_walk (l : List (Int × Nat)) (g1 g2 c1 c2 : Nat) (w : World) (hl : l.length ≤ 258) (h1 : Row9 w g1 l.length l) (h2 : Row9 w g2 l.length l) :
    Calls Tryd.prog 13 #[.slice (some ⟨g1, 0, none⟩) l.length c1, .slice (some ⟨g2, 0, none⟩) l.length c2] w fun e w' => e = .returned (.bool true) ∧ Below w.heap.size w w' := by
  go_enter Tryd.func13, Tryd.ntmps13
  have H1 := Lib.hid h1
  have H2 := Lib.hid h2
  clear h1 h2
  go_wp2_with fail
  go_loopw [5] (fun i W => SameRel w l.length i W) (fun i _ => l.length - (intOf i).toNat)
  case atStart => exact ⟨0, Nat.zero_le _, rfl, 0, rfl⟩
  case round =>
    obtain ⟨k, hk, rfl, m, rfl⟩ := hrel
    by_cases hlt : k < l.length
    · obtain ⟨p, hp⟩ : ∃ p, l[k]? = some p := ⟨l[k], List.getElem?_eq_getElem hlt⟩
      have r1 := (H1.out k p hp).2
      have r2 := (H2.out k p hp).2
      have a0 := r1 0 (by decide)
      have a1 := r1 1 (by decide)
      have a2 := r1 2 (by decide)
      have a3 := r1 3 (by decide)
      have a4 := r1 4 (by decide)
      have a5 := r1 5 (by decide)
      have a6 := r1 6 (by decide)
      have a7 := r1 7 (by decide)
      have a8 := r1 8 (by decide)
      have b0 := r2 0 (by decide)
      have b1 := r2 1 (by decide)
      have b2 := r2 2 (by decide)
      have b3 := r2 3 (by decide)
      have b4 := r2 4 (by decide)
      have b5 := r2 5 (by decide)
      have b6 := r2 6 (by decide)
      have b7 := r2 7 (by decide)
      have b8 := r2 8 (by decide)
      clear r1 r2
      have HP := Lib.hid hp
      clear hp
      dsimp only [pcell, List.getElem?_cons_zero, List.getElem?_cons_succ] at a0 a1 a2 a3 a4 a5 a6 a7 a8 b0 b1 b2 b3 b4 b5 b6 b7 b8
      simp only [Nat.add_zero] at a0 b0
      go_wp2_with fail
      go_quiet (fail)
      go_wp2_with fail
      exact ⟨⟨k + 1, by omega, by simp, m + nq, rfl⟩, by simp [intOf]; omega⟩
    · obtain rfl : k = l.length := by omega
      go_wp2_with fail
      go_returns
      exact ⟨rfl, bdn (Below.refl _ _) _⟩
end Go.Proofs.YtcgdjnmfeibnoaaDoor
