/- What Cover answers. -/
import Derived.Test.YtcgdjnmfeibnoaaDoorSixCover
import Derived.Test.YtcgdjnmfeibnoaaDoorSixCmp
import Derived.Test.YtcgdjnmfeibnoaaDoorTail
namespace Go.Proofs.YtcgdjnmfeibnoaaDoor
open Go.RowKit
set_option linter.unusedVariables false
set_option linter.unusedSimpArgs false

set_option maxHeartbeats 1000000 in
set_option maxRecDepth 100000 in
theorem coverNone_walk (a0 a1 a2 a3 a4 a5 a6 a7 b0 b1 b2 b3 b4 b5 b6 b7 : Int) (ha : R8 a0 a1 a2 a3 a4 a5 a6 a7) (hb : R8 b0 b1 b2 b3 b4 b5 b6 b7) (h : V8 b0 b1 b2 b3 b4 b5 b6 b7 < V8 a0 a1 a2 a3 a4 a5 a6 a7) (w : World) :
    Calls Tryd.prog 10 #[A8 a0 a1 a2 a3 a4 a5 a6 a7, A8 b0 b1 b2 b3 b4 b5 b6 b7] w fun e w' => e = .returned (.tuple #[.slice none 0 0, .int .i64 1]) ∧ Below w.heap.size w w' := by
  go_enter Tryd.func10, Tryd.ntmps10
  go_wp2_with fail
  refine (compare_walk _ _ _ _ _ _ _ _ _ _ _ _ _ _ _ _ ha hb _).mono ?_
  rintro e w1 ⟨rfl, hb1⟩
  rw [cmpI_gt h]
  have B1 : Below w.heap.size w w1 := chain (by go_grown) hb1
  go_wp2_with fail
  go_returns
  exact ⟨rfl, B1⟩

set_option maxHeartbeats 1000000 in
set_option maxRecDepth 100000 in
theorem coverSome_walk (a0 a1 a2 a3 a4 a5 a6 a7 b0 b1 b2 b3 b4 b5 b6 b7 : Int) (ha : R8 a0 a1 a2 a3 a4 a5 a6 a7) (hb : R8 b0 b1 b2 b3 b4 b5 b6 b7) (h : V8 a0 a1 a2 a3 a4 a5 a6 a7 ≤ V8 b0 b1 b2 b3 b4 b5 b6 b7) (w : World)
    (hg : 0 < w.heap.size) (hT : Tab w) :
    Calls Tryd.prog 10 #[A8 a0 a1 a2 a3 a4 a5 a6 a7, A8 b0 b1 b2 b3 b4 b5 b6 b7] w fun e w' => ∃ v, e = .returned (.tuple #[v, .int .i64 0]) ∧
      w'.ownsRow w.heap.size 53 9 v (coverL (V8 a0 a1 a2 a3 a4 a5 a6 a7) (V8 b0 b1 b2 b3 b4 b5 b6 b7)).length (pcells (coverL (V8 a0 a1 a2 a3 a4 a5 a6 a7) (V8 b0 b1 b2 b3 b4 b5 b6 b7))) ∧ Below w.heap.size w w' := by
  go_enter Tryd.func10, Tryd.ntmps10
  go_wp2_with fail
  refine (compare_walk _ _ _ _ _ _ _ _ _ _ _ _ _ _ _ _ ha hb _).mono ?_
  rintro e w1 ⟨rfl, hb1⟩
  have hle : ¬ 0 < cmpI (V8 a0 a1 a2 a3 a4 a5 a6 a7) (V8 b0 b1 b2 b3 b4 b5 b6 b7) := by
    unfold cmpI; split
    · omega
    · rw [if_neg (by omega)]; omega
  generalize cmpI (V8 a0 a1 a2 a3 a4 a5 a6 a7) (V8 b0 b1 b2 b3 b4 b5 b6 b7) = c at *
  have B1 : Below w.heap.size w w1 := chain (by go_grown) hb1
  obtain ⟨hc1, _, hs1⟩ := after hb1
  simp only [World.size_alloc] at hs1
  have l0 : w.heap.size < w1.heap.size := by omega
  have l1 : w.heap.size + 1 < w1.heap.size := by omega
  have K0 : C8 w1 w.heap.size a0 a1 a2 a3 a4 a5 a6 a7 := C8_keep ⟨by go_simp, by go_simp, by go_simp, by go_simp, by go_simp, by go_simp, by go_simp, by go_simp⟩ (by simp only [World.size_alloc]; omega) hb1
  have K1 : C8 w1 (w.heap.size + 1) b0 b1 b2 b3 b4 b5 b6 b7 := C8_keep ⟨by go_simp, by go_simp, by go_simp, by go_simp, by go_simp, by go_simp, by go_simp, by go_simp⟩ (by simp only [World.size_alloc]; omega) hb1
  clear hc1 hs1 hb1
  go_wp2_with fail
  have hwa := v8_wide ha
  have hwb := v8_wide hb
  have hT1 := hT.keep hg B1
  have g1 : 0 < w1.heap.size := Nat.lt_of_lt_of_le hg B1.size
  have HT1 := Lib.hid hT1
  clear hT1 hT hg hle
  refine wp_region_ext_tail 4 (by kernel_rfl) (by kernel_rfl) ?_
  dsimp only [List.take, List.drop]
  repeat (go_big_quiet_step (first | (with_reducible exact ext_of (wideOf_at a0 a1 a2 a3 a4 a5 a6 a7 ha _)) | (with_reducible exact ext_of (wideOf_at b0 b1 b2 b3 b4 b5 b6 b7 hb _))))
  refine wpQuiet_nil ?_
  rintro _ ⟨⟨w2, hb2⟩, rfl⟩
  go_wp2_with fail
  refine (cover_walk _ _ hwa hwb h _ (Nat.lt_of_lt_of_le g1 hb2.size) (HT1.out.keep g1 hb2)).mono ?_
  rintro e w3 ⟨v, rfl, hown, hb3⟩
  go_wp2_with fail
  go_returns
  exact ⟨_, rfl, World.ownsRow.mono hown (Nat.le_trans B1.size hb2.size), chain (chain B1 hb2) hb3⟩
end Go.Proofs.YtcgdjnmfeibnoaaDoor
