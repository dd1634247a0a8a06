/- SixCovers: the walk of the law. -/
import Derived.Test.YtcgdjnmfeibnoaaDoorSixCover2
import Derived.Test.YtcgdjnmfeibnoaaDoorSixSame
import Derived.Test.YtcgdjnmfeibnoaaDoorSixPrint
namespace Go.Proofs.YtcgdjnmfeibnoaaDoor
open Go.RowKit
set_option linter.unusedVariables false
set_option linter.unusedSimpArgs false

theorem a8_av {x0 x1 x2 x3 x4 x5 x6 x7 : Int} (h : R8 x0 x1 x2 x3 x4 x5 x6 x7) : A8 x0 x1 x2 x3 x4 x5 x6 x7 = AV (V8 x0 x1 x2 x3 x4 x5 x6 x7) := by
  obtain ⟨v, hv⟩ : ∃ v, V8 x0 x1 x2 x3 x4 x5 x6 x7 = v := ⟨_, rfl⟩
  rw [hv]
  obtain ⟨rfl, rfl, rfl, rfl, rfl, rfl, rfl, rfl⟩ := pc_of h hv
  rfl
theorem refCover_at (a0 a1 a2 a3 a4 a5 a6 a7 b0 b1 b2 b3 b4 b5 b6 b7 : Int) (ha : R8 a0 a1 a2 a3 a4 a5 a6 a7) (hb : R8 b0 b1 b2 b3 b4 b5 b6 b7) (h : V8 a0 a1 a2 a3 a4 a5 a6 a7 ≤ V8 b0 b1 b2 b3 b4 b5 b6 b7) (w : World) :
    Calls Tryd.prog 14 #[A8 a0 a1 a2 a3 a4 a5 a6 a7, A8 b0 b1 b2 b3 b4 b5 b6 b7] w fun e w' => ∃ v, e = .returned v ∧
      w'.ownsRow w.heap.size 61 9 v (coverL (V8 a0 a1 a2 a3 a4 a5 a6 a7) (V8 b0 b1 b2 b3 b4 b5 b6 b7)).length (pcells (coverL (V8 a0 a1 a2 a3 a4 a5 a6 a7) (V8 b0 b1 b2 b3 b4 b5 b6 b7))) ∧ Below w.heap.size w w' := by
  rw [a8_av ha, a8_av hb]
  exact refCover_walk _ _ (v8_wide ha) (v8_wide hb) h w
theorem coverL_pos (f t : Int) : 0 < (coverL f t).length := by rw [coverL]; simp
/-- How many prefixes there may be. -/
theorem coverL_short {f t : Int} (hf : Wide f) (ht : Wide t) (h : f ≤ t) : (coverL f t).length ≤ 258 := by
  have key : ∀ (n : Nat) (g : Int) (k : Nat), (t + 1 - g).toNat ≤ n → 0 ≤ g → g ≤ t → Phase k g t → k + (coverL g t).length ≤ 258 := by
    intro n
    induction n with
    | zero => intro g k hn h0 hg; omega
    | succ n ih =>
      intro g k hn h0 hg hp
      have hK := keepOf_keep hg
      have hp2 := pow_pos2 (128 - keepOf g t)
      by_cases hm : g + 2 ^ (128 - keepOf g t) ≤ t
      · rw [coverL_more hg hK hm, List.length_cons]
        have := ih _ (k + 1) (by omega) (by omega) hm (hp.step h0 ht.2 hK hm)
        omega
      · rw [coverL_last hg hK hm]
        have := hp.le
        simp
        omega
  have := key _ f 0 (Nat.le_refl _) hf.1 h (Or.inl ⟨by omega, by simp⟩)
  omega

set_option maxHeartbeats 4000000 in
set_option maxRecDepth 100000 in
theorem covers_walk (a0 a1 a2 a3 a4 a5 a6 a7 b0 b1 b2 b3 b4 b5 b6 b7 : Int) (ha : R8 a0 a1 a2 a3 a4 a5 a6 a7) (hb : R8 b0 b1 b2 b3 b4 b5 b6 b7) (w : World) (hg : 0 < w.heap.size) (hT : Tab w) :
    Calls Tryd.prog 3 #[A8 a0 a1 a2 a3 a4 a5 a6 a7, A8 b0 b1 b2 b3 b4 b5 b6 b7] w fun e w' => e = .returned (.bool true) ∧ Below w.heap.size w w' := by
  by_cases hlt : V8 b0 b1 b2 b3 b4 b5 b6 b7 < V8 a0 a1 a2 a3 a4 a5 a6 a7
  · go_enter Tryd.func3, Tryd.ntmps3
    clear hT
    go_wp2_with fail
    refine (coverNone_walk _ _ _ _ _ _ _ _ _ _ _ _ _ _ _ _ ha hb hlt _).mono ?_
    rintro e w1 ⟨rfl, hb1⟩
    have B1 : Below w.heap.size w w1 := chain (by go_grown) hb1
    have hs1 := hb1.size
    simp only [World.size_alloc] at hs1
    have l0 : w.heap.size < w1.heap.size := by omega
    have l1 : w.heap.size + 1 < w1.heap.size := by omega
    have K0 : C8 w1 w.heap.size a0 a1 a2 a3 a4 a5 a6 a7 := C8_keep ⟨by go_simp, by go_simp, by go_simp, by go_simp, by go_simp, by go_simp, by go_simp, by go_simp⟩ (by simp only [World.size_alloc]; omega) hb1
    have K1 : C8 w1 (w.heap.size + 1) b0 b1 b2 b3 b4 b5 b6 b7 := C8_keep ⟨by go_simp, by go_simp, by go_simp, by go_simp, by go_simp, by go_simp, by go_simp, by go_simp⟩ (by simp only [World.size_alloc]; omega) hb1
    clear hb1 hs1
    go_wp2_with fail
    refine (refCompare_walk _ _ _ _ _ _ _ _ _ _ _ _ _ _ _ _ ha hb _).mono ?_
    rintro e w2 ⟨rfl, hb2⟩
    rw [cmpI_gt hlt]
    go_wp2_with fail
    refine (awake_walk _).mono ?_
    rintro e w3 ⟨rfl, hb3⟩
    go_wp2_with fail
    go_returns
    exact ⟨rfl, chain (chain B1 hb2) hb3⟩
  · have hle : V8 a0 a1 a2 a3 a4 a5 a6 a7 ≤ V8 b0 b1 b2 b3 b4 b5 b6 b7 := by omega
    have hlen := coverL_short (v8_wide ha) (v8_wide hb) hle
    go_enter Tryd.func3, Tryd.ntmps3
    have HT := Lib.hid hT
    have HLEN := Lib.hid hlen
    clear hT hlt hlen
    go_wp2_with fail
    refine (coverSome_walk _ _ _ _ _ _ _ _ _ _ _ _ _ _ _ _ ha hb hle _ (by simp only [World.size_alloc]; omega) (HT.out.keep (B := w.heap.size) hg (by go_grown))).mono ?_
    rintro e w1 ⟨v, rfl, hown, hb1⟩
    have B1 : Below w.heap.size w w1 := chain (by go_grown) hb1
    have hs1 := hb1.size
    simp only [World.size_alloc] at hs1
    have l0 : w.heap.size < w1.heap.size := by omega
    have l1 : w.heap.size + 1 < w1.heap.size := by omega
    have K0 : C8 w1 w.heap.size a0 a1 a2 a3 a4 a5 a6 a7 := C8_keep ⟨by go_simp, by go_simp, by go_simp, by go_simp, by go_simp, by go_simp, by go_simp, by go_simp⟩ (by simp only [World.size_alloc]; omega) hb1
    have K1 : C8 w1 (w.heap.size + 1) b0 b1 b2 b3 b4 b5 b6 b7 := C8_keep ⟨by go_simp, by go_simp, by go_simp, by go_simp, by go_simp, by go_simp, by go_simp, by go_simp⟩ (by simp only [World.size_alloc]; omega) hb1
    obtain ⟨L, hL⟩ : ∃ L, L = coverL (V8 a0 a1 a2 a3 a4 a5 a6 a7) (V8 b0 b1 b2 b3 b4 b5 b6 b7) := ⟨_, rfl⟩
    have hpos := coverL_pos (V8 a0 a1 a2 a3 a4 a5 a6 a7) (V8 b0 b1 b2 b3 b4 b5 b6 b7)
    have hC := refCover_at _ _ _ _ _ _ _ _ _ _ _ _ _ _ _ _ ha hb hle
    have hlen := HLEN.out
    rw [← hL] at hown hpos hC hlen
    have HC := Lib.hid hC
    clear hb1 hs1 hL hC HLEN
    go_wp2_with fail
    refine (refCompare_walk _ _ _ _ _ _ _ _ _ _ _ _ _ _ _ _ ha hb _).mono ?_
    rintro e w2 ⟨rfl, hb2⟩
    have hc := cmpI_le hle
    generalize cmpI (V8 a0 a1 a2 a3 a4 a5 a6 a7) (V8 b0 b1 b2 b3 b4 b5 b6 b7) = c at *
    replace K0 := C8_keep K0 l0 hb2
    replace K1 := C8_keep K1 l1 hb2
    replace l0 := Nat.lt_of_lt_of_le l0 hb2.size
    replace l1 := Nat.lt_of_lt_of_le l1 hb2.size
    replace hown := own_below hown hb2
    replace B1 := chain B1 hb2
    clear hb2
    go_wp2_with fail
    refine (awake_walk _).mono ?_
    rintro e w3 ⟨rfl, hb3⟩
    replace K0 := C8_keep K0 l0 hb3
    replace K1 := C8_keep K1 l1 hb3
    replace l0 := Nat.lt_of_lt_of_le l0 hb3.size
    replace l1 := Nat.lt_of_lt_of_le l1 hb3.size
    replace hown := own_below hown hb3
    replace B1 := chain B1 hb3
    clear hb3
    go_wp2_with fail
    refine (HC.out _).mono ?_
    rintro e w4 ⟨u, rfl, hown2, hb4⟩
    replace hown := own_below hown hb4
    replace B1 := chain B1 hb4
    rcases hown.2 with ⟨_, h0⟩ | ⟨g1, c1, cur1, rfl, _⟩
    · omega
    rcases hown2.2 with ⟨_, h0⟩ | ⟨g2, c2, cur2, rfl, _⟩
    · omega
    have r1 := row9_of hown rfl
    have r2 := row9_of hown2 rfl
    clear hb4 hown hown2
    go_wp2_with fail
    refine (same_walk L g1 g2 c1 c2 _ hlen r1 r2).mono ?_
    rintro e w5 ⟨rfl, hb5⟩
    go_wp2_with fail
    go_returns
    exact ⟨rfl, chain B1 hb5⟩
end Go.Proofs.YtcgdjnmfeibnoaaDoor
