/- LineFields: the walk of the law. -/
import Derived.Test.YtllhdekhgbbibaaDoorLineP
import Derived.Test.YtllhdekhgbbibaaDoorExt
import Derived.Outline
import Derived.Laws.Cover4
namespace Go.Proofs.YtllhdekhgbbibaaDoor
open Go.RowKit Go.Proofs.YtllhdekhgbbibaaDoorW.PrintWords Go.Proofs.YtllhdekhgbbibaaDoor.X
set_option linter.unusedVariables false
set_option linter.unusedSimpArgs false

theorem conv_runes {w : World} {A : Option Addr} {n c : Nat} {xs : List Int} (h : Kd.C (Kd.int .i32) w A n xs) :
    (convert 33 9 (.slice A n c)).run Tryd.prog w = .ok (.string (runesBytes xs)) w := by
  have hn := h.1
  cases n with
  | zero =>
    obtain rfl : xs = [] := List.length_eq_zero_iff.1 hn
    cases A with
    | none => exact run_convert_runes_nil w _ _ 21 0 c Tryd.underlying33 Tryd.underlying21 Tryd.underlying9
    | some a => exact run_convert_runes w _ _ 21 a 0 c [] (Nat.le_refl _) Tryd.underlying33 Tryd.underlying21 Tryd.underlying9 (fun j hj => by simp at hj)
  | succ n =>
    obtain ⟨ad, rfl, _⟩ := Kd.at_int h 0 (by omega) (by omega)
    have := run_convert_runes w 33 9 21 ad (n + 1) c xs (by omega) Tryd.underlying33 Tryd.underlying21 Tryd.underlying9 (fun j hj => by
      obtain ⟨ad', e, hc⟩ := Kd.at_int h (j : Int) (by omega) (by omega)
      cases e
      simpa [rd] using hc)
    rw [List.take_of_length_le (by omega)] at this
    exact this

set_option maxHeartbeats 4000000 in
set_option maxRecDepth 100000 in
theorem lineFields_walk (s : ByteArray) (hs : s.size ≤ 1048576) (w : World) (hG : GW w) :
    Calls Tryd.prog 3 #[.string s] w fun e w' => e = .returned (.bool true) ∧ Below w.heap.size w w' := by
  obtain ⟨⟨p1, p2⟩, hp⟩ : ∃ p, p = pointV s.data.toList := ⟨_, rfl⟩
  obtain ⟨⟨q1, q2, q3⟩, hq⟩ : ∃ p, p = rangeV s.data.toList := ⟨_, rfl⟩
  obtain ⟨⟨l1, l2, l3⟩, hl⟩ : ∃ p, p = seqV s.data.toList := ⟨_, rfl⟩
  obtain ⟨⟨v1, v2⟩, hv⟩ : ∃ p, p = wholeV s.data.toList := ⟨_, rfl⟩
  have P1 := Aside0.mk (line_point s (by omega))
  obtain ⟨k1, R1⟩ := (ref_point s).rounds
  have P2 := Aside0.mk (line_range s (by omega))
  obtain ⟨k2, R2⟩ := (ref_range s hs).rounds
  obtain ⟨k3, P3⟩ := (line_seq s hs).rounds
  obtain ⟨k4, R3⟩ := (ref_seq s hs).rounds
  obtain ⟨k5, P4⟩ := (line_whole s hs).rounds
  obtain ⟨k6, R4⟩ := (ref_whole s hs).rounds
  rw [← hp] at P1 R1
  rw [← hq] at P2 R2
  rw [← hl] at P3 R3
  rw [← hv] at P4 R4
  replace R1 := Aside0.mk R1
  replace R2 := Aside0.mk R2
  replace P3 := Aside0.mk P3
  replace R3 := Aside0.mk R3
  replace P4 := Aside0.mk P4
  replace R4 := Aside0.mk R4
  have HG := Aside0.mk hG
  clear hp hq hl hv hG
  go_enter Tryd.func3, Tryd.ntmps3
  go_wp2_with fail
  refine (line_Point.calls s p1 p2 _ P1.out).mono ?_
  rintro e w1 ⟨rfl, hd1⟩
  have hb1 := hd1.below
  clear hd1
  go_wp2_with fail
  refine (posternref09_Point.calls k1 s p1 p2 _ R1.out).mono ?_
  rintro e w2 ⟨rfl, hd2⟩
  have hb2 := below_step hb1 hd2.below
  clear hd2 hb1
  go_wp2_with fail
  refine (line_Range.calls s q1 q2 q3 _ (HG.out.keep hb2) P2.out).mono ?_
  rintro e w3 ⟨rfl, hb3⟩
  have hb3 := below_step hb2 hb3
  clear hb2
  go_wp2_with fail
  refine (posternref09_Range.calls k2 s q1 q2 q3 _ R2.out).mono ?_
  rintro e w4 ⟨rfl, hd4⟩
  have hA := hd4.below
  have c0 : w4.cell? ⟨w3.heap.size, 0, none⟩ = some (.int .i32 q1) := (hA.cell (p := ⟨w3.heap.size, 0, none⟩) (by simp)).trans (by go_simp)
  have c1 : w4.cell? ⟨w3.heap.size, 1, none⟩ = some (.int .i32 q2) := (hA.cell (p := ⟨w3.heap.size, 1, none⟩) (by simp)).trans (by go_simp)
  have l0 : w3.heap.size < w4.heap.size := Nat.lt_of_lt_of_le (by simp) hA.size
  have hb4 : Below w.heap.size w w4 := below_step (below_alloc hb3 _) hA
  clear hA hd4 hb3
  generalize w3.heap.size = g at *
  go_wp2_with fail
  refine (line_Sequence.calls k3 s l1 l2 l3 _ (HG.out.keep hb4) P3.out).mono ?_
  rintro e w5 ⟨v5, rfl, hr5, hb5⟩
  replace c0 := (hb5.cell (p := ⟨g, 0, none⟩) l0).trans c0
  replace c1 := (hb5.cell (p := ⟨g, 1, none⟩) l0).trans c1
  replace l0 := Nat.lt_of_lt_of_le l0 hb5.size
  replace hb4 := below_step hb4 hb5
  obtain ⟨A5, a5, rfl, hle5, hC5⟩ := Kd.R_reads hr5
  clear hr5 hb5
  go_wp2_with fail
  refine (posternref09_Sequence.calls k4 s l1 l2 l3 _ R3.out).mono ?_
  rintro e w6 ⟨v6, rfl, hr6, hb6⟩
  replace c0 := (hb6.cell (p := ⟨g, 0, none⟩) l0).trans c0
  replace c1 := (hb6.cell (p := ⟨g, 1, none⟩) l0).trans c1
  replace l0 := Nat.lt_of_lt_of_le l0 hb6.size
  replace hb4 := below_step hb4 hb6
  replace hC5 := Kd.C_below hC5 hb6
  obtain ⟨A6, a6, rfl, hle6, hC6⟩ := Kd.R_reads hr6
  clear hr6 hb6
  go_wp2_with fail
  refine (line_Whole.calls k5 s v1 v2 _ P4.out).mono ?_
  rintro e w7 ⟨rfl, hd7⟩
  have hb7 := hd7.below
  replace c0 := (hb7.cell (p := ⟨g, 0, none⟩) l0).trans c0
  replace c1 := (hb7.cell (p := ⟨g, 1, none⟩) l0).trans c1
  replace l0 := Nat.lt_of_lt_of_le l0 hb7.size
  replace hb4 := below_step hb4 hb7
  replace hC5 := Kd.C_below hC5 hb7
  replace hC6 := Kd.C_below hC6 hb7
  clear hd7 hb7
  go_wp2_with fail
  refine (posternref09_Whole.calls k6 s v1 v2 _ R4.out).mono ?_
  rintro e w8 ⟨rfl, hd8⟩
  have hb8 := hd8.below
  replace c0 := (hb8.cell (p := ⟨g, 0, none⟩) l0).trans c0
  replace c1 := (hb8.cell (p := ⟨g, 1, none⟩) l0).trans c1
  replace l0 := Nat.lt_of_lt_of_le l0 hb8.size
  replace hb4 := below_step hb4 hb8
  replace hC5 := Kd.C_below hC5 hb8
  replace hC6 := Kd.C_below hC6 hb8
  clear hd8 hb8
  go_wp2_with fail
  refine (posternlaw09_awake.calls true _ awake_true).mono ?_
  rintro e w9 ⟨rfl, hd9⟩
  have hb9 := hd9.below
  replace c0 := (hb9.cell (p := ⟨g, 0, none⟩) l0).trans c0
  replace c1 := (hb9.cell (p := ⟨g, 1, none⟩) l0).trans c1
  replace hb4 := below_step hb4 hb9
  have V5 := conv_runes (c := a5) (Kd.C_below hC5 hb9)
  have V6 := conv_runes (c := a6) (Kd.C_below hC6 hb9)
  clear hd9 hb9 l0 hC5 hC6
  go_wp2_with (first | simp only [V5] | simp only [V6])
  go_ret
  exact ⟨rfl, hb4⟩
end Go.Proofs.YtllhdekhgbbibaaDoor
