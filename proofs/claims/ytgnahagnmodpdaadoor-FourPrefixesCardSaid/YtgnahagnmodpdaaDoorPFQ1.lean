/- Several texts in one (wip/gen/pack.py): X7 X8 FourMask FourBits X11 X12 FourPre FourRefPrint. -/
import Derived.Test.YtgnahagnmodpdaaDoorPFQ0
import Derived.BigQuiet
import Derived.Deep.QuietTactic
import Derived.Outline
import Derived.Laws.BitsAllLaws
/-! X7 -/
namespace Go.Proofs.YtgnahagnmodpdaaDoor.X
open Go.RowKit Go.Proofs.YtgnahagnmodpdaaDoorW.PrintWords Go.Proofs.YtgnahagnmodpdaaDoorW.PrintLast Go.Proofs.YtgnahagnmodpdaaDoorW.PrintMore
attribute [local go_sem] max2_int min2_int max_two min_two max_three min_three max_four min_four
set_option linter.unusedVariables false
set_option linter.unusedSimpArgs false
mutual
def posternref20_Print.l0 : Nat → Int → ByteArray → Int → Option (ByteArray)
  | 0, _, _, _ => none
  | k + 1, x0, x3, x4 => if x4 < 4 then (if 0 ≤ (IntKind.u64.wrap (wrap64 (24 - (wrap64 (8 * x4))))) then (if x4 > 0 then (if x3.size + 1 ≤ 9223372036854775807 then (posternref20_Print.j1 k x0 (x3 ++ (⟨#[46]⟩ : ByteArray)) x4 (wrap64 (Go.bits .and .u32 (shr .u32 x0 (IntKind.u64.wrap (wrap64 (24 - (wrap64 (8 * x4)))))) 255))) else (none)) else (posternref20_Print.j1 k x0 x3 x4 (wrap64 (Go.bits .and .u32 (shr .u32 x0 (IntKind.u64.wrap (wrap64 (24 - (wrap64 (8 * x4)))))) 255)))) else (none)) else (some x3)
def posternref20_Print.j1 : Nat → Int → ByteArray → Int → Int → Option (ByteArray)
  | 0, _, _, _, _ => none
  | k + 1, x0, x3, x4, x5 => if x5 ≥ 100 then ((some (([(wrap64 (48 + (wrap64 (Int.tdiv x5 100)))) % 256] : List Int) : List Int)).bind fun y196 => (if x3.size + (strOfNums y196).size ≤ 9223372036854775807 then (if x5 ≥ 10 then ((some (([(wrap64 (48 + (Int.tmod (wrap64 (Int.tdiv x5 10)) 10))) % 256] : List Int) : List Int)).bind fun y199 => (if (x3 ++ (strOfNums y196)).size + (strOfNums y199).size ≤ 9223372036854775807 then ((some (([(wrap64 (48 + (Int.tmod x5 10))) % 256] : List Int) : List Int)).bind fun y202 => (if ((x3 ++ (strOfNums y196)) ++ (strOfNums y199)).size + (strOfNums y202).size ≤ 9223372036854775807 then (posternref20_Print.l0 k x0 (((x3 ++ (strOfNums y196)) ++ (strOfNums y199)) ++ (strOfNums y202)) (wrap64 (x4 + 1))) else (none))) else (none))) else ((some (([(wrap64 (48 + (Int.tmod x5 10))) % 256] : List Int) : List Int)).bind fun y205 => (if (x3 ++ (strOfNums y196)).size + (strOfNums y205).size ≤ 9223372036854775807 then (posternref20_Print.l0 k x0 ((x3 ++ (strOfNums y196)) ++ (strOfNums y205)) (wrap64 (x4 + 1))) else (none)))) else (none))) else (if x5 ≥ 10 then ((some (([(wrap64 (48 + (Int.tmod (wrap64 (Int.tdiv x5 10)) 10))) % 256] : List Int) : List Int)).bind fun y208 => (if x3.size + (strOfNums y208).size ≤ 9223372036854775807 then ((some (([(wrap64 (48 + (Int.tmod x5 10))) % 256] : List Int) : List Int)).bind fun y211 => (if (x3 ++ (strOfNums y208)).size + (strOfNums y211).size ≤ 9223372036854775807 then (posternref20_Print.l0 k x0 ((x3 ++ (strOfNums y208)) ++ (strOfNums y211)) (wrap64 (x4 + 1))) else (none))) else (none))) else ((some (([(wrap64 (48 + (Int.tmod x5 10))) % 256] : List Int) : List Int)).bind fun y214 => (if x3.size + (strOfNums y214).size ≤ 9223372036854775807 then (posternref20_Print.l0 k x0 (x3 ++ (strOfNums y214)) (wrap64 (x4 + 1))) else (none))))
end
def posternref20_Print.f (k : Nat) (a0 : Int) : Option (ByteArray) := posternref20_Print.l0 k a0 (⟨#[]⟩ : ByteArray) 0
set_option maxHeartbeats 8000000 in
set_option maxRecDepth 100000 in
theorem posternref20_Print.calls (k : Nat) (a0 : Int) (r : ByteArray) (w : World) (h : posternref20_Print.f k a0 = some r) :
    Calls Tryd.prog 25 #[.int .u32 a0] w fun e w' => e = .returned (.string r) ∧ Below w.heap.size w w' := by
  have HB := Aside0.mk (Below.refl w.heap.size w)
  have H : (posternref20_Print.l0 k a0 (⟨#[]⟩ : ByteArray) 0) = some r := h
  clear h
  have H' := Aside0.mk H
  clear H
  go_enter Tryd.func25, Tryd.ntmps25
  go_wp2
  go_loopg [3, 4] k (fun kq v3 v4 w' => ∃ (x3_1 : ByteArray) (x4_1 : Int), v3 = .string x3_1 ∧ v4 = .int .i64 x4_1 ∧ Aside0 (posternref20_Print.l0 kq a0 x3_1 x4_1 = some r) ∧ Aside0 (kq ≤ k) ∧ Aside0 (Below w.heap.size w w'))
  case atStart => exact ⟨((⟨#[]⟩ : ByteArray)), (0), (by first | rfl | (simp; done) | (simp [*]; done)), (by first | rfl | (simp; done) | (simp [*]; done)), H', ⟨Nat.le_refl _⟩, ⟨by repeat (first | (with_reducible first | exact HB.out | apply below_alloc | apply pw_below_drewN | apply below_drew1) | exact HB.out)⟩⟩
  case round =>
    clear H'
    obtain ⟨x3_1, x4_1, rfl, rfl, HA, HK1, HB⟩ := hrel
    cases gk with
    | zero => exact absurd HA.out (by simp [posternref20_Print.l0])
    | succ k1 =>
      have H := HA.out
      clear HA
      simp only [posternref20_Print.l0] at H
      by_cases c2 : x4_1 < 4
      · rw [if_pos c2] at H
        have c2b0 : decide (x4_1 < 4) = true := decide_eq_true c2
        clear c2
        obtain ⟨ji3, hji3⟩ : ∃ j_ : Int, (IntKind.u64.wrap (wrap64 (24 - (wrap64 (8 * x4_1))))) = j_ := ⟨_, rfl⟩
        replace H : (if 0 ≤ (ji3) then (if x4_1 > 0 then (if x3_1.size + 1 ≤ 9223372036854775807 then (posternref20_Print.j1 k1 a0 (x3_1 ++ (⟨#[46]⟩ : ByteArray)) x4_1 (wrap64 (Go.bits .and .u32 (shr .u32 a0 (ji3)) 255))) else (none)) else (posternref20_Print.j1 k1 a0 x3_1 x4_1 (wrap64 (Go.bits .and .u32 (shr .u32 a0 (ji3)) 255)))) else (none)) = some r := by first | (rw [hji3] at H; exact H) | (simp only [hji3] at H ⊢; exact H)
        by_cases c4 : 0 ≤ (ji3)
        · rw [if_pos c4] at H
          have c4b0 := eq_true c4
          have c4b1 : decide (0 ≤ (ji3)) = true := decide_eq_true c4
          clear c4
          obtain ⟨ji5, hji5⟩ : ∃ j_ : Int, (shr .u32 a0 (ji3)) = j_ := ⟨_, rfl⟩
          replace H : (if x4_1 > 0 then (if x3_1.size + 1 ≤ 9223372036854775807 then (posternref20_Print.j1 k1 a0 (x3_1 ++ (⟨#[46]⟩ : ByteArray)) x4_1 (wrap64 (Go.bits .and .u32 (ji5) 255))) else (none)) else (posternref20_Print.j1 k1 a0 x3_1 x4_1 (wrap64 (Go.bits .and .u32 (ji5) 255)))) = some r := by first | (rw [hji5] at H; exact H) | (simp only [hji5] at H ⊢; exact H)
          have hji5_ : (a0 / 2 ^ min (ji3).toNat 32) = ji5 := hji5
          have hji5z : (ji3) ≤ 32 → (a0 / 2 ^ (ji3).toNat) = ji5 := shr_small hji5
          have HC6 := Aside0.mk H
          clear H
          go_upto_if 19 with (fail)
          go_cut [3] (fun v3 wc => ∃ (kq : Nat) (x3_5 : ByteArray), v3 = .string x3_5 ∧ Aside0 (posternref20_Print.j1 kq a0 x3_5 x4_1 (wrap64 (Go.bits .and .u32 (ji5) 255)) = some r) ∧ Aside0 (kq ≤ k1) ∧ Aside0 (Below w.heap.size w wc))
          case first =>
            have H := HC6.out
            clear HC6
            by_cases c7 : x4_1 > 0
            · rw [if_pos c7] at H
              have c7b0 : decide (0 < x4_1) = true := decide_eq_true c7
              clear c7
              (first | rw [c7b0] | (simp only [i64_w, i32_w]; rw [c7b0]) | skip)
              by_cases c8 : x3_1.size + 1 ≤ 9223372036854775807
              · rw [if_pos c8] at H
                have c8b0 := eq_true c8
                have c8b1 : decide (x3_1.size + 1 ≤ 9223372036854775807) = true := decide_eq_true c8
                try have c8b2 : (9223372036854775807 < x3_1.size + 1) = False := eq_false (Nat.not_lt.2 c8)
                have H' := Aside0.mk H
                clear H
                go_wp2
                go_meet
                case rel => exact ⟨_, (x3_1 ++ (⟨#[46]⟩ : ByteArray)), (by first | rfl | (simp; done) | (simp [*]; done)), H', ⟨by have := HK1.out; first | omega | exact Nat.le_refl _⟩, ⟨by repeat (first | (with_reducible first | exact HB.out | apply below_alloc | apply pw_below_drewN | apply below_drew1) | exact HB.out)⟩⟩
              · rw [if_neg c8] at H
                exact absurd H (by simp)
            · rw [if_neg c7] at H
              have c7b0 : decide (0 < x4_1) = false := decide_eq_false c7
              clear c7
              (first | rw [c7b0] | (simp only [i64_w, i32_w]; rw [c7b0]) | skip)
              have H' := Aside0.mk H
              clear H
              go_wp2
              go_meet
              case rel => exact ⟨_, (x3_1), (by first | rfl | (simp; done) | (simp [*]; done)), H', ⟨by have := HK1.out; first | omega | exact Nat.le_refl _⟩, ⟨by repeat (first | (with_reducible first | exact HB.out | apply below_alloc | apply pw_below_drewN | apply below_drew1) | exact HB.out)⟩⟩
          case rest =>
            clear HC6
            try clear c2
            try clear c2b0
            try clear p2
            try clear c4
            try clear c4b0
            try clear c4b1
            try clear p6
            try clear c7
            try clear c7b0
            try clear c8
            try clear c8b0
            try clear c8b1
            try clear c8b2
            obtain ⟨kq, x3_5, rfl, HA, HJ5, HB⟩ := hcut
            cases kq with
            | zero => exact absurd HA.out (by simp [posternref20_Print.j1])
            | succ kj5 =>
              have H := HA.out
              clear HA
              simp only [posternref20_Print.j1] at H
              by_cases c9 : (wrap64 (Go.bits .and .u32 (ji5) 255)) ≥ 100
              · rw [if_pos c9] at H
                have c9b0 : decide (100 ≤ (wrap64 (Go.bits .and .u32 (ji5) 255))) = true := decide_eq_true c9
                clear c9
                obtain ⟨y196, hy196⟩ : ∃ y_ : List Int, y_ = (([(wrap64 (48 + (wrap64 (Int.tdiv (wrap64 (Go.bits .and .u32 (ji5) 255)) 100)))) % 256] : List Int)) := ⟨_, rfl⟩
                replace H : (if x3_5.size + (strOfNums y196).size ≤ 9223372036854775807 then (if (wrap64 (Go.bits .and .u32 (ji5) 255)) ≥ 10 then ((some (([(wrap64 (48 + (Int.tmod (wrap64 (Int.tdiv (wrap64 (Go.bits .and .u32 (ji5) 255)) 10)) 10))) % 256] : List Int) : List Int)).bind fun y199 => (if (x3_5 ++ (strOfNums y196)).size + (strOfNums y199).size ≤ 9223372036854775807 then ((some (([(wrap64 (48 + (Int.tmod (wrap64 (Go.bits .and .u32 (ji5) 255)) 10))) % 256] : List Int) : List Int)).bind fun y202 => (if ((x3_5 ++ (strOfNums y196)) ++ (strOfNums y199)).size + (strOfNums y202).size ≤ 9223372036854775807 then (posternref20_Print.l0 kj5 a0 (((x3_5 ++ (strOfNums y196)) ++ (strOfNums y199)) ++ (strOfNums y202)) (wrap64 (x4_1 + 1))) else (none))) else (none))) else ((some (([(wrap64 (48 + (Int.tmod (wrap64 (Go.bits .and .u32 (ji5) 255)) 10))) % 256] : List Int) : List Int)).bind fun y205 => (if (x3_5 ++ (strOfNums y196)).size + (strOfNums y205).size ≤ 9223372036854775807 then (posternref20_Print.l0 kj5 a0 ((x3_5 ++ (strOfNums y196)) ++ (strOfNums y205)) (wrap64 (x4_1 + 1))) else (none)))) else (none)) = some r := by first | (rw [hy196]; with_reducible exact H) | (have H2_ := (Option.bind_some _ _).symm.trans H; rw [hy196]; with_reducible exact H2_) | (have H2_ := (Option.bind_some _ _).symm.trans H; with_reducible exact H2_) | with_reducible exact H | (rw [hy196]; exact H) | exact H
                have Ny196 := Aside0.mk hy196
                clear hy196
                by_cases c10 : x3_5.size + (strOfNums y196).size ≤ 9223372036854775807
                · rw [if_pos c10] at H
                  have c10b0 := eq_true c10
                  have c10b1 : decide (x3_5.size + (strOfNums y196).size ≤ 9223372036854775807) = true := decide_eq_true c10
                  try have c10b2 : (9223372036854775807 < x3_5.size + (strOfNums y196).size) = False := eq_false (Nat.not_lt.2 c10)
                  by_cases c11 : (wrap64 (Go.bits .and .u32 (ji5) 255)) ≥ 10
                  · rw [if_pos c11] at H
                    have c11b0 : decide (10 ≤ (wrap64 (Go.bits .and .u32 (ji5) 255))) = true := decide_eq_true c11
                    clear c11
                    obtain ⟨y199, hy199⟩ : ∃ y_ : List Int, y_ = (([(wrap64 (48 + (Int.tmod (wrap64 (Int.tdiv (wrap64 (Go.bits .and .u32 (ji5) 255)) 10)) 10))) % 256] : List Int)) := ⟨_, rfl⟩
                    replace H : (if (x3_5 ++ (strOfNums y196)).size + (strOfNums y199).size ≤ 9223372036854775807 then ((some (([(wrap64 (48 + (Int.tmod (wrap64 (Go.bits .and .u32 (ji5) 255)) 10))) % 256] : List Int) : List Int)).bind fun y202 => (if ((x3_5 ++ (strOfNums y196)) ++ (strOfNums y199)).size + (strOfNums y202).size ≤ 9223372036854775807 then (posternref20_Print.l0 kj5 a0 (((x3_5 ++ (strOfNums y196)) ++ (strOfNums y199)) ++ (strOfNums y202)) (wrap64 (x4_1 + 1))) else (none))) else (none)) = some r := by first | (rw [hy199]; with_reducible exact H) | (have H2_ := (Option.bind_some _ _).symm.trans H; rw [hy199]; with_reducible exact H2_) | (have H2_ := (Option.bind_some _ _).symm.trans H; with_reducible exact H2_) | with_reducible exact H | (rw [hy199]; exact H) | exact H
                    have Ny199 := Aside0.mk hy199
                    clear hy199
                    by_cases c12 : (x3_5 ++ (strOfNums y196)).size + (strOfNums y199).size ≤ 9223372036854775807
                    · rw [if_pos c12] at H
                      have c12b0 := eq_true c12
                      have c12b1 : decide ((x3_5 ++ (strOfNums y196)).size + (strOfNums y199).size ≤ 9223372036854775807) = true := decide_eq_true c12
                      try have c12b2 : (9223372036854775807 < (x3_5 ++ (strOfNums y196)).size + (strOfNums y199).size) = False := eq_false (Nat.not_lt.2 c12)
                      obtain ⟨y202, hy202⟩ : ∃ y_ : List Int, y_ = (([(wrap64 (48 + (Int.tmod (wrap64 (Go.bits .and .u32 (ji5) 255)) 10))) % 256] : List Int)) := ⟨_, rfl⟩
                      replace H : (if ((x3_5 ++ (strOfNums y196)) ++ (strOfNums y199)).size + (strOfNums y202).size ≤ 9223372036854775807 then (posternref20_Print.l0 kj5 a0 (((x3_5 ++ (strOfNums y196)) ++ (strOfNums y199)) ++ (strOfNums y202)) (wrap64 (x4_1 + 1))) else (none)) = some r := by first | (rw [hy202]; with_reducible exact H) | (have H2_ := (Option.bind_some _ _).symm.trans H; rw [hy202]; with_reducible exact H2_) | (have H2_ := (Option.bind_some _ _).symm.trans H; with_reducible exact H2_) | with_reducible exact H | (rw [hy202]; exact H) | exact H
                      have Ny202 := Aside0.mk hy202
                      clear hy202
                      by_cases c13 : ((x3_5 ++ (strOfNums y196)) ++ (strOfNums y199)).size + (strOfNums y202).size ≤ 9223372036854775807
                      · rw [if_pos c13] at H
                        have c13b0 := eq_true c13
                        have c13b1 : decide (((x3_5 ++ (strOfNums y196)) ++ (strOfNums y199)).size + (strOfNums y202).size ≤ 9223372036854775807) = true := decide_eq_true c13
                        try have c13b2 : (9223372036854775807 < ((x3_5 ++ (strOfNums y196)) ++ (strOfNums y199)).size + (strOfNums y202).size) = False := eq_false (Nat.not_lt.2 c13)
                        have H' := Aside0.mk H
                        clear H
                        go_wp2_with (first | ((with_reducible refine gate_dst (N := 29) rfl ?_); refine Kd.R_lit (Kd.int .u8) _ 5 ?hg (N := 29) ?hd (xs := ([(wrap64 (48 + (wrap64 (Int.tdiv (wrap64 (Go.bits .and .u32 (ji5) 255)) 100)))) % 256] : List Int)) (inner := [.int .u8 ((wrap64 (48 + (wrap64 (Int.tdiv (wrap64 (Go.bits .and .u32 (ji5) 255)) 100)))) % 256)]) (ok := fun _ => True) (okp := fun _ => True) ?hr ?hp (fun _ hk => hk) trivial (Below.refl _ _) (Nat.le_refl _) (by simp) ?_; (case hd => rfl); (case hg => rfl); (case hr => first | (go_simp; done) | (go_simp; rfl)); (case hp => exact (Reps.one (show Kd.M (Kd.int .u8) _ _ _ ((wrap64 (48 + (wrap64 (Int.tdiv (wrap64 (Go.bits .and .u32 (ji5) 255)) 100)))) % 256) [.int .u8 ((wrap64 (48 + (wrap64 (Int.tdiv (wrap64 (Go.bits .and .u32 (ji5) 255)) 100)))) % 256)] from rfl) (Reps.none _ _))); intro v197 w14 ho15 hb hg_ hnew_; clear hg_ hnew_; (first | rw [← Ny196.out] at ho15 | (simp only [Int.reduceToNat] at ho15; rw [← Ny196.out] at ho15)); have n0_ := Aside0.mk (Kd.R_lower ho15 (below_size (by repeat (first | (with_reducible first | exact HB.out | apply below_alloc | apply pw_below_drewN | apply below_drew1) | exact HB.out)))); have n1_ := Aside0.mk (below_step (by repeat (first | (with_reducible first | exact HB.out | apply below_alloc | apply pw_below_drewN | apply below_drew1) | exact HB.out)) hb); clear HB; have HO198 := n0_; have HB := n1_; clear n0_ n1_; clear hb ho15; have hcv16 := own_string (P := Tryd.prog) Tryd.underlying74 Tryd.underlying5 Tryd.underlying9 (Kd.own_of_R HO198.out)) | ((with_reducible refine gate_dst (N := 40) rfl ?_); refine Kd.R_lit (Kd.int .u8) _ 5 ?hg (N := 40) ?hd (xs := ([(wrap64 (48 + (Int.tmod (wrap64 (Int.tdiv (wrap64 (Go.bits .and .u32 (ji5) 255)) 10)) 10))) % 256] : List Int)) (inner := [.int .u8 ((wrap64 (48 + (Int.tmod (wrap64 (Int.tdiv (wrap64 (Go.bits .and .u32 (ji5) 255)) 10)) 10))) % 256)]) (ok := fun _ => True) (okp := fun _ => True) ?hr ?hp (fun _ hk => hk) trivial (Below.refl _ _) (Nat.le_refl _) (by simp) ?_; (case hd => rfl); (case hg => rfl); (case hr => first | (go_simp; done) | (go_simp; rfl)); (case hp => exact (Reps.one (show Kd.M (Kd.int .u8) _ _ _ ((wrap64 (48 + (Int.tmod (wrap64 (Int.tdiv (wrap64 (Go.bits .and .u32 (ji5) 255)) 10)) 10))) % 256) [.int .u8 ((wrap64 (48 + (Int.tmod (wrap64 (Int.tdiv (wrap64 (Go.bits .and .u32 (ji5) 255)) 10)) 10))) % 256)] from rfl) (Reps.none _ _))); intro v200 w17 ho18 hb hg_ hnew_; clear hg_ hnew_; (first | rw [← Ny199.out] at ho18 | (simp only [Int.reduceToNat] at ho18; rw [← Ny199.out] at ho18)); have n0_ := Aside0.mk (Kd.R_elder' (by (with_reducible repeat (first | apply Kd.R_alloc | apply Kd.R_drewN | apply Kd.R_drew)); exact HO198.out) (Kd.R_base ho18) hb); have n1_ := Aside0.mk (Kd.R_lower (Kd.R_new' ho18 (Kd.R_lt (by (with_reducible repeat (first | apply Kd.R_alloc | apply Kd.R_drewN | apply Kd.R_drew)); exact HO198.out))) (below_size (by repeat (first | (with_reducible first | exact HB.out | apply below_alloc | apply pw_below_drewN | apply below_drew1) | exact HB.out)))); have n2_ := Aside0.mk (below_step (by repeat (first | (with_reducible first | exact HB.out | apply below_alloc | apply pw_below_drewN | apply below_drew1) | exact HB.out)) hb); clear HO198; clear HB; have HO198 := n0_; have HO201 := n1_; have HB := n2_; clear n0_ n1_ n2_; clear hb ho18; have hcv19 := own_string (P := Tryd.prog) Tryd.underlying74 Tryd.underlying5 Tryd.underlying9 (Kd.own_of_R HO201.out)) | ((with_reducible refine gate_dst (N := 48) rfl ?_); refine Kd.R_lit (Kd.int .u8) _ 5 ?hg (N := 48) ?hd (xs := ([(wrap64 (48 + (Int.tmod (wrap64 (Go.bits .and .u32 (ji5) 255)) 10))) % 256] : List Int)) (inner := [.int .u8 ((wrap64 (48 + (Int.tmod (wrap64 (Go.bits .and .u32 (ji5) 255)) 10))) % 256)]) (ok := fun _ => True) (okp := fun _ => True) ?hr ?hp (fun _ hk => hk) trivial (Below.refl _ _) (Nat.le_refl _) (by simp) ?_; (case hd => rfl); (case hg => rfl); (case hr => first | (go_simp; done) | (go_simp; rfl)); (case hp => exact (Reps.one (show Kd.M (Kd.int .u8) _ _ _ ((wrap64 (48 + (Int.tmod (wrap64 (Go.bits .and .u32 (ji5) 255)) 10))) % 256) [.int .u8 ((wrap64 (48 + (Int.tmod (wrap64 (Go.bits .and .u32 (ji5) 255)) 10))) % 256)] from rfl) (Reps.none _ _))); intro v203 w20 ho21 hb hg_ hnew_; clear hg_ hnew_; (first | rw [← Ny202.out] at ho21 | (simp only [Int.reduceToNat] at ho21; rw [← Ny202.out] at ho21)); have n0_ := Aside0.mk (Kd.R_elder' (by (with_reducible repeat (first | apply Kd.R_alloc | apply Kd.R_drewN | apply Kd.R_drew)); exact HO198.out) (Kd.R_base ho21) hb); have n1_ := Aside0.mk (Kd.R_elder' (by (with_reducible repeat (first | apply Kd.R_alloc | apply Kd.R_drewN | apply Kd.R_drew)); exact HO201.out) (Kd.R_base ho21) hb); have n2_ := Aside0.mk (Kd.R_lower (Kd.R_new' (Kd.R_new' ho21 (Kd.R_lt (by (with_reducible repeat (first | apply Kd.R_alloc | apply Kd.R_drewN | apply Kd.R_drew)); exact HO198.out))) (Kd.R_lt (by (with_reducible repeat (first | apply Kd.R_alloc | apply Kd.R_drewN | apply Kd.R_drew)); exact HO201.out))) (below_size (by repeat (first | (with_reducible first | exact HB.out | apply below_alloc | apply pw_below_drewN | apply below_drew1) | exact HB.out)))); have n3_ := Aside0.mk (below_step (by repeat (first | (with_reducible first | exact HB.out | apply below_alloc | apply pw_below_drewN | apply below_drew1) | exact HB.out)) hb); clear HO198; clear HO201; clear HB; have HO198 := n0_; have HO201 := n1_; have HO204 := n2_; have HB := n3_; clear n0_ n1_ n2_ n3_; clear hb ho21; have hcv22 := own_string (P := Tryd.prog) Tryd.underlying74 Tryd.underlying5 Tryd.underlying9 (Kd.own_of_R HO204.out)))
                        go_roundg kj5
                        case measure => have := HK1.out; have := HJ5.out; omega
                        case rel => exact ⟨(((x3_5 ++ (strOfNums y196)) ++ (strOfNums y199)) ++ (strOfNums y202)), (wrap64 (x4_1 + 1)), (by first | rfl | (simp; done) | (simp [*]; done)), (by first | rfl | (simp; done) | (simp [*]; done)), H', ⟨by have := HK1.out; have := HJ5.out; omega⟩, ⟨by repeat (first | (with_reducible first | exact HB.out | apply below_alloc | apply pw_below_drewN | apply below_drew1) | exact HB.out)⟩⟩
                      · rw [if_neg c13] at H
                        exact absurd H (by simp)
                    · rw [if_neg c12] at H
                      exact absurd H (by simp)
                  · rw [if_neg c11] at H
                    have c11b0 : decide (10 ≤ (wrap64 (Go.bits .and .u32 (ji5) 255))) = false := decide_eq_false c11
                    clear c11
                    obtain ⟨y205, hy205⟩ : ∃ y_ : List Int, y_ = (([(wrap64 (48 + (Int.tmod (wrap64 (Go.bits .and .u32 (ji5) 255)) 10))) % 256] : List Int)) := ⟨_, rfl⟩
                    replace H : (if (x3_5 ++ (strOfNums y196)).size + (strOfNums y205).size ≤ 9223372036854775807 then (posternref20_Print.l0 kj5 a0 ((x3_5 ++ (strOfNums y196)) ++ (strOfNums y205)) (wrap64 (x4_1 + 1))) else (none)) = some r := by first | (rw [hy205]; with_reducible exact H) | (have H2_ := (Option.bind_some _ _).symm.trans H; rw [hy205]; with_reducible exact H2_) | (have H2_ := (Option.bind_some _ _).symm.trans H; with_reducible exact H2_) | with_reducible exact H | (rw [hy205]; exact H) | exact H
                    have Ny205 := Aside0.mk hy205
                    clear hy205
                    by_cases c23 : (x3_5 ++ (strOfNums y196)).size + (strOfNums y205).size ≤ 9223372036854775807
                    · rw [if_pos c23] at H
                      have c23b0 := eq_true c23
                      have c23b1 : decide ((x3_5 ++ (strOfNums y196)).size + (strOfNums y205).size ≤ 9223372036854775807) = true := decide_eq_true c23
                      try have c23b2 : (9223372036854775807 < (x3_5 ++ (strOfNums y196)).size + (strOfNums y205).size) = False := eq_false (Nat.not_lt.2 c23)
                      have H' := Aside0.mk H
                      clear H
                      go_wp2_with (first | ((with_reducible refine gate_dst (N := 29) rfl ?_); refine Kd.R_lit (Kd.int .u8) _ 5 ?hg (N := 29) ?hd (xs := ([(wrap64 (48 + (wrap64 (Int.tdiv (wrap64 (Go.bits .and .u32 (ji5) 255)) 100)))) % 256] : List Int)) (inner := [.int .u8 ((wrap64 (48 + (wrap64 (Int.tdiv (wrap64 (Go.bits .and .u32 (ji5) 255)) 100)))) % 256)]) (ok := fun _ => True) (okp := fun _ => True) ?hr ?hp (fun _ hk => hk) trivial (Below.refl _ _) (Nat.le_refl _) (by simp) ?_; (case hd => rfl); (case hg => rfl); (case hr => first | (go_simp; done) | (go_simp; rfl)); (case hp => exact (Reps.one (show Kd.M (Kd.int .u8) _ _ _ ((wrap64 (48 + (wrap64 (Int.tdiv (wrap64 (Go.bits .and .u32 (ji5) 255)) 100)))) % 256) [.int .u8 ((wrap64 (48 + (wrap64 (Int.tdiv (wrap64 (Go.bits .and .u32 (ji5) 255)) 100)))) % 256)] from rfl) (Reps.none _ _))); intro v197 w24 ho25 hb hg_ hnew_; clear hg_ hnew_; (first | rw [← Ny196.out] at ho25 | (simp only [Int.reduceToNat] at ho25; rw [← Ny196.out] at ho25)); have n0_ := Aside0.mk (Kd.R_lower ho25 (below_size (by repeat (first | (with_reducible first | exact HB.out | apply below_alloc | apply pw_below_drewN | apply below_drew1) | exact HB.out)))); have n1_ := Aside0.mk (below_step (by repeat (first | (with_reducible first | exact HB.out | apply below_alloc | apply pw_below_drewN | apply below_drew1) | exact HB.out)) hb); clear HB; have HO198 := n0_; have HB := n1_; clear n0_ n1_; clear hb ho25; have hcv26 := own_string (P := Tryd.prog) Tryd.underlying74 Tryd.underlying5 Tryd.underlying9 (Kd.own_of_R HO198.out)) | ((with_reducible refine gate_dst (N := 48) rfl ?_); refine Kd.R_lit (Kd.int .u8) _ 5 ?hg (N := 48) ?hd (xs := ([(wrap64 (48 + (Int.tmod (wrap64 (Go.bits .and .u32 (ji5) 255)) 10))) % 256] : List Int)) (inner := [.int .u8 ((wrap64 (48 + (Int.tmod (wrap64 (Go.bits .and .u32 (ji5) 255)) 10))) % 256)]) (ok := fun _ => True) (okp := fun _ => True) ?hr ?hp (fun _ hk => hk) trivial (Below.refl _ _) (Nat.le_refl _) (by simp) ?_; (case hd => rfl); (case hg => rfl); (case hr => first | (go_simp; done) | (go_simp; rfl)); (case hp => exact (Reps.one (show Kd.M (Kd.int .u8) _ _ _ ((wrap64 (48 + (Int.tmod (wrap64 (Go.bits .and .u32 (ji5) 255)) 10))) % 256) [.int .u8 ((wrap64 (48 + (Int.tmod (wrap64 (Go.bits .and .u32 (ji5) 255)) 10))) % 256)] from rfl) (Reps.none _ _))); intro v206 w27 ho28 hb hg_ hnew_; clear hg_ hnew_; (first | rw [← Ny205.out] at ho28 | (simp only [Int.reduceToNat] at ho28; rw [← Ny205.out] at ho28)); have n0_ := Aside0.mk (Kd.R_elder' (by (with_reducible repeat (first | apply Kd.R_alloc | apply Kd.R_drewN | apply Kd.R_drew)); exact HO198.out) (Kd.R_base ho28) hb); have n1_ := Aside0.mk (Kd.R_lower (Kd.R_new' ho28 (Kd.R_lt (by (with_reducible repeat (first | apply Kd.R_alloc | apply Kd.R_drewN | apply Kd.R_drew)); exact HO198.out))) (below_size (by repeat (first | (with_reducible first | exact HB.out | apply below_alloc | apply pw_below_drewN | apply below_drew1) | exact HB.out)))); have n2_ := Aside0.mk (below_step (by repeat (first | (with_reducible first | exact HB.out | apply below_alloc | apply pw_below_drewN | apply below_drew1) | exact HB.out)) hb); clear HO198; clear HB; have HO198 := n0_; have HO207 := n1_; have HB := n2_; clear n0_ n1_ n2_; clear hb ho28; have hcv29 := own_string (P := Tryd.prog) Tryd.underlying74 Tryd.underlying5 Tryd.underlying9 (Kd.own_of_R HO207.out)))
                      go_roundg kj5
                      case measure => have := HK1.out; have := HJ5.out; omega
                      case rel => exact ⟨((x3_5 ++ (strOfNums y196)) ++ (strOfNums y205)), (wrap64 (x4_1 + 1)), (by first | rfl | (simp; done) | (simp [*]; done)), (by first | rfl | (simp; done) | (simp [*]; done)), H', ⟨by have := HK1.out; have := HJ5.out; omega⟩, ⟨by repeat (first | (with_reducible first | exact HB.out | apply below_alloc | apply pw_below_drewN | apply below_drew1) | exact HB.out)⟩⟩
                    · rw [if_neg c23] at H
                      exact absurd H (by simp)
                · rw [if_neg c10] at H
                  exact absurd H (by simp)
              · rw [if_neg c9] at H
                have c9b0 : decide (100 ≤ (wrap64 (Go.bits .and .u32 (ji5) 255))) = false := decide_eq_false c9
                clear c9
                by_cases c30 : (wrap64 (Go.bits .and .u32 (ji5) 255)) ≥ 10
                · rw [if_pos c30] at H
                  have c30b0 : decide (10 ≤ (wrap64 (Go.bits .and .u32 (ji5) 255))) = true := decide_eq_true c30
                  clear c30
                  obtain ⟨y208, hy208⟩ : ∃ y_ : List Int, y_ = (([(wrap64 (48 + (Int.tmod (wrap64 (Int.tdiv (wrap64 (Go.bits .and .u32 (ji5) 255)) 10)) 10))) % 256] : List Int)) := ⟨_, rfl⟩
                  replace H : (if x3_5.size + (strOfNums y208).size ≤ 9223372036854775807 then ((some (([(wrap64 (48 + (Int.tmod (wrap64 (Go.bits .and .u32 (ji5) 255)) 10))) % 256] : List Int) : List Int)).bind fun y211 => (if (x3_5 ++ (strOfNums y208)).size + (strOfNums y211).size ≤ 9223372036854775807 then (posternref20_Print.l0 kj5 a0 ((x3_5 ++ (strOfNums y208)) ++ (strOfNums y211)) (wrap64 (x4_1 + 1))) else (none))) else (none)) = some r := by first | (rw [hy208]; with_reducible exact H) | (have H2_ := (Option.bind_some _ _).symm.trans H; rw [hy208]; with_reducible exact H2_) | (have H2_ := (Option.bind_some _ _).symm.trans H; with_reducible exact H2_) | with_reducible exact H | (rw [hy208]; exact H) | exact H
                  have Ny208 := Aside0.mk hy208
                  clear hy208
                  by_cases c31 : x3_5.size + (strOfNums y208).size ≤ 9223372036854775807
                  · rw [if_pos c31] at H
                    have c31b0 := eq_true c31
                    have c31b1 : decide (x3_5.size + (strOfNums y208).size ≤ 9223372036854775807) = true := decide_eq_true c31
                    try have c31b2 : (9223372036854775807 < x3_5.size + (strOfNums y208).size) = False := eq_false (Nat.not_lt.2 c31)
                    obtain ⟨y211, hy211⟩ : ∃ y_ : List Int, y_ = (([(wrap64 (48 + (Int.tmod (wrap64 (Go.bits .and .u32 (ji5) 255)) 10))) % 256] : List Int)) := ⟨_, rfl⟩
                    replace H : (if (x3_5 ++ (strOfNums y208)).size + (strOfNums y211).size ≤ 9223372036854775807 then (posternref20_Print.l0 kj5 a0 ((x3_5 ++ (strOfNums y208)) ++ (strOfNums y211)) (wrap64 (x4_1 + 1))) else (none)) = some r := by first | (rw [hy211]; with_reducible exact H) | (have H2_ := (Option.bind_some _ _).symm.trans H; rw [hy211]; with_reducible exact H2_) | (have H2_ := (Option.bind_some _ _).symm.trans H; with_reducible exact H2_) | with_reducible exact H | (rw [hy211]; exact H) | exact H
                    have Ny211 := Aside0.mk hy211
                    clear hy211
                    by_cases c32 : (x3_5 ++ (strOfNums y208)).size + (strOfNums y211).size ≤ 9223372036854775807
                    · rw [if_pos c32] at H
                      have c32b0 := eq_true c32
                      have c32b1 : decide ((x3_5 ++ (strOfNums y208)).size + (strOfNums y211).size ≤ 9223372036854775807) = true := decide_eq_true c32
                      try have c32b2 : (9223372036854775807 < (x3_5 ++ (strOfNums y208)).size + (strOfNums y211).size) = False := eq_false (Nat.not_lt.2 c32)
                      have H' := Aside0.mk H
                      clear H
                      go_wp2_with (first | ((with_reducible refine gate_dst (N := 40) rfl ?_); refine Kd.R_lit (Kd.int .u8) _ 5 ?hg (N := 40) ?hd (xs := ([(wrap64 (48 + (Int.tmod (wrap64 (Int.tdiv (wrap64 (Go.bits .and .u32 (ji5) 255)) 10)) 10))) % 256] : List Int)) (inner := [.int .u8 ((wrap64 (48 + (Int.tmod (wrap64 (Int.tdiv (wrap64 (Go.bits .and .u32 (ji5) 255)) 10)) 10))) % 256)]) (ok := fun _ => True) (okp := fun _ => True) ?hr ?hp (fun _ hk => hk) trivial (Below.refl _ _) (Nat.le_refl _) (by simp) ?_; (case hd => rfl); (case hg => rfl); (case hr => first | (go_simp; done) | (go_simp; rfl)); (case hp => exact (Reps.one (show Kd.M (Kd.int .u8) _ _ _ ((wrap64 (48 + (Int.tmod (wrap64 (Int.tdiv (wrap64 (Go.bits .and .u32 (ji5) 255)) 10)) 10))) % 256) [.int .u8 ((wrap64 (48 + (Int.tmod (wrap64 (Int.tdiv (wrap64 (Go.bits .and .u32 (ji5) 255)) 10)) 10))) % 256)] from rfl) (Reps.none _ _))); intro v209 w33 ho34 hb hg_ hnew_; clear hg_ hnew_; (first | rw [← Ny208.out] at ho34 | (simp only [Int.reduceToNat] at ho34; rw [← Ny208.out] at ho34)); have n0_ := Aside0.mk (Kd.R_lower ho34 (below_size (by repeat (first | (with_reducible first | exact HB.out | apply below_alloc | apply pw_below_drewN | apply below_drew1) | exact HB.out)))); have n1_ := Aside0.mk (below_step (by repeat (first | (with_reducible first | exact HB.out | apply below_alloc | apply pw_below_drewN | apply below_drew1) | exact HB.out)) hb); clear HB; have HO210 := n0_; have HB := n1_; clear n0_ n1_; clear hb ho34; have hcv35 := own_string (P := Tryd.prog) Tryd.underlying74 Tryd.underlying5 Tryd.underlying9 (Kd.own_of_R HO210.out)) | ((with_reducible refine gate_dst (N := 48) rfl ?_); refine Kd.R_lit (Kd.int .u8) _ 5 ?hg (N := 48) ?hd (xs := ([(wrap64 (48 + (Int.tmod (wrap64 (Go.bits .and .u32 (ji5) 255)) 10))) % 256] : List Int)) (inner := [.int .u8 ((wrap64 (48 + (Int.tmod (wrap64 (Go.bits .and .u32 (ji5) 255)) 10))) % 256)]) (ok := fun _ => True) (okp := fun _ => True) ?hr ?hp (fun _ hk => hk) trivial (Below.refl _ _) (Nat.le_refl _) (by simp) ?_; (case hd => rfl); (case hg => rfl); (case hr => first | (go_simp; done) | (go_simp; rfl)); (case hp => exact (Reps.one (show Kd.M (Kd.int .u8) _ _ _ ((wrap64 (48 + (Int.tmod (wrap64 (Go.bits .and .u32 (ji5) 255)) 10))) % 256) [.int .u8 ((wrap64 (48 + (Int.tmod (wrap64 (Go.bits .and .u32 (ji5) 255)) 10))) % 256)] from rfl) (Reps.none _ _))); intro v212 w36 ho37 hb hg_ hnew_; clear hg_ hnew_; (first | rw [← Ny211.out] at ho37 | (simp only [Int.reduceToNat] at ho37; rw [← Ny211.out] at ho37)); have n0_ := Aside0.mk (Kd.R_elder' (by (with_reducible repeat (first | apply Kd.R_alloc | apply Kd.R_drewN | apply Kd.R_drew)); exact HO210.out) (Kd.R_base ho37) hb); have n1_ := Aside0.mk (Kd.R_lower (Kd.R_new' ho37 (Kd.R_lt (by (with_reducible repeat (first | apply Kd.R_alloc | apply Kd.R_drewN | apply Kd.R_drew)); exact HO210.out))) (below_size (by repeat (first | (with_reducible first | exact HB.out | apply below_alloc | apply pw_below_drewN | apply below_drew1) | exact HB.out)))); have n2_ := Aside0.mk (below_step (by repeat (first | (with_reducible first | exact HB.out | apply below_alloc | apply pw_below_drewN | apply below_drew1) | exact HB.out)) hb); clear HO210; clear HB; have HO210 := n0_; have HO213 := n1_; have HB := n2_; clear n0_ n1_ n2_; clear hb ho37; have hcv38 := own_string (P := Tryd.prog) Tryd.underlying74 Tryd.underlying5 Tryd.underlying9 (Kd.own_of_R HO213.out)))
                      go_roundg kj5
                      case measure => have := HK1.out; have := HJ5.out; omega
                      case rel => exact ⟨((x3_5 ++ (strOfNums y208)) ++ (strOfNums y211)), (wrap64 (x4_1 + 1)), (by first | rfl | (simp; done) | (simp [*]; done)), (by first | rfl | (simp; done) | (simp [*]; done)), H', ⟨by have := HK1.out; have := HJ5.out; omega⟩, ⟨by repeat (first | (with_reducible first | exact HB.out | apply below_alloc | apply pw_below_drewN | apply below_drew1) | exact HB.out)⟩⟩
                    · rw [if_neg c32] at H
                      exact absurd H (by simp)
                  · rw [if_neg c31] at H
                    exact absurd H (by simp)
                · rw [if_neg c30] at H
                  have c30b0 : decide (10 ≤ (wrap64 (Go.bits .and .u32 (ji5) 255))) = false := decide_eq_false c30
                  clear c30
                  obtain ⟨y214, hy214⟩ : ∃ y_ : List Int, y_ = (([(wrap64 (48 + (Int.tmod (wrap64 (Go.bits .and .u32 (ji5) 255)) 10))) % 256] : List Int)) := ⟨_, rfl⟩
                  replace H : (if x3_5.size + (strOfNums y214).size ≤ 9223372036854775807 then (posternref20_Print.l0 kj5 a0 (x3_5 ++ (strOfNums y214)) (wrap64 (x4_1 + 1))) else (none)) = some r := by first | (rw [hy214]; with_reducible exact H) | (have H2_ := (Option.bind_some _ _).symm.trans H; rw [hy214]; with_reducible exact H2_) | (have H2_ := (Option.bind_some _ _).symm.trans H; with_reducible exact H2_) | with_reducible exact H | (rw [hy214]; exact H) | exact H
                  have Ny214 := Aside0.mk hy214
                  clear hy214
                  by_cases c39 : x3_5.size + (strOfNums y214).size ≤ 9223372036854775807
                  · rw [if_pos c39] at H
                    have c39b0 := eq_true c39
                    have c39b1 : decide (x3_5.size + (strOfNums y214).size ≤ 9223372036854775807) = true := decide_eq_true c39
                    try have c39b2 : (9223372036854775807 < x3_5.size + (strOfNums y214).size) = False := eq_false (Nat.not_lt.2 c39)
                    have H' := Aside0.mk H
                    clear H
                    go_wp2_with (first | ((with_reducible refine gate_dst (N := 48) rfl ?_); refine Kd.R_lit (Kd.int .u8) _ 5 ?hg (N := 48) ?hd (xs := ([(wrap64 (48 + (Int.tmod (wrap64 (Go.bits .and .u32 (ji5) 255)) 10))) % 256] : List Int)) (inner := [.int .u8 ((wrap64 (48 + (Int.tmod (wrap64 (Go.bits .and .u32 (ji5) 255)) 10))) % 256)]) (ok := fun _ => True) (okp := fun _ => True) ?hr ?hp (fun _ hk => hk) trivial (Below.refl _ _) (Nat.le_refl _) (by simp) ?_; (case hd => rfl); (case hg => rfl); (case hr => first | (go_simp; done) | (go_simp; rfl)); (case hp => exact (Reps.one (show Kd.M (Kd.int .u8) _ _ _ ((wrap64 (48 + (Int.tmod (wrap64 (Go.bits .and .u32 (ji5) 255)) 10))) % 256) [.int .u8 ((wrap64 (48 + (Int.tmod (wrap64 (Go.bits .and .u32 (ji5) 255)) 10))) % 256)] from rfl) (Reps.none _ _))); intro v215 w40 ho41 hb hg_ hnew_; clear hg_ hnew_; (first | rw [← Ny214.out] at ho41 | (simp only [Int.reduceToNat] at ho41; rw [← Ny214.out] at ho41)); have n0_ := Aside0.mk (Kd.R_lower ho41 (below_size (by repeat (first | (with_reducible first | exact HB.out | apply below_alloc | apply pw_below_drewN | apply below_drew1) | exact HB.out)))); have n1_ := Aside0.mk (below_step (by repeat (first | (with_reducible first | exact HB.out | apply below_alloc | apply pw_below_drewN | apply below_drew1) | exact HB.out)) hb); clear HB; have HO216 := n0_; have HB := n1_; clear n0_ n1_; clear hb ho41; have hcv42 := own_string (P := Tryd.prog) Tryd.underlying74 Tryd.underlying5 Tryd.underlying9 (Kd.own_of_R HO216.out)))
                    go_roundg kj5
                    case measure => have := HK1.out; have := HJ5.out; omega
                    case rel => exact ⟨(x3_5 ++ (strOfNums y214)), (wrap64 (x4_1 + 1)), (by first | rfl | (simp; done) | (simp [*]; done)), (by first | rfl | (simp; done) | (simp [*]; done)), H', ⟨by have := HK1.out; have := HJ5.out; omega⟩, ⟨by repeat (first | (with_reducible first | exact HB.out | apply below_alloc | apply pw_below_drewN | apply below_drew1) | exact HB.out)⟩⟩
                  · rw [if_neg c39] at H
                    exact absurd H (by simp)
        · rw [if_neg c4] at H
          exact absurd H (by simp)
      · rw [if_neg c2] at H
        have c2b0 : decide (x4_1 < 4) = false := decide_eq_false c2
        clear c2
        obtain rfl := Option.some.inj H
        go_wp2
        go_ret
        exact ⟨by first | rfl | (simp [errW_none, errW_some] <;> rfl) | (simp [*, errW_none, errW_some] <;> rfl), by repeat (first | (with_reducible first | exact HB.out | apply below_alloc | apply pw_below_drewN | apply below_drew1) | exact HB.out)⟩
def four_mask.f (a0 : Int) (a1 : Int) : Option (Int) := if 0 ≤ a1 then (some (Go.bits .andNot .u32 a0 (shr .u32 4294967295 a1))) else (none)
set_option maxHeartbeats 8000000 in
set_option maxRecDepth 100000 in
theorem four_mask.calls (a0 : Int) (a1 : Int) (r : Int) (w : World) (h : four_mask.f a0 a1 = some r) :
    Calls Tryd.prog 54 #[.int .u32 a0, .int .i64 a1] w fun e w' => e = .returned (.int .u32 r) ∧ Drawn0 w w' := by
  have H : (if 0 ≤ a1 then (some (Go.bits .andNot .u32 a0 (shr .u32 4294967295 a1))) else (none)) = some r := h
  clear h
  by_cases c3 : 0 ≤ a1
  · rw [if_pos c3] at H
    have c3b0 := eq_true c3
    have c3b1 : decide (0 ≤ a1) = true := decide_eq_true c3
    clear c3
    obtain ⟨ji4, hji4⟩ : ∃ j_ : Int, (shr .u32 4294967295 a1) = j_ := ⟨_, rfl⟩
    replace H : (some (Go.bits .andNot .u32 a0 (ji4))) = some r := by first | (rw [hji4] at H; exact H) | (simp only [hji4] at H ⊢; exact H)
    have hji4_ : (4294967295 / 2 ^ min a1.toNat 32) = ji4 := hji4
    have hji4z : a1 ≤ 32 → (4294967295 / 2 ^ a1.toNat) = ji4 := shr_small hji4
    obtain rfl := Option.some.inj H
    go_enter Tryd.func54, Tryd.ntmps54
    go_wp2
    go_ret
    exact ⟨by first | rfl | (simp; done) | (simp only [← hji4] <;> (first | rfl | simp)) | (simp [*]; done), by repeat (first | exact Drawn0.refl _ | apply Drawn0.step)⟩
  · rw [if_neg c3] at H
    exact absurd H (by simp)
def four_is.f (a0_0 : Int) (a0_1 : Int) : Option (Bool) := if a0_1 ≥ 0 then (if a0_1 ≤ 32 then ((four_mask.f a0_0 a0_1).bind fun t233 => (some (t233 == a0_0))) else (some false)) else (some false)
set_option maxHeartbeats 8000000 in
set_option maxRecDepth 100000 in
theorem four_is.calls (a0_0 : Int) (a0_1 : Int) (r : Bool) (w : World) (h : four_is.f a0_0 a0_1 = some r) :
    Calls Tryd.prog 52 #[.agg #[.int .u32 a0_0, .int .i64 a0_1]] w fun e w' => e = .returned (.bool r) ∧ Below w.heap.size w w' := by
  have hu50 := Tryd.underlying50
  have HB := Aside0.mk (Below.refl w.heap.size w)
  have H : (if a0_1 ≥ 0 then (if a0_1 ≤ 32 then ((four_mask.f a0_0 a0_1).bind fun t233 => (some (t233 == a0_0))) else (some false)) else (some false)) = some r := h
  clear h
  by_cases c2 : a0_1 ≥ 0
  · rw [if_pos c2] at H
    have c2b0 : decide (0 ≤ a0_1) = true := decide_eq_true c2
    clear c2
    by_cases c3 : a0_1 ≤ 32
    · rw [if_pos c3] at H
      have c3b0 : decide (a0_1 ≤ 32) = true := decide_eq_true c3
      clear c3
      replace H := Option.bind_eq_some_iff.mp H
      obtain ⟨t233, A40, H⟩ := H
      replace H : (some (t233 == a0_0)) = some r := H
      have A4 := Aside0.mk A40
      clear A40
      obtain rfl := Option.some.inj H
      go_enter Tryd.func52, Tryd.ntmps52
      go_wp2_with (first | ((with_reducible refine gate_dst (N := 1) rfl ?_); refine box_event ?hg (N := 1) ?hd (cs := #[.int .u32 a0_0, .int .i64 a0_1]) (t := 50) ?hr ?_; (case hd => rfl); (case hg => rfl); (case hr => first | (go_simp; done) | (go_simp; rfl)); intro gb232 hg w5 hbox hb; have n0_ := Aside0.mk (below_step (by repeat (first | (with_reducible first | exact HB.out | apply below_alloc | apply pw_below_drewN | apply below_drew1) | exact HB.out)) hb); have n1_ := Aside0.mk (hbox); have n2_ := Aside0.mk ((by rw [hg]; exact (below_size (by repeat (first | (with_reducible first | exact HB.out | apply below_alloc | apply pw_below_drewN | apply below_drew1) | exact HB.out))) : w.heap.size ≤ gb232)); have n3_ := Aside0.mk ((by rw [hg]; exact (below_size (by repeat (first | (with_reducible first | exact HB.out | apply below_alloc | apply pw_below_drewN | apply below_drew1) | exact HB.out))) : w.heap.size ≤ gb232)); clear HB; have HB := n0_; have BK232 := n1_; have GW232 := n2_; have GE232 := n3_; clear n0_ n1_ n2_ n3_; clear hb hbox hg; have hcz6_0 : w5.cell? ⟨gb232, 0, none⟩ = some (.int .u32 a0_0) := (blk_cell BK232.out 0).trans rfl; have hcz6_1 : w5.cell? ⟨gb232, 1, none⟩ = some (.int .i64 a0_1) := (blk_cell BK232.out 1).trans rfl; have hfz6_0 := blk_frozen BK232.out 0; have hfz6_1 := blk_frozen BK232.out 1) | (go_at_call 54; (with_reducible refine (four_mask.calls a0_0 a0_1 t233 _ A4.out).mono ?_); rintro e w' ⟨rfl, ⟨nd, rfl⟩⟩; (try first | exact ⟨rfl, _, World.drewN_drewN _ _ _⟩ | exact ⟨rfl, _, Eq.trans (World.drewN_drewN _ _ _) (congrArg (World.drewN _) (Nat.add_assoc _ _ _))⟩)))
      repeat (go_quiet (first | ((with_reducible refine gate_dst (N := 1) rfl ?_); refine box_event ?hg (N := 1) ?hd (cs := #[.int .u32 a0_0, .int .i64 a0_1]) (t := 50) ?hr ?_; (case hd => rfl); (case hg => rfl); (case hr => first | (go_simp; done) | (go_simp; rfl)); intro gb232 hg w5 hbox hb; have n0_ := Aside0.mk (below_step (by repeat (first | (with_reducible first | exact HB.out | apply below_alloc | apply pw_below_drewN | apply below_drew1) | exact HB.out)) hb); have n1_ := Aside0.mk (hbox); have n2_ := Aside0.mk ((by rw [hg]; exact (below_size (by repeat (first | (with_reducible first | exact HB.out | apply below_alloc | apply pw_below_drewN | apply below_drew1) | exact HB.out))) : w.heap.size ≤ gb232)); have n3_ := Aside0.mk ((by rw [hg]; exact (below_size (by repeat (first | (with_reducible first | exact HB.out | apply below_alloc | apply pw_below_drewN | apply below_drew1) | exact HB.out))) : w.heap.size ≤ gb232)); clear HB; have HB := n0_; have BK232 := n1_; have GW232 := n2_; have GE232 := n3_; clear n0_ n1_ n2_ n3_; clear hb hbox hg; have hcz6_0 : w5.cell? ⟨gb232, 0, none⟩ = some (.int .u32 a0_0) := (blk_cell BK232.out 0).trans rfl; have hcz6_1 : w5.cell? ⟨gb232, 1, none⟩ = some (.int .i64 a0_1) := (blk_cell BK232.out 1).trans rfl; have hfz6_0 := blk_frozen BK232.out 0; have hfz6_1 := blk_frozen BK232.out 1) | (go_at_call 54; (with_reducible refine (four_mask.calls a0_0 a0_1 t233 _ A4.out).mono ?_); rintro e w' ⟨rfl, ⟨nd, rfl⟩⟩; (try first | exact ⟨rfl, _, World.drewN_drewN _ _ _⟩ | exact ⟨rfl, _, Eq.trans (World.drewN_drewN _ _ _) (congrArg (World.drewN _) (Nat.add_assoc _ _ _))⟩))); try go_wp2_with (first | ((with_reducible refine gate_dst (N := 1) rfl ?_); refine box_event ?hg (N := 1) ?hd (cs := #[.int .u32 a0_0, .int .i64 a0_1]) (t := 50) ?hr ?_; (case hd => rfl); (case hg => rfl); (case hr => first | (go_simp; done) | (go_simp; rfl)); intro gb232 hg w5 hbox hb; have n0_ := Aside0.mk (below_step (by repeat (first | (with_reducible first | exact HB.out | apply below_alloc | apply pw_below_drewN | apply below_drew1) | exact HB.out)) hb); have n1_ := Aside0.mk (hbox); have n2_ := Aside0.mk ((by rw [hg]; exact (below_size (by repeat (first | (with_reducible first | exact HB.out | apply below_alloc | apply pw_below_drewN | apply below_drew1) | exact HB.out))) : w.heap.size ≤ gb232)); have n3_ := Aside0.mk ((by rw [hg]; exact (below_size (by repeat (first | (with_reducible first | exact HB.out | apply below_alloc | apply pw_below_drewN | apply below_drew1) | exact HB.out))) : w.heap.size ≤ gb232)); clear HB; have HB := n0_; have BK232 := n1_; have GW232 := n2_; have GE232 := n3_; clear n0_ n1_ n2_ n3_; clear hb hbox hg; have hcz6_0 : w5.cell? ⟨gb232, 0, none⟩ = some (.int .u32 a0_0) := (blk_cell BK232.out 0).trans rfl; have hcz6_1 : w5.cell? ⟨gb232, 1, none⟩ = some (.int .i64 a0_1) := (blk_cell BK232.out 1).trans rfl; have hfz6_0 := blk_frozen BK232.out 0; have hfz6_1 := blk_frozen BK232.out 1) | (go_at_call 54; (with_reducible refine (four_mask.calls a0_0 a0_1 t233 _ A4.out).mono ?_); rintro e w' ⟨rfl, ⟨nd, rfl⟩⟩; (try first | exact ⟨rfl, _, World.drewN_drewN _ _ _⟩ | exact ⟨rfl, _, Eq.trans (World.drewN_drewN _ _ _) (congrArg (World.drewN _) (Nat.add_assoc _ _ _))⟩))))
      go_ret
      exact ⟨by first | rfl | (simp [errW_none, errW_some] <;> rfl) | (simp [*, errW_none, errW_some] <;> rfl), by repeat (first | (with_reducible first | exact HB.out | apply below_alloc | apply pw_below_drewN | apply below_drew1 | refine below_set ?_ GE232.out) | exact HB.out)⟩
    · rw [if_neg c3] at H
      have c3b0 : decide (a0_1 ≤ 32) = false := decide_eq_false c3
      clear c3
      obtain rfl := Option.some.inj H
      go_enter Tryd.func52, Tryd.ntmps52
      go_wp2_with (first | ((with_reducible refine gate_dst (N := 1) rfl ?_); refine box_event ?hg (N := 1) ?hd (cs := #[.int .u32 a0_0, .int .i64 a0_1]) (t := 50) ?hr ?_; (case hd => rfl); (case hg => rfl); (case hr => first | (go_simp; done) | (go_simp; rfl)); intro gb232 hg w7 hbox hb; have n0_ := Aside0.mk (below_step (by repeat (first | (with_reducible first | exact HB.out | apply below_alloc | apply pw_below_drewN | apply below_drew1) | exact HB.out)) hb); have n1_ := Aside0.mk (hbox); have n2_ := Aside0.mk ((by rw [hg]; exact (below_size (by repeat (first | (with_reducible first | exact HB.out | apply below_alloc | apply pw_below_drewN | apply below_drew1) | exact HB.out))) : w.heap.size ≤ gb232)); have n3_ := Aside0.mk ((by rw [hg]; exact (below_size (by repeat (first | (with_reducible first | exact HB.out | apply below_alloc | apply pw_below_drewN | apply below_drew1) | exact HB.out))) : w.heap.size ≤ gb232)); clear HB; have HB := n0_; have BK232 := n1_; have GW232 := n2_; have GE232 := n3_; clear n0_ n1_ n2_ n3_; clear hb hbox hg; have hcz8_0 : w7.cell? ⟨gb232, 0, none⟩ = some (.int .u32 a0_0) := (blk_cell BK232.out 0).trans rfl; have hcz8_1 : w7.cell? ⟨gb232, 1, none⟩ = some (.int .i64 a0_1) := (blk_cell BK232.out 1).trans rfl; have hfz8_0 := blk_frozen BK232.out 0; have hfz8_1 := blk_frozen BK232.out 1))
      repeat (go_quiet (first | ((with_reducible refine gate_dst (N := 1) rfl ?_); refine box_event ?hg (N := 1) ?hd (cs := #[.int .u32 a0_0, .int .i64 a0_1]) (t := 50) ?hr ?_; (case hd => rfl); (case hg => rfl); (case hr => first | (go_simp; done) | (go_simp; rfl)); intro gb232 hg w7 hbox hb; have n0_ := Aside0.mk (below_step (by repeat (first | (with_reducible first | exact HB.out | apply below_alloc | apply pw_below_drewN | apply below_drew1) | exact HB.out)) hb); have n1_ := Aside0.mk (hbox); have n2_ := Aside0.mk ((by rw [hg]; exact (below_size (by repeat (first | (with_reducible first | exact HB.out | apply below_alloc | apply pw_below_drewN | apply below_drew1) | exact HB.out))) : w.heap.size ≤ gb232)); have n3_ := Aside0.mk ((by rw [hg]; exact (below_size (by repeat (first | (with_reducible first | exact HB.out | apply below_alloc | apply pw_below_drewN | apply below_drew1) | exact HB.out))) : w.heap.size ≤ gb232)); clear HB; have HB := n0_; have BK232 := n1_; have GW232 := n2_; have GE232 := n3_; clear n0_ n1_ n2_ n3_; clear hb hbox hg; have hcz8_0 : w7.cell? ⟨gb232, 0, none⟩ = some (.int .u32 a0_0) := (blk_cell BK232.out 0).trans rfl; have hcz8_1 : w7.cell? ⟨gb232, 1, none⟩ = some (.int .i64 a0_1) := (blk_cell BK232.out 1).trans rfl; have hfz8_0 := blk_frozen BK232.out 0; have hfz8_1 := blk_frozen BK232.out 1)); try go_wp2_with (first | ((with_reducible refine gate_dst (N := 1) rfl ?_); refine box_event ?hg (N := 1) ?hd (cs := #[.int .u32 a0_0, .int .i64 a0_1]) (t := 50) ?hr ?_; (case hd => rfl); (case hg => rfl); (case hr => first | (go_simp; done) | (go_simp; rfl)); intro gb232 hg w7 hbox hb; have n0_ := Aside0.mk (below_step (by repeat (first | (with_reducible first | exact HB.out | apply below_alloc | apply pw_below_drewN | apply below_drew1) | exact HB.out)) hb); have n1_ := Aside0.mk (hbox); have n2_ := Aside0.mk ((by rw [hg]; exact (below_size (by repeat (first | (with_reducible first | exact HB.out | apply below_alloc | apply pw_below_drewN | apply below_drew1) | exact HB.out))) : w.heap.size ≤ gb232)); have n3_ := Aside0.mk ((by rw [hg]; exact (below_size (by repeat (first | (with_reducible first | exact HB.out | apply below_alloc | apply pw_below_drewN | apply below_drew1) | exact HB.out))) : w.heap.size ≤ gb232)); clear HB; have HB := n0_; have BK232 := n1_; have GW232 := n2_; have GE232 := n3_; clear n0_ n1_ n2_ n3_; clear hb hbox hg; have hcz8_0 : w7.cell? ⟨gb232, 0, none⟩ = some (.int .u32 a0_0) := (blk_cell BK232.out 0).trans rfl; have hcz8_1 : w7.cell? ⟨gb232, 1, none⟩ = some (.int .i64 a0_1) := (blk_cell BK232.out 1).trans rfl; have hfz8_0 := blk_frozen BK232.out 0; have hfz8_1 := blk_frozen BK232.out 1)))
      go_ret
      exact ⟨by first | rfl | (simp [errW_none, errW_some] <;> rfl) | (simp [*, errW_none, errW_some] <;> rfl), by repeat (first | (with_reducible first | exact HB.out | apply below_alloc | apply pw_below_drewN | apply below_drew1 | refine below_set ?_ GE232.out) | exact HB.out)⟩
  · rw [if_neg c2] at H
    have c2b0 : decide (0 ≤ a0_1) = false := decide_eq_false c2
    clear c2
    obtain rfl := Option.some.inj H
    go_enter Tryd.func52, Tryd.ntmps52
    go_wp2_with (first | ((with_reducible refine gate_dst (N := 1) rfl ?_); refine box_event ?hg (N := 1) ?hd (cs := #[.int .u32 a0_0, .int .i64 a0_1]) (t := 50) ?hr ?_; (case hd => rfl); (case hg => rfl); (case hr => first | (go_simp; done) | (go_simp; rfl)); intro gb232 hg w9 hbox hb; have n0_ := Aside0.mk (below_step (by repeat (first | (with_reducible first | exact HB.out | apply below_alloc | apply pw_below_drewN | apply below_drew1) | exact HB.out)) hb); have n1_ := Aside0.mk (hbox); have n2_ := Aside0.mk ((by rw [hg]; exact (below_size (by repeat (first | (with_reducible first | exact HB.out | apply below_alloc | apply pw_below_drewN | apply below_drew1) | exact HB.out))) : w.heap.size ≤ gb232)); have n3_ := Aside0.mk ((by rw [hg]; exact (below_size (by repeat (first | (with_reducible first | exact HB.out | apply below_alloc | apply pw_below_drewN | apply below_drew1) | exact HB.out))) : w.heap.size ≤ gb232)); clear HB; have HB := n0_; have BK232 := n1_; have GW232 := n2_; have GE232 := n3_; clear n0_ n1_ n2_ n3_; clear hb hbox hg; have hcz10_0 : w9.cell? ⟨gb232, 0, none⟩ = some (.int .u32 a0_0) := (blk_cell BK232.out 0).trans rfl; have hcz10_1 : w9.cell? ⟨gb232, 1, none⟩ = some (.int .i64 a0_1) := (blk_cell BK232.out 1).trans rfl; have hfz10_0 := blk_frozen BK232.out 0; have hfz10_1 := blk_frozen BK232.out 1))
    repeat (go_quiet (first | ((with_reducible refine gate_dst (N := 1) rfl ?_); refine box_event ?hg (N := 1) ?hd (cs := #[.int .u32 a0_0, .int .i64 a0_1]) (t := 50) ?hr ?_; (case hd => rfl); (case hg => rfl); (case hr => first | (go_simp; done) | (go_simp; rfl)); intro gb232 hg w9 hbox hb; have n0_ := Aside0.mk (below_step (by repeat (first | (with_reducible first | exact HB.out | apply below_alloc | apply pw_below_drewN | apply below_drew1) | exact HB.out)) hb); have n1_ := Aside0.mk (hbox); have n2_ := Aside0.mk ((by rw [hg]; exact (below_size (by repeat (first | (with_reducible first | exact HB.out | apply below_alloc | apply pw_below_drewN | apply below_drew1) | exact HB.out))) : w.heap.size ≤ gb232)); have n3_ := Aside0.mk ((by rw [hg]; exact (below_size (by repeat (first | (with_reducible first | exact HB.out | apply below_alloc | apply pw_below_drewN | apply below_drew1) | exact HB.out))) : w.heap.size ≤ gb232)); clear HB; have HB := n0_; have BK232 := n1_; have GW232 := n2_; have GE232 := n3_; clear n0_ n1_ n2_ n3_; clear hb hbox hg; have hcz10_0 : w9.cell? ⟨gb232, 0, none⟩ = some (.int .u32 a0_0) := (blk_cell BK232.out 0).trans rfl; have hcz10_1 : w9.cell? ⟨gb232, 1, none⟩ = some (.int .i64 a0_1) := (blk_cell BK232.out 1).trans rfl; have hfz10_0 := blk_frozen BK232.out 0; have hfz10_1 := blk_frozen BK232.out 1)); try go_wp2_with (first | ((with_reducible refine gate_dst (N := 1) rfl ?_); refine box_event ?hg (N := 1) ?hd (cs := #[.int .u32 a0_0, .int .i64 a0_1]) (t := 50) ?hr ?_; (case hd => rfl); (case hg => rfl); (case hr => first | (go_simp; done) | (go_simp; rfl)); intro gb232 hg w9 hbox hb; have n0_ := Aside0.mk (below_step (by repeat (first | (with_reducible first | exact HB.out | apply below_alloc | apply pw_below_drewN | apply below_drew1) | exact HB.out)) hb); have n1_ := Aside0.mk (hbox); have n2_ := Aside0.mk ((by rw [hg]; exact (below_size (by repeat (first | (with_reducible first | exact HB.out | apply below_alloc | apply pw_below_drewN | apply below_drew1) | exact HB.out))) : w.heap.size ≤ gb232)); have n3_ := Aside0.mk ((by rw [hg]; exact (below_size (by repeat (first | (with_reducible first | exact HB.out | apply below_alloc | apply pw_below_drewN | apply below_drew1) | exact HB.out))) : w.heap.size ≤ gb232)); clear HB; have HB := n0_; have BK232 := n1_; have GW232 := n2_; have GE232 := n3_; clear n0_ n1_ n2_ n3_; clear hb hbox hg; have hcz10_0 : w9.cell? ⟨gb232, 0, none⟩ = some (.int .u32 a0_0) := (blk_cell BK232.out 0).trans rfl; have hcz10_1 : w9.cell? ⟨gb232, 1, none⟩ = some (.int .i64 a0_1) := (blk_cell BK232.out 1).trans rfl; have hfz10_0 := blk_frozen BK232.out 0; have hfz10_1 := blk_frozen BK232.out 1)))
    go_ret
    exact ⟨by first | rfl | (simp [errW_none, errW_some] <;> rfl) | (simp [*, errW_none, errW_some] <;> rfl), by repeat (first | (with_reducible first | exact HB.out | apply below_alloc | apply pw_below_drewN | apply below_drew1 | refine below_set ?_ GE232.out) | exact HB.out)⟩
def four_Within.f (a0_0 : Int) (a0_1 : Int) (a1 : Int) : Option (Bool) := (four_is.f a0_0 a0_1).bind fun t235 => (if t235 = true then ((four_mask.f a1 a0_1).bind fun t236 => (some (t236 == a0_0))) else (some false))
def four_Within.T1 : Bool × List (List Nat × List Nat) := (true, [([], []), ([0], [0]), ([1, 1], [1]), ([2], [2]), ([2], [2]), ([4, 2], [2, 4]), ([3, 5, 2, 2], [2, 3, 5]), ([2], [2]), ([7, 2], [2, 7]), ([6, 8, 2], [2, 6, 8]), ([2, 9], [2, 9]), ([10, 6, 0, 1, 2, 3, 4, 5, 6, 7, 8, 9, 10], [10])])
def four_Within.B1 : List Nat := [0, 1, 3, 7, 7, 23, 63, 7, 135, 511, 1023, 2047]
theorem four_Within.tab1 : rtab .any (opsOf Tryd.f37 1) = four_Within.T1 := by kernel_rfl
theorem four_Within.bits1 : waitsOk four_Within.T1.2 four_Within.B1 = true := by kernel_rfl
set_option maxHeartbeats 8000000 in
set_option maxRecDepth 100000 in
theorem four_Within.calls (a0_0 : Int) (a0_1 : Int) (a1 : Int) (r : Bool) (w : World) (h : four_Within.f a0_0 a0_1 a1 = some r) :
    Calls Tryd.prog 37 #[.agg #[.int .u32 a0_0, .int .i64 a0_1], .int .u32 a1] w fun e w' => e = .returned (.bool r) ∧ Below w.heap.size w w' := by
  have hu50 := Tryd.underlying50
  have HB := Aside0.mk (Below.refl w.heap.size w)
  have H : ((four_is.f a0_0 a0_1).bind fun t235 => (if t235 = true then ((four_mask.f a1 a0_1).bind fun t236 => (some (t236 == a0_0))) else (some false))) = some r := h
  clear h
  replace H := Option.bind_eq_some_iff.mp H
  obtain ⟨t235, A30, H⟩ := H
  replace H : (if t235 = true then ((four_mask.f a1 a0_1).bind fun t236 => (some (t236 == a0_0))) else (some false)) = some r := H
  have A3 := Aside0.mk A30
  clear A30
  by_cases c4 : t235 = true
  · subst c4
    have H1 : ((four_mask.f a1 a0_1).bind fun t236 => (some (t236 == a0_0))) = some r := by rw [if_pos rfl] at H; exact H
    clear H
    have H := H1
    clear H1
    replace H := Option.bind_eq_some_iff.mp H
    obtain ⟨t236, A50, H⟩ := H
    replace H : (some (t236 == a0_0)) = some r := H
    have A5 := Aside0.mk A50
    clear A50
    obtain rfl := Option.some.inj H
    go_enter Tryd.func37, Tryd.ntmps37
    try go_wp2_with (first | ((with_reducible refine gate_dst (N := 2) rfl ?_); refine box_event ?hg (N := 2) ?hd (cs := #[.int .u32 a0_0, .int .i64 a0_1]) (t := 50) ?hr ?_; (case hd => rfl); (case hg => rfl); (case hr => first | (go_simp; done) | (go_simp; rfl)); intro gb234 hg w6 hbox hb; have n0_ := Aside0.mk (below_step (by repeat (first | (with_reducible first | exact HB.out | apply below_alloc | apply pw_below_drewN | apply below_drew1) | exact HB.out)) hb); have n1_ := Aside0.mk (hbox); have n2_ := Aside0.mk ((by rw [hg]; exact (below_size (by repeat (first | (with_reducible first | exact HB.out | apply below_alloc | apply pw_below_drewN | apply below_drew1) | exact HB.out))) : w.heap.size ≤ gb234)); have n3_ := Aside0.mk ((by rw [hg]; exact (below_size (by repeat (first | (with_reducible first | exact HB.out | apply below_alloc | apply pw_below_drewN | apply below_drew1) | exact HB.out))) : w.heap.size ≤ gb234)); clear HB; have HB := n0_; have BK234 := n1_; have GW234 := n2_; have GE234 := n3_; clear n0_ n1_ n2_ n3_; clear hb hbox hg))
    have n0_ := Aside0.mk (blk_drew BK234.out)
    have n1_ := Aside0.mk (below_drew1 HB.out)
    clear BK234
    clear HB
    have BK234 := n0_
    have HB := n1_
    clear n0_ n1_
    refine start_ (n := 12) (S := fun w' => w'.cell? ⟨gb234, 0, none⟩ = some (.int .u32 a0_0) ∧ w'.cell? ⟨gb234, 1, none⟩ = some (.int .i64 a0_1)) (ds := []) #[false, false, false, false, false, false, false, false, false, false, false, false] (by kernel_rfl) rfl rfl ⟨(blk_cell BK234.out 0).trans rfl, (blk_cell BK234.out 1).trans rfl⟩ (fun hHeld => ?_); refine with_tabW four_Within.tab1 four_Within.bits1 (fun HT_ HW_ => ?_)
    generalize w6.drew = w7 at BK234 HB hHeld ⊢
    refine take_ (i := 0) (N := some 5) (v := ?_) (a' := ?_) #[true, false, false, false, false, false, false, false, false, false, false, false] rfl rfl (take_ofW HT_.out HW_.out (by kernel_rfl)) (fun _ _ _ h => h) (Or.inl ⟨by rfl, ?_⟩) hHeld ?_ ?_
    rotate_left
    · rintro w' ⟨s0, s1⟩
      go_simp
      with_reducible rfl
    rotate_left
    · simp only [Act.put, List.setIfInBounds_toArray, List.set_cons_zero, List.set_cons_succ, i64_w, i32_w]
      rfl
    refine one_ (i := 1) (N := some 6) #[true, true, false, false, false, false, false, false, false, false, false, false] rfl rfl (one_of HT_.out (by kernel_rfl)) (by decide) (fun K hK => ?_)
    refine goes_ Tryd.func52 (by kernel_rfl) rfl #[.agg #[.int .u32 a0_0, .int .i64 a0_1]] (by rfl) rfl rfl (by (try simp only [List.map_toArray, List.map_cons, List.map_nil]); first | done | rfl | (simp only [List.length_drop, List.length_take]; rfl)) ?_
    with_reducible refine (four_is.calls a0_0 a0_1 true _ A3.out).mono ?_
    rintro e w8 ⟨rfl, hb⟩
    refine ⟨_, rfl, ?_⟩
    have n0_ := Aside0.mk (blk_below (g := gb234) (o := .cells #[.int .u32 a0_0, .int .i64 a0_1] 50 (0, 0)) (by (with_reducible repeat (first | refine blk_drewN ?_ _ | refine blk_drew ?_ | refine blk_alloc ?_ _)); exact BK234.out) hb)
    have n1_ := Aside0.mk (below_step (by repeat (first | (with_reducible first | exact HB.out | apply below_alloc | apply pw_below_drewN | apply below_drew1 | refine below_set ?_ GE234.out) | exact HB.out)) hb)
    clear BK234
    clear HB
    have BK234 := n0_
    have HB := n1_
    clear n0_ n1_
    (try clear hb)
    (try clear hb2)
    (try clear hk)
    (try clear hi)
    refine hK.out _ _ ⟨(blk_cell BK234.out 0).trans rfl, (blk_cell BK234.out 1).trans rfl⟩ (fun hHeld => ?_)
    clear hK K
    refine norm_ (a' := ?_) ?_ ?_
    rotate_left
    · show Act.put _ (some 6) _ = _
      simp only [Act.put, List.setIfInBounds_toArray, List.set_cons_zero, List.set_cons_succ, i64_w, i32_w]
      rfl
    refine pure_ (i := 2) (N := some 7) (v := ?_) (a' := ?_) #[true, true, true, false, false, false, false, false, false, false, false, false] rfl rfl (any_of HT_.out (by kernel_rfl)) (fun _ _ _ h => h) (Or.inl ⟨by rfl, ?_⟩) ?_ ?_
    rotate_left
    · intro w'
      go_simp
      with_reducible rfl
    rotate_left
    · simp only [Act.put, List.setIfInBounds_toArray, List.set_cons_zero, List.set_cons_succ, i64_w, i32_w]
      rfl
    refine pure_ (i := 3) (N := some 8) (v := ?_) (a' := ?_) #[true, true, true, true, false, false, false, false, false, false, false, false] rfl rfl (any_of HT_.out (by kernel_rfl)) (fun _ _ _ h => h) (Or.inl ⟨by rfl, ?_⟩) ?_ ?_
    rotate_left
    · intro w'
      go_simp
      with_reducible rfl
    rotate_left
    · simp only [Act.put, List.setIfInBounds_toArray, List.set_cons_zero, List.set_cons_succ, i64_w, i32_w]
      rfl
    refine pure_ (i := 4) (N := some 9) (v := ?_) (a' := ?_) #[true, true, true, true, true, false, false, false, false, false, false, false] rfl rfl (any_of HT_.out (by kernel_rfl)) (fun _ _ _ h => h) (Or.inl ⟨by rfl, ?_⟩) ?_ ?_
    rotate_left
    · intro w'
      go_simp
      with_reducible rfl
    rotate_left
    · simp only [Act.put, List.setIfInBounds_toArray, List.set_cons_zero, List.set_cons_succ, i64_w, i32_w]
      rfl
    refine pure_ (i := 7) (N := some 12) (v := ?_) (a' := ?_) #[true, true, true, true, true, false, false, true, false, false, false, false] rfl rfl (any_of HT_.out (by kernel_rfl)) (fun _ _ _ h => h) (Or.inl ⟨by rfl, ?_⟩) ?_ ?_
    rotate_left
    · intro w'
      go_simp
      with_reducible rfl
    rotate_left
    · simp only [Act.put, List.setIfInBounds_toArray, List.set_cons_zero, List.set_cons_succ, i64_w, i32_w]
      rfl
    refine take_ (i := 5) (N := some 10) (v := ?_) (a' := ?_) #[true, true, true, true, true, true, false, true, false, false, false, false] rfl rfl (take_ofW HT_.out HW_.out (by kernel_rfl)) (fun _ _ _ h => h) (Or.inl ⟨by rfl, ?_⟩) hHeld ?_ ?_
    rotate_left
    · rintro w' ⟨s0, s1⟩
      go_simp
      with_reducible rfl
    rotate_left
    · simp only [Act.put, List.setIfInBounds_toArray, List.set_cons_zero, List.set_cons_succ, i64_w, i32_w]
      rfl
    refine take_ (i := 8) (N := some 13) (v := ?_) (a' := ?_) #[true, true, true, true, true, true, false, true, true, false, false, false] rfl rfl (take_ofW HT_.out HW_.out (by kernel_rfl)) (fun _ _ _ h => h) (Or.inl ⟨by rfl, ?_⟩) hHeld ?_ ?_
    rotate_left
    · rintro w' ⟨s0, s1⟩
      go_simp
      with_reducible rfl
    rotate_left
    · simp only [Act.put, List.setIfInBounds_toArray, List.set_cons_zero, List.set_cons_succ, i64_w, i32_w]
      rfl
    refine one_ (i := 6) (N := some 11) #[true, true, true, true, true, true, true, true, true, false, false, false] rfl rfl (one_of HT_.out (by kernel_rfl)) (by decide) (fun K hK => ?_)
    refine goes_ Tryd.func54 (by kernel_rfl) rfl #[.int .u32 a1, .int .i64 a0_1] (by rfl) rfl rfl (by (try simp only [List.map_toArray, List.map_cons, List.map_nil]); first | done | rfl | (simp only [List.length_drop, List.length_take]; rfl)) ?_
    with_reducible refine (four_mask.calls a1 a0_1 t236 _ A5.out).mono ?_
    rintro e w' ⟨rfl, ⟨nd, rfl⟩⟩
    refine ⟨_, rfl, ?_⟩
    refine hK.out _ _ ⟨(blk_cell BK234.out 0).trans rfl, (blk_cell BK234.out 1).trans rfl⟩ (fun hHeld => ?_)
    clear hK K
    refine norm_ (a' := ?_) ?_ ?_
    rotate_left
    · show Act.put _ (some 11) _ = _
      simp only [Act.put, List.setIfInBounds_toArray, List.set_cons_zero, List.set_cons_succ, i64_w, i32_w]
      rfl
    refine pure_ (i := 9) (N := some 14) (v := ?_) (a' := ?_) #[true, true, true, true, true, true, true, true, true, true, false, false] rfl rfl (any_of HT_.out (by kernel_rfl)) (fun _ _ _ h => h) (Or.inl ⟨by rfl, ?_⟩) ?_ ?_
    rotate_left
    · intro w'
      go_simp
      with_reducible rfl
    rotate_left
    · simp only [Act.put, List.setIfInBounds_toArray, List.set_cons_zero, List.set_cons_succ, i64_w, i32_w]
      rfl
    refine pure_ (i := 10) (N := some 15) (v := ?_) (a' := ?_) #[true, true, true, true, true, true, true, true, true, true, true, false] rfl rfl (any_of HT_.out (by kernel_rfl)) (fun _ _ _ h => h) (Or.inl ⟨by rfl, ?_⟩) ?_ ?_
    rotate_left
    · intro w'
      go_simp
      with_reducible rfl
    rotate_left
    · simp only [Act.put, List.setIfInBounds_toArray, List.set_cons_zero, List.set_cons_succ, i64_w, i32_w]
      rfl
    refine pure_ (i := 11) (N := some 4) (v := ?_) (a' := ?_) #[true, true, true, true, true, true, true, true, true, true, true, true] rfl rfl (any_of HT_.out (by kernel_rfl)) (fun _ _ _ h => h) (Or.inl ⟨by rfl, ?_⟩) ?_ ?_
    rotate_left
    · intro w'
      go_simp
      with_reducible rfl
    rotate_left
    · simp only [Act.put, List.setIfInBounds_toArray, List.set_cons_zero, List.set_cons_succ, i64_w, i32_w]
      rfl
    refine done_ (done_of HT_.out (by kernel_rfl)) ?_
    try go_wp2
    go_ret
    exact ⟨by first | rfl | (simp [errW_none, errW_some] <;> rfl) | (simp [*, errW_none, errW_some] <;> rfl), by repeat (first | (with_reducible first | exact HB.out | apply below_alloc | apply pw_below_drewN | apply below_drew1 | refine below_set ?_ GE234.out) | exact HB.out)⟩
  · replace c4 := Bool.eq_false_iff.mpr c4
    subst c4
    have H1 : (some false) = some r := by rw [if_neg (show ¬ (false = true) by decide)] at H; exact H
    clear H
    have H := H1
    clear H1
    obtain rfl := Option.some.inj H
    go_enter Tryd.func37, Tryd.ntmps37
    try go_wp2_with (first | ((with_reducible refine gate_dst (N := 2) rfl ?_); refine box_event ?hg (N := 2) ?hd (cs := #[.int .u32 a0_0, .int .i64 a0_1]) (t := 50) ?hr ?_; (case hd => rfl); (case hg => rfl); (case hr => first | (go_simp; done) | (go_simp; rfl)); intro gb234 hg w9 hbox hb; have n0_ := Aside0.mk (below_step (by repeat (first | (with_reducible first | exact HB.out | apply below_alloc | apply pw_below_drewN | apply below_drew1) | exact HB.out)) hb); have n1_ := Aside0.mk (hbox); have n2_ := Aside0.mk ((by rw [hg]; exact (below_size (by repeat (first | (with_reducible first | exact HB.out | apply below_alloc | apply pw_below_drewN | apply below_drew1) | exact HB.out))) : w.heap.size ≤ gb234)); have n3_ := Aside0.mk ((by rw [hg]; exact (below_size (by repeat (first | (with_reducible first | exact HB.out | apply below_alloc | apply pw_below_drewN | apply below_drew1) | exact HB.out))) : w.heap.size ≤ gb234)); clear HB; have HB := n0_; have BK234 := n1_; have GW234 := n2_; have GE234 := n3_; clear n0_ n1_ n2_ n3_; clear hb hbox hg))
    have n0_ := Aside0.mk (blk_drew BK234.out)
    have n1_ := Aside0.mk (below_drew1 HB.out)
    clear BK234
    clear HB
    have BK234 := n0_
    have HB := n1_
    clear n0_ n1_
    refine start_ (n := 12) (S := fun w' => w'.cell? ⟨gb234, 0, none⟩ = some (.int .u32 a0_0) ∧ w'.cell? ⟨gb234, 1, none⟩ = some (.int .i64 a0_1)) (ds := []) #[false, false, false, false, false, false, false, false, false, false, false, false] (by kernel_rfl) rfl rfl ⟨(blk_cell BK234.out 0).trans rfl, (blk_cell BK234.out 1).trans rfl⟩ (fun hHeld => ?_); refine with_tabW four_Within.tab1 four_Within.bits1 (fun HT_ HW_ => ?_)
    generalize w9.drew = w10 at BK234 HB hHeld ⊢
    refine take_ (i := 0) (N := some 5) (v := ?_) (a' := ?_) #[true, false, false, false, false, false, false, false, false, false, false, false] rfl rfl (take_ofW HT_.out HW_.out (by kernel_rfl)) (fun _ _ _ h => h) (Or.inl ⟨by rfl, ?_⟩) hHeld ?_ ?_
    rotate_left
    · rintro w' ⟨s0, s1⟩
      go_simp
      with_reducible rfl
    rotate_left
    · simp only [Act.put, List.setIfInBounds_toArray, List.set_cons_zero, List.set_cons_succ, i64_w, i32_w]
      rfl
    refine one_ (i := 1) (N := some 6) #[true, true, false, false, false, false, false, false, false, false, false, false] rfl rfl (one_of HT_.out (by kernel_rfl)) (by decide) (fun K hK => ?_)
    refine goes_ Tryd.func52 (by kernel_rfl) rfl #[.agg #[.int .u32 a0_0, .int .i64 a0_1]] (by rfl) rfl rfl (by (try simp only [List.map_toArray, List.map_cons, List.map_nil]); first | done | rfl | (simp only [List.length_drop, List.length_take]; rfl)) ?_
    with_reducible refine (four_is.calls a0_0 a0_1 false _ A3.out).mono ?_
    rintro e w11 ⟨rfl, hb⟩
    refine ⟨_, rfl, ?_⟩
    have n0_ := Aside0.mk (blk_below (g := gb234) (o := .cells #[.int .u32 a0_0, .int .i64 a0_1] 50 (0, 0)) (by (with_reducible repeat (first | refine blk_drewN ?_ _ | refine blk_drew ?_ | refine blk_alloc ?_ _)); exact BK234.out) hb)
    have n1_ := Aside0.mk (below_step (by repeat (first | (with_reducible first | exact HB.out | apply below_alloc | apply pw_below_drewN | apply below_drew1 | refine below_set ?_ GE234.out) | exact HB.out)) hb)
    clear BK234
    clear HB
    have BK234 := n0_
    have HB := n1_
    clear n0_ n1_
    (try clear hb)
    (try clear hb2)
    (try clear hk)
    (try clear hi)
    refine hK.out _ _ ⟨(blk_cell BK234.out 0).trans rfl, (blk_cell BK234.out 1).trans rfl⟩ (fun hHeld => ?_)
    clear hK K
    refine norm_ (a' := ?_) ?_ ?_
    rotate_left
    · show Act.put _ (some 6) _ = _
      simp only [Act.put, List.setIfInBounds_toArray, List.set_cons_zero, List.set_cons_succ, i64_w, i32_w]
      rfl
    refine pure_ (i := 2) (N := some 7) (v := ?_) (a' := ?_) #[true, true, true, false, false, false, false, false, false, false, false, false] rfl rfl (any_of HT_.out (by kernel_rfl)) (fun _ _ _ h => h) (Or.inl ⟨by rfl, ?_⟩) ?_ ?_
    rotate_left
    · intro w'
      go_simp
      with_reducible rfl
    rotate_left
    · simp only [Act.put, List.setIfInBounds_toArray, List.set_cons_zero, List.set_cons_succ, i64_w, i32_w]
      rfl
    refine pure_ (i := 3) (N := some 8) (v := undef) (a' := ?_) #[true, true, true, true, false, false, false, false, false, false, false, false] rfl rfl (any_of HT_.out (by kernel_rfl)) (fun _ _ _ h => h) (Or.inr ⟨by rfl, rfl⟩) ?_ ?_
    rotate_left
    · simp only [Act.put, List.setIfInBounds_toArray, List.set_cons_zero, List.set_cons_succ, i64_w, i32_w]
      rfl
    refine pure_ (i := 4) (N := some 9) (v := undef) (a' := ?_) #[true, true, true, true, true, false, false, false, false, false, false, false] rfl rfl (any_of HT_.out (by kernel_rfl)) (fun _ _ _ h => h) (Or.inr ⟨by rfl, rfl⟩) ?_ ?_
    rotate_left
    · simp only [Act.put, List.setIfInBounds_toArray, List.set_cons_zero, List.set_cons_succ, i64_w, i32_w]
      rfl
    refine pure_ (i := 5) (N := some 10) (v := undef) (a' := ?_) #[true, true, true, true, true, true, false, false, false, false, false, false] rfl rfl (any_of HT_.out (by kernel_rfl)) (fun _ _ _ h => h) (Or.inr ⟨by rfl, rfl⟩) ?_ ?_
    rotate_left
    · simp only [Act.put, List.setIfInBounds_toArray, List.set_cons_zero, List.set_cons_succ, i64_w, i32_w]
      rfl
    refine pure_ (i := 6) (N := some 11) (v := undef) (a' := ?_) #[true, true, true, true, true, true, true, false, false, false, false, false] rfl rfl (any_of HT_.out (by kernel_rfl)) (fun _ _ _ h => h) (Or.inr ⟨by rfl, rfl⟩) ?_ ?_
    rotate_left
    · simp only [Act.put, List.setIfInBounds_toArray, List.set_cons_zero, List.set_cons_succ, i64_w, i32_w]
      rfl
    refine pure_ (i := 7) (N := some 12) (v := undef) (a' := ?_) #[true, true, true, true, true, true, true, true, false, false, false, false] rfl rfl (any_of HT_.out (by kernel_rfl)) (fun _ _ _ h => h) (Or.inr ⟨by rfl, rfl⟩) ?_ ?_
    rotate_left
    · simp only [Act.put, List.setIfInBounds_toArray, List.set_cons_zero, List.set_cons_succ, i64_w, i32_w]
      rfl
    refine pure_ (i := 8) (N := some 13) (v := undef) (a' := ?_) #[true, true, true, true, true, true, true, true, true, false, false, false] rfl rfl (any_of HT_.out (by kernel_rfl)) (fun _ _ _ h => h) (Or.inr ⟨by rfl, rfl⟩) ?_ ?_
    rotate_left
    · simp only [Act.put, List.setIfInBounds_toArray, List.set_cons_zero, List.set_cons_succ, i64_w, i32_w]
      rfl
    refine pure_ (i := 9) (N := some 14) (v := undef) (a' := ?_) #[true, true, true, true, true, true, true, true, true, true, false, false] rfl rfl (any_of HT_.out (by kernel_rfl)) (fun _ _ _ h => h) (Or.inr ⟨by rfl, rfl⟩) ?_ ?_
    rotate_left
    · simp only [Act.put, List.setIfInBounds_toArray, List.set_cons_zero, List.set_cons_succ, i64_w, i32_w]
      rfl
    refine pure_ (i := 10) (N := some 15) (v := ?_) (a' := ?_) #[true, true, true, true, true, true, true, true, true, true, true, false] rfl rfl (any_of HT_.out (by kernel_rfl)) (fun _ _ _ h => h) (Or.inl ⟨by rfl, ?_⟩) ?_ ?_
    rotate_left
    · intro w'
      go_simp
      with_reducible rfl
    rotate_left
    · simp only [Act.put, List.setIfInBounds_toArray, List.set_cons_zero, List.set_cons_succ, i64_w, i32_w]
      rfl
    refine pure_ (i := 11) (N := some 4) (v := ?_) (a' := ?_) #[true, true, true, true, true, true, true, true, true, true, true, true] rfl rfl (any_of HT_.out (by kernel_rfl)) (fun _ _ _ h => h) (Or.inl ⟨by rfl, ?_⟩) ?_ ?_
    rotate_left
    · intro w'
      go_simp
      with_reducible rfl
    rotate_left
    · simp only [Act.put, List.setIfInBounds_toArray, List.set_cons_zero, List.set_cons_succ, i64_w, i32_w]
      rfl
    refine done_ (done_of HT_.out (by kernel_rfl)) ?_
    try go_wp2
    go_ret
    exact ⟨by first | rfl | (simp [errW_none, errW_some] <;> rfl) | (simp [*, errW_none, errW_some] <;> rfl), by repeat (first | (with_reducible first | exact HB.out | apply below_alloc | apply pw_below_drewN | apply below_drew1 | refine below_set ?_ GE234.out) | exact HB.out)⟩
end Go.Proofs.YtgnahagnmodpdaaDoor.X
/-! X8 -/
namespace Go.Proofs.YtgnahagnmodpdaaDoor.X
open Go.RowKit Go.Proofs.YtgnahagnmodpdaaDoorW.PrintWords Go.Proofs.YtgnahagnmodpdaaDoorW.PrintLast Go.Proofs.YtgnahagnmodpdaaDoorW.PrintMore
attribute [local go_sem] max2_int min2_int max_two min_two max_three min_three max_four min_four
set_option linter.unusedVariables false
set_option linter.unusedSimpArgs false
def four_bitsOf.l0 : Nat → ByteArray → Int → Int → Int → Option (Int × Int)
  | 0, _, _, _, _ => none
  | k + 1, x0, x4, x7, x8 => if x8 < x7 then (if 0 ≤ x8 then (if x8 < (x0.size : Int) then (if (bt x0 x8) < 48 then (some (0, x8)) else (if (bt x0 x8) > 57 then (some (0, x8)) else (if x8 > 0 then (if x4 = 0 then (some (0, x8)) else (if (wrap64 ((wrap64 (10 * x4)) + (((bt x0 x8) - 48) % 256))) > 32 then (some (0, x8)) else (four_bitsOf.l0 k x0 (wrap64 ((wrap64 (10 * x4)) + (((bt x0 x8) - 48) % 256))) x7 (wrap64 (x8 + 1))))) else (if (wrap64 ((wrap64 (10 * x4)) + (((bt x0 x8) - 48) % 256))) > 32 then (some (0, x8)) else (four_bitsOf.l0 k x0 (wrap64 ((wrap64 (10 * x4)) + (((bt x0 x8) - 48) % 256))) x7 (wrap64 (x8 + 1))))))) else (none)) else (none)) else (if x0.toList = ([] : List UInt8) then (some (0, 0)) else (some (x4, (-1))))
def four_bitsOf.f (k : Nat) (a0 : ByteArray) : Option (Int × Int) := four_bitsOf.l0 k a0 0 (a0.size : Int) 0
set_option maxHeartbeats 8000000 in
set_option maxRecDepth 100000 in
theorem four_bitsOf.calls (k : Nat) (a0 : ByteArray) (r1 : Int) (r2 : Int) (w : World) (h : four_bitsOf.f k a0 = some (r1, r2)) :
    Calls Tryd.prog 51 #[.string a0] w fun e w' => e = .returned (.tuple #[.int .i64 r1, .int .i64 r2]) ∧ Drawn0 w w' := by
  have H : (four_bitsOf.l0 k a0 0 (a0.size : Int) 0) = some (r1, r2) := h
  clear h
  have H' := Aside0.mk H
  clear H
  go_enter Tryd.func51, Tryd.ntmps51
  go_wp2
  go_loopg [4, 8] k (fun kq v4 v8 w' => ∃ (x4_1 : Int) (x8_1 : Int), v4 = .int .i64 x4_1 ∧ v8 = .int .i64 x8_1 ∧ Aside0 (four_bitsOf.l0 kq a0 x4_1 (a0.size : Int) x8_1 = some (r1, r2)) ∧ Aside0 (kq ≤ k) ∧ Drawn0 w w')
  case atStart => exact ⟨(0), (0), (by first | rfl | (simp; done) | (simp [*]; done)), (by first | rfl | (simp; done) | (simp [*]; done)), H', ⟨Nat.le_refl _⟩, by repeat (first | exact Drawn0.refl _ | apply Drawn0.step)⟩
  case round =>
    clear H'
    obtain ⟨x4_1, x8_1, rfl, rfl, HA, HK1, ⟨m1, rfl⟩⟩ := hrel
    cases gk with
    | zero => exact absurd HA.out (by simp [four_bitsOf.l0])
    | succ k1 =>
      have H := HA.out
      clear HA
      simp only [four_bitsOf.l0] at H
      by_cases c2 : x8_1 < (a0.size : Int)
      · rw [if_pos c2] at H
        have c2b0 : decide (x8_1 < (a0.size : Int)) = true := decide_eq_true c2
        clear c2
        by_cases c3 : 0 ≤ x8_1
        · rw [if_pos c3] at H
          have c3b0 : decide (0 ≤ x8_1) = true := decide_eq_true c3
          clear c3
          by_cases c4 : x8_1 < (a0.size : Int)
          · rw [if_pos c4] at H
            have c4b0 : decide (x8_1 < (a0.size : Int)) = true := decide_eq_true c4
            clear c4
            by_cases c6 : (bt a0 x8_1) < 48
            · rw [if_pos c6] at H
              have c6b0 : decide ((bt a0 x8_1) < 48) = true := decide_eq_true c6
              clear c6
              simp only [Option.some.injEq, Prod.mk.injEq] at H
              obtain ⟨rfl, rfl⟩ := H
              have p5 : 0 ≤ (x8_1 : Int) := of_decide_eq_true (by first | (with_reducible assumption) | assumption)
              have q5 : x8_1 < (a0.size : Int) := of_decide_eq_true (by first | (with_reducible assumption) | assumption)
              have hx5 := bt_at a0 x8_1
              replace p5 := eq_true p5
              replace q5 := eq_true q5
              go_wp2
              go_ret2
              exact ⟨by first | rfl | (simp; done) | (simp [*]; done), by repeat (first | exact Drawn0.refl _ | apply Drawn0.step)⟩
            · rw [if_neg c6] at H
              have c6b0 : decide ((bt a0 x8_1) < 48) = false := decide_eq_false c6
              clear c6
              by_cases c8 : (bt a0 x8_1) > 57
              · rw [if_pos c8] at H
                have c8b0 : decide (57 < (bt a0 x8_1)) = true := decide_eq_true c8
                clear c8
                simp only [Option.some.injEq, Prod.mk.injEq] at H
                obtain ⟨rfl, rfl⟩ := H
                have p5 : 0 ≤ (x8_1 : Int) := of_decide_eq_true (by first | (with_reducible assumption) | assumption)
                have q5 : x8_1 < (a0.size : Int) := of_decide_eq_true (by first | (with_reducible assumption) | assumption)
                have hx5 := bt_at a0 x8_1
                replace p5 := eq_true p5
                replace q5 := eq_true q5
                have p7 : 0 ≤ (x8_1 : Int) := of_decide_eq_true (by first | (with_reducible assumption) | assumption)
                have q7 : x8_1 < (a0.size : Int) := of_decide_eq_true (by first | (with_reducible assumption) | assumption)
                have hx7 := bt_at a0 x8_1
                replace p7 := eq_true p7
                replace q7 := eq_true q7
                go_wp2
                go_ret2
                exact ⟨by first | rfl | (simp; done) | (simp [*]; done), by repeat (first | exact Drawn0.refl _ | apply Drawn0.step)⟩
              · rw [if_neg c8] at H
                have c8b0 : decide (57 < (bt a0 x8_1)) = false := decide_eq_false c8
                clear c8
                by_cases c9 : x8_1 > 0
                · rw [if_pos c9] at H
                  have c9b0 : decide (0 < x8_1) = true := decide_eq_true c9
                  clear c9
                  by_cases c10 : x4_1 = 0
                  · rw [if_pos c10] at H
                    have c10b0 : (x4_1 == 0) = true := beq_iff_eq.mpr c10
                    have c10b1 : (x4_1 != 0) = false := bne_eq_false_iff_eq.mpr c10
                    clear c10
                    simp only [Option.some.injEq, Prod.mk.injEq] at H
                    obtain ⟨rfl, rfl⟩ := H
                    have p5 : 0 ≤ (x8_1 : Int) := of_decide_eq_true (by first | (with_reducible assumption) | assumption)
                    have q5 : x8_1 < (a0.size : Int) := of_decide_eq_true (by first | (with_reducible assumption) | assumption)
                    have hx5 := bt_at a0 x8_1
                    replace p5 := eq_true p5
                    replace q5 := eq_true q5
                    have p7 : 0 ≤ (x8_1 : Int) := of_decide_eq_true (by first | (with_reducible assumption) | assumption)
                    have q7 : x8_1 < (a0.size : Int) := of_decide_eq_true (by first | (with_reducible assumption) | assumption)
                    have hx7 := bt_at a0 x8_1
                    replace p7 := eq_true p7
                    replace q7 := eq_true q7
                    go_wp2
                    go_ret2
                    exact ⟨by first | rfl | (simp; done) | (simp [*]; done), by repeat (first | exact Drawn0.refl _ | apply Drawn0.step)⟩
                  · rw [if_neg c10] at H
                    have c10b0 : (x4_1 == 0) = false := beq_eq_false_iff_ne.mpr c10
                    have c10b1 : (x4_1 != 0) = true := bne_iff_ne.mpr c10
                    by_cases c12 : (wrap64 ((wrap64 (10 * x4_1)) + (((bt a0 x8_1) - 48) % 256))) > 32
                    · rw [if_pos c12] at H
                      have c12b0 : decide (32 < (wrap64 ((wrap64 (10 * x4_1)) + (((bt a0 x8_1) - 48) % 256)))) = true := decide_eq_true c12
                      clear c12
                      simp only [Option.some.injEq, Prod.mk.injEq] at H
                      obtain ⟨rfl, rfl⟩ := H
                      have p5 : 0 ≤ (x8_1 : Int) := of_decide_eq_true (by first | (with_reducible assumption) | assumption)
                      have q5 : x8_1 < (a0.size : Int) := of_decide_eq_true (by first | (with_reducible assumption) | assumption)
                      have hx5 := bt_at a0 x8_1
                      replace p5 := eq_true p5
                      replace q5 := eq_true q5
                      have p7 : 0 ≤ (x8_1 : Int) := of_decide_eq_true (by first | (with_reducible assumption) | assumption)
                      have q7 : x8_1 < (a0.size : Int) := of_decide_eq_true (by first | (with_reducible assumption) | assumption)
                      have hx7 := bt_at a0 x8_1
                      replace p7 := eq_true p7
                      replace q7 := eq_true q7
                      have p11 : 0 ≤ (x8_1 : Int) := of_decide_eq_true (by first | (with_reducible assumption) | assumption)
                      have q11 : x8_1 < (a0.size : Int) := of_decide_eq_true (by first | (with_reducible assumption) | assumption)
                      have hx11 := bt_at a0 x8_1
                      replace p11 := eq_true p11
                      replace q11 := eq_true q11
                      go_wp2
                      go_ret2
                      exact ⟨by first | rfl | (simp; done) | (simp [*]; done), by repeat (first | exact Drawn0.refl _ | apply Drawn0.step)⟩
                    · rw [if_neg c12] at H
                      have c12b0 : decide (32 < (wrap64 ((wrap64 (10 * x4_1)) + (((bt a0 x8_1) - 48) % 256)))) = false := decide_eq_false c12
                      clear c12
                      have H' := Aside0.mk H
                      clear H
                      have p5 : 0 ≤ (x8_1 : Int) := of_decide_eq_true (by first | (with_reducible assumption) | assumption)
                      have q5 : x8_1 < (a0.size : Int) := of_decide_eq_true (by first | (with_reducible assumption) | assumption)
                      have hx5 := bt_at a0 x8_1
                      replace p5 := eq_true p5
                      replace q5 := eq_true q5
                      have p7 : 0 ≤ (x8_1 : Int) := of_decide_eq_true (by first | (with_reducible assumption) | assumption)
                      have q7 : x8_1 < (a0.size : Int) := of_decide_eq_true (by first | (with_reducible assumption) | assumption)
                      have hx7 := bt_at a0 x8_1
                      replace p7 := eq_true p7
                      replace q7 := eq_true q7
                      have p11 : 0 ≤ (x8_1 : Int) := of_decide_eq_true (by first | (with_reducible assumption) | assumption)
                      have q11 : x8_1 < (a0.size : Int) := of_decide_eq_true (by first | (with_reducible assumption) | assumption)
                      have hx11 := bt_at a0 x8_1
                      replace p11 := eq_true p11
                      replace q11 := eq_true q11
                      have p13 : 0 ≤ (x8_1 : Int) := of_decide_eq_true (by first | (with_reducible assumption) | assumption)
                      have q13 : x8_1 < (a0.size : Int) := of_decide_eq_true (by first | (with_reducible assumption) | assumption)
                      have hx13 := bt_at a0 x8_1
                      replace p13 := eq_true p13
                      replace q13 := eq_true q13
                      go_wp2
                      go_roundg k1
                      case measure => have := HK1.out; omega
                      case rel => exact ⟨(wrap64 ((wrap64 (10 * x4_1)) + (((bt a0 x8_1) - 48) % 256))), (wrap64 (x8_1 + 1)), (by first | rfl | (simp; done) | (simp [*]; done)), (by first | rfl | (simp; done) | (simp [*]; done)), H', ⟨by have := HK1.out; omega⟩, by repeat (first | exact Drawn0.refl _ | apply Drawn0.step)⟩
                · rw [if_neg c9] at H
                  have c9b0 : decide (0 < x8_1) = false := decide_eq_false c9
                  clear c9
                  by_cases c15 : (wrap64 ((wrap64 (10 * x4_1)) + (((bt a0 x8_1) - 48) % 256))) > 32
                  · rw [if_pos c15] at H
                    have c15b0 : decide (32 < (wrap64 ((wrap64 (10 * x4_1)) + (((bt a0 x8_1) - 48) % 256)))) = true := decide_eq_true c15
                    clear c15
                    simp only [Option.some.injEq, Prod.mk.injEq] at H
                    obtain ⟨rfl, rfl⟩ := H
                    have p5 : 0 ≤ (x8_1 : Int) := of_decide_eq_true (by first | (with_reducible assumption) | assumption)
                    have q5 : x8_1 < (a0.size : Int) := of_decide_eq_true (by first | (with_reducible assumption) | assumption)
                    have hx5 := bt_at a0 x8_1
                    replace p5 := eq_true p5
                    replace q5 := eq_true q5
                    have p7 : 0 ≤ (x8_1 : Int) := of_decide_eq_true (by first | (with_reducible assumption) | assumption)
                    have q7 : x8_1 < (a0.size : Int) := of_decide_eq_true (by first | (with_reducible assumption) | assumption)
                    have hx7 := bt_at a0 x8_1
                    replace p7 := eq_true p7
                    replace q7 := eq_true q7
                    have p14 : 0 ≤ (x8_1 : Int) := of_decide_eq_true (by first | (with_reducible assumption) | assumption)
                    have q14 : x8_1 < (a0.size : Int) := of_decide_eq_true (by first | (with_reducible assumption) | assumption)
                    have hx14 := bt_at a0 x8_1
                    replace p14 := eq_true p14
                    replace q14 := eq_true q14
                    go_wp2
                    go_ret2
                    exact ⟨by first | rfl | (simp; done) | (simp [*]; done), by repeat (first | exact Drawn0.refl _ | apply Drawn0.step)⟩
                  · rw [if_neg c15] at H
                    have c15b0 : decide (32 < (wrap64 ((wrap64 (10 * x4_1)) + (((bt a0 x8_1) - 48) % 256)))) = false := decide_eq_false c15
                    clear c15
                    have H' := Aside0.mk H
                    clear H
                    have p5 : 0 ≤ (x8_1 : Int) := of_decide_eq_true (by first | (with_reducible assumption) | assumption)
                    have q5 : x8_1 < (a0.size : Int) := of_decide_eq_true (by first | (with_reducible assumption) | assumption)
                    have hx5 := bt_at a0 x8_1
                    replace p5 := eq_true p5
                    replace q5 := eq_true q5
                    have p7 : 0 ≤ (x8_1 : Int) := of_decide_eq_true (by first | (with_reducible assumption) | assumption)
                    have q7 : x8_1 < (a0.size : Int) := of_decide_eq_true (by first | (with_reducible assumption) | assumption)
                    have hx7 := bt_at a0 x8_1
                    replace p7 := eq_true p7
                    replace q7 := eq_true q7
                    have p14 : 0 ≤ (x8_1 : Int) := of_decide_eq_true (by first | (with_reducible assumption) | assumption)
                    have q14 : x8_1 < (a0.size : Int) := of_decide_eq_true (by first | (with_reducible assumption) | assumption)
                    have hx14 := bt_at a0 x8_1
                    replace p14 := eq_true p14
                    replace q14 := eq_true q14
                    have p16 : 0 ≤ (x8_1 : Int) := of_decide_eq_true (by first | (with_reducible assumption) | assumption)
                    have q16 : x8_1 < (a0.size : Int) := of_decide_eq_true (by first | (with_reducible assumption) | assumption)
                    have hx16 := bt_at a0 x8_1
                    replace p16 := eq_true p16
                    replace q16 := eq_true q16
                    go_wp2
                    go_roundg k1
                    case measure => have := HK1.out; omega
                    case rel => exact ⟨(wrap64 ((wrap64 (10 * x4_1)) + (((bt a0 x8_1) - 48) % 256))), (wrap64 (x8_1 + 1)), (by first | rfl | (simp; done) | (simp [*]; done)), (by first | rfl | (simp; done) | (simp [*]; done)), H', ⟨by have := HK1.out; omega⟩, by repeat (first | exact Drawn0.refl _ | apply Drawn0.step)⟩
          · rw [if_neg c4] at H
            exact absurd H (by simp)
        · rw [if_neg c3] at H
          exact absurd H (by simp)
      · rw [if_neg c2] at H
        have c2b0 : decide (x8_1 < (a0.size : Int)) = false := decide_eq_false c2
        clear c2
        by_cases c17 : a0.toList = ([] : List UInt8)
        · rw [if_pos c17] at H
          have c17b0 : (a0.toList == ([] : List UInt8)) = true := beq_iff_eq.mpr c17
          have c17b1 : (a0.toList != ([] : List UInt8)) = false := bne_eq_false_iff_eq.mpr c17
          clear c17
          simp only [Option.some.injEq, Prod.mk.injEq] at H
          obtain ⟨rfl, rfl⟩ := H
          go_wp2
          go_ret2
          exact ⟨by first | rfl | (simp; done) | (simp [*]; done), by repeat (first | exact Drawn0.refl _ | apply Drawn0.step)⟩
        · rw [if_neg c17] at H
          have c17b0 : (a0.toList == ([] : List UInt8)) = false := beq_eq_false_iff_ne.mpr c17
          have c17b1 : (a0.toList != ([] : List UInt8)) = true := bne_iff_ne.mpr c17
          simp only [Option.some.injEq, Prod.mk.injEq] at H
          obtain ⟨rfl, rfl⟩ := H
          go_wp2
          go_ret2
          exact ⟨by first | rfl | (simp; done) | (simp [*]; done), by repeat (first | exact Drawn0.refl _ | apply Drawn0.step)⟩
def four_ParsePrefix.f (k : Nat) (a0 : ByteArray) : Option (Int × Int × Int × Int) := (strings_Cut.f a0 (⟨#[47]⟩ : ByteArray)).bind fun bt255 => ((four_Strict.f k bt255.1).bind fun bt258 => (if bt258.2.2 = 0 then (if bt255.2.2 = true then ((four_bitsOf.f k bt255.2.1).bind fun bt261 => (if bt261.2 ≥ 0 then (some (0, 0, wrap64 ((wrap64 ((bt255.1.size : Int) + 1)) + bt261.2), 204)) else ((four_is.f bt258.1 bt261.1).bind fun t264 => (if t264 = true then (some (bt258.1, bt261.1, 0, 0)) else (some (0, 0, 0, 204)))))) else (some (0, 0, (a0.size : Int), 204))) else (some (0, 0, bt258.2.1, 204))))
set_option maxHeartbeats 8000000 in
set_option maxRecDepth 100000 in
theorem four_ParsePrefix.calls (k : Nat) (a0 : ByteArray) (r1 : Int) (r2 : Int) (r3 : Int) (r4 : Int) (w : World) (hG : GW w) (h : four_ParsePrefix.f k a0 = some (r1, r2, r3, r4)) :
    Calls Tryd.prog 30 #[.string a0] w fun e w' => e = .returned (.tuple #[.agg #[.int .u32 r1, .int .i64 r2], .int .i64 r3, .int .i64 r4]) ∧ Below w.heap.size w w' := by
  have hu50 := Tryd.underlying50
  have HG := Aside0.mk hG
  clear hG
  have HB := Aside0.mk (Below.refl w.heap.size w)
  have H : ((strings_Cut.f a0 (⟨#[47]⟩ : ByteArray)).bind fun bt255 => ((four_Strict.f k bt255.1).bind fun bt258 => (if bt258.2.2 = 0 then (if bt255.2.2 = true then ((four_bitsOf.f k bt255.2.1).bind fun bt261 => (if bt261.2 ≥ 0 then (some (0, 0, wrap64 ((wrap64 ((bt255.1.size : Int) + 1)) + bt261.2), 204)) else ((four_is.f bt258.1 bt261.1).bind fun t264 => (if t264 = true then (some (bt258.1, bt261.1, 0, 0)) else (some (0, 0, 0, 204)))))) else (some (0, 0, (a0.size : Int), 204))) else (some (0, 0, bt258.2.1, 204))))) = some (r1, r2, r3, r4) := h
  clear h
  replace H := Option.bind_eq_some_iff.mp H
  obtain ⟨⟨t255, t256, t257⟩, A20, H⟩ := H
  replace H : ((four_Strict.f k t255).bind fun bt258 => (if bt258.2.2 = 0 then (if t257 = true then ((four_bitsOf.f k t256).bind fun bt261 => (if bt261.2 ≥ 0 then (some (0, 0, wrap64 ((wrap64 ((t255.size : Int) + 1)) + bt261.2), 204)) else ((four_is.f bt258.1 bt261.1).bind fun t264 => (if t264 = true then (some (bt258.1, bt261.1, 0, 0)) else (some (0, 0, 0, 204)))))) else (some (0, 0, (a0.size : Int), 204))) else (some (0, 0, bt258.2.1, 204)))) = some (r1, r2, r3, r4) := H
  have A2 := Aside0.mk A20
  clear A20
  replace H := Option.bind_eq_some_iff.mp H
  obtain ⟨⟨t258, t259, t260⟩, A30, H⟩ := H
  replace H : (if t260 = 0 then (if t257 = true then ((four_bitsOf.f k t256).bind fun bt261 => (if bt261.2 ≥ 0 then (some (0, 0, wrap64 ((wrap64 ((t255.size : Int) + 1)) + bt261.2), 204)) else ((four_is.f t258 bt261.1).bind fun t264 => (if t264 = true then (some (t258, bt261.1, 0, 0)) else (some (0, 0, 0, 204)))))) else (some (0, 0, (a0.size : Int), 204))) else (some (0, 0, t259, 204))) = some (r1, r2, r3, r4) := H
  have A3 := Aside0.mk A30
  clear A30
  by_cases c4 : t260 = 0
  · rw [if_pos c4] at H
    have c4b0 : (t260 == 0) = true := beq_iff_eq.mpr c4
    have c4b1 : (t260 != 0) = false := bne_eq_false_iff_eq.mpr c4
    clear c4
    by_cases c5 : t257 = true
    · subst c5
      have H1 : ((four_bitsOf.f k t256).bind fun bt261 => (if bt261.2 ≥ 0 then (some (0, 0, wrap64 ((wrap64 ((t255.size : Int) + 1)) + bt261.2), 204)) else ((four_is.f t258 bt261.1).bind fun t264 => (if t264 = true then (some (t258, bt261.1, 0, 0)) else (some (0, 0, 0, 204)))))) = some (r1, r2, r3, r4) := by rw [if_pos rfl] at H; exact H
      clear H
      have H := H1
      clear H1
      replace H := Option.bind_eq_some_iff.mp H
      obtain ⟨⟨t261, t262⟩, A60, H⟩ := H
      replace H : (if t262 ≥ 0 then (some (0, 0, wrap64 ((wrap64 ((t255.size : Int) + 1)) + t262), 204)) else ((four_is.f t258 t261).bind fun t264 => (if t264 = true then (some (t258, t261, 0, 0)) else (some (0, 0, 0, 204))))) = some (r1, r2, r3, r4) := H
      have A6 := Aside0.mk A60
      clear A60
      by_cases c7 : t262 ≥ 0
      · rw [if_pos c7] at H
        have c7b0 : decide (0 ≤ t262) = true := decide_eq_true c7
        clear c7
        simp only [Option.some.injEq, Prod.mk.injEq] at H
        obtain ⟨rfl, rfl, rfl, rfl⟩ := H
        go_enter Tryd.func30, Tryd.ntmps30
        go_wp2_with (first | ((with_reducible refine gate_dst (N := 2) rfl ?_); refine box_event ?hg (N := 2) ?hd (cs := #[.int .u32 0, .int .i64 0]) (t := 50) ?hr ?_; (case hd => rfl); (case hg => rfl); (case hr => first | (go_simp; done) | (go_simp; rfl)); intro gb254 hg w8 hbox hb; have n0_ := Aside0.mk (below_step (by repeat (first | (with_reducible first | exact HB.out | apply below_alloc | apply pw_below_drewN | apply below_drew1) | exact HB.out)) hb); have n1_ := Aside0.mk (hbox); have n2_ := Aside0.mk ((by rw [hg]; exact (below_size (by repeat (first | (with_reducible first | exact HB.out | apply below_alloc | apply pw_below_drewN | apply below_drew1) | exact HB.out))) : w.heap.size ≤ gb254)); have n3_ := Aside0.mk ((by rw [hg]; exact (below_size (by repeat (first | (with_reducible first | exact HB.out | apply below_alloc | apply pw_below_drewN | apply below_drew1) | exact HB.out))) : w.heap.size ≤ gb254)); clear HB; have HB := n0_; have BK254 := n1_; have GW254 := n2_; have GE254 := n3_; clear n0_ n1_ n2_ n3_; clear hb hbox hg) | ((with_reducible refine gate_callee (f := 50) rfl ?_); refine goesL_ (some 15) rfl rfl Tryd.func50 (by kernel_rfl) rfl #[.string a0, .string (⟨#[47]⟩ : ByteArray)] rfl (by (try simp only [List.map_toArray, List.map_cons, List.map_nil]); first | done | rfl | (simp only [List.length_drop, List.length_take]; rfl)) ?_; (with_reducible refine (strings_Cut.calls a0 (⟨#[47]⟩ : ByteArray) t255 t256 true _ (GW.keep HG.out (by repeat (first | (with_reducible first | exact HB.out | apply below_alloc | apply pw_below_drewN | apply below_drew1) | exact HB.out | exact Below.refl _ _))) A2.out).mono ?_); rintro e w' ⟨rfl, ⟨nd, rfl⟩⟩; refine ⟨_, rfl, ?_⟩; (try (rw [drewN_self w8]; generalize hq_ : World.drewN w8 _ = w8; have n0_ : Aside0 (w8.heap[gb254]? = some (.cells #[.int .u32 0, .int .i64 0] 50 (0, 0))) := ⟨by rw [← hq_]; exact (by (with_reducible repeat (first | refine blk_drewN ?_ _ | refine blk_drew ?_ | refine blk_alloc ?_ _)); exact BK254.out)⟩; have n1_ : Aside0 (Below w.heap.size w w8) := ⟨by rw [← hq_]; exact (by repeat (first | (with_reducible first | exact HB.out | apply below_alloc | apply pw_below_drewN | apply below_drew1 | refine below_set ?_ GE254.out) | exact HB.out))⟩; clear BK254 HB hq_; have BK254 := n0_; have HB := n1_; clear n0_ n1_))) | ((with_reducible refine gate_callee (f := 21) rfl ?_); refine goesL_ (some 21) rfl rfl Tryd.func21 (by kernel_rfl) rfl #[.string t255] rfl (by (try simp only [List.map_toArray, List.map_cons, List.map_nil]); first | done | rfl | (simp only [List.length_drop, List.length_take]; rfl)) ?_; (with_reducible refine (four_Strict.calls k t255 t258 t259 t260 _ A3.out).mono ?_); rintro e w' ⟨rfl, ⟨nd, rfl⟩⟩; refine ⟨_, rfl, ?_⟩; (try (rw [drewN_self w8]; generalize hq_ : World.drewN w8 _ = w8; have n0_ : Aside0 (w8.heap[gb254]? = some (.cells #[.int .u32 0, .int .i64 0] 50 (0, 0))) := ⟨by rw [← hq_]; exact (by (with_reducible repeat (first | refine blk_drewN ?_ _ | refine blk_drew ?_ | refine blk_alloc ?_ _)); exact BK254.out)⟩; have n1_ : Aside0 (Below w.heap.size w w8) := ⟨by rw [← hq_]; exact (by repeat (first | (with_reducible first | exact HB.out | apply below_alloc | apply pw_below_drewN | apply below_drew1 | refine below_set ?_ GE254.out) | exact HB.out))⟩; clear BK254 HB hq_; have BK254 := n0_; have HB := n1_; clear n0_ n1_))) | ((with_reducible refine gate_callee (f := 51) rfl ?_); refine goesL_ (some 38) rfl rfl Tryd.func51 (by kernel_rfl) rfl #[.string t256] rfl (by (try simp only [List.map_toArray, List.map_cons, List.map_nil]); first | done | rfl | (simp only [List.length_drop, List.length_take]; rfl)) ?_; (with_reducible refine (four_bitsOf.calls k t256 t261 t262 _ A6.out).mono ?_); rintro e w' ⟨rfl, ⟨nd, rfl⟩⟩; refine ⟨_, rfl, ?_⟩; (try (rw [drewN_self w8]; generalize hq_ : World.drewN w8 _ = w8; have n0_ : Aside0 (w8.heap[gb254]? = some (.cells #[.int .u32 0, .int .i64 0] 50 (0, 0))) := ⟨by rw [← hq_]; exact (by (with_reducible repeat (first | refine blk_drewN ?_ _ | refine blk_drew ?_ | refine blk_alloc ?_ _)); exact BK254.out)⟩; have n1_ : Aside0 (Below w.heap.size w w8) := ⟨by rw [← hq_]; exact (by repeat (first | (with_reducible first | exact HB.out | apply below_alloc | apply pw_below_drewN | apply below_drew1 | refine below_set ?_ GE254.out) | exact HB.out))⟩; clear BK254 HB hq_; have BK254 := n0_; have HB := n1_; clear n0_ n1_)); have hcz9_0 : w8.cell? ⟨gb254, 0, none⟩ = some (.int .u32 0) := (blk_cell BK254.out 0).trans rfl; have hcz9_1 : w8.cell? ⟨gb254, 1, none⟩ = some (.int .i64 0) := (blk_cell BK254.out 1).trans rfl; have hfz9_0 := blk_frozen BK254.out 0; have hfz9_1 := blk_frozen BK254.out 1))
        refine bodyPost_ret (results_ctt rfl _ _ gb254 50 #[.int .u32 0, .int .i64 0] (0, 0) _ rfl (by (with_reducible repeat (first | refine blk_drewN ?_ _ | refine blk_drew ?_ | refine blk_alloc ?_ _)); refine blk_put (cs := #[.int .u32 0, .int .i64 0]) ?_ 1 _ rfl; (with_reducible repeat (first | refine blk_drewN ?_ _ | refine blk_drew ?_ | refine blk_alloc ?_ _)); refine blk_put (cs := #[.int .u32 0, .int .i64 0]) ?_ 0 _ rfl; (with_reducible repeat (first | refine blk_drewN ?_ _ | refine blk_drew ?_ | refine blk_alloc ?_ _)); exact BK254.out) Tryd.underlying50 rfl (by kernel_rfl)) rfl ?_
        exact ⟨by first | rfl | (simp [errW_none, errW_some] <;> rfl) | (simp [*, errW_none, errW_some] <;> rfl), by repeat (first | (with_reducible first | exact HB.out | apply below_alloc | apply pw_below_drewN | apply below_drew1 | refine below_set ?_ GE254.out) | exact HB.out)⟩
      · rw [if_neg c7] at H
        have c7b0 : decide (0 ≤ t262) = false := decide_eq_false c7
        clear c7
        replace H := Option.bind_eq_some_iff.mp H
        obtain ⟨t264, A100, H⟩ := H
        replace H : (if t264 = true then (some (t258, t261, 0, 0)) else (some (0, 0, 0, 204))) = some (r1, r2, r3, r4) := H
        have A10 := Aside0.mk A100
        clear A100
        by_cases c11 : t264 = true
        · subst c11
          have H1 : (some (t258, t261, 0, 0)) = some (r1, r2, r3, r4) := by rw [if_pos rfl] at H; exact H
          clear H
          have H := H1
          clear H1
          simp only [Option.some.injEq, Prod.mk.injEq] at H
          obtain ⟨rfl, rfl, rfl, rfl⟩ := H
          go_enter Tryd.func30, Tryd.ntmps30
          go_wp2_with (first | ((with_reducible refine gate_dst (N := 2) rfl ?_); refine box_event ?hg (N := 2) ?hd (cs := #[.int .u32 0, .int .i64 0]) (t := 50) ?hr ?_; (case hd => rfl); (case hg => rfl); (case hr => first | (go_simp; done) | (go_simp; rfl)); intro gb254 hg w12 hbox hb; have n0_ := Aside0.mk (below_step (by repeat (first | (with_reducible first | exact HB.out | apply below_alloc | apply pw_below_drewN | apply below_drew1) | exact HB.out)) hb); have n1_ := Aside0.mk (hbox); have n2_ := Aside0.mk ((by rw [hg]; exact (below_size (by repeat (first | (with_reducible first | exact HB.out | apply below_alloc | apply pw_below_drewN | apply below_drew1) | exact HB.out))) : w.heap.size ≤ gb254)); have n3_ := Aside0.mk ((by rw [hg]; exact (below_size (by repeat (first | (with_reducible first | exact HB.out | apply below_alloc | apply pw_below_drewN | apply below_drew1) | exact HB.out))) : w.heap.size ≤ gb254)); clear HB; have HB := n0_; have BK254 := n1_; have GW254 := n2_; have GE254 := n3_; clear n0_ n1_ n2_ n3_; clear hb hbox hg) | ((with_reducible refine gate_callee (f := 50) rfl ?_); refine goesL_ (some 15) rfl rfl Tryd.func50 (by kernel_rfl) rfl #[.string a0, .string (⟨#[47]⟩ : ByteArray)] rfl (by (try simp only [List.map_toArray, List.map_cons, List.map_nil]); first | done | rfl | (simp only [List.length_drop, List.length_take]; rfl)) ?_; (with_reducible refine (strings_Cut.calls a0 (⟨#[47]⟩ : ByteArray) t255 t256 true _ (GW.keep HG.out (by repeat (first | (with_reducible first | exact HB.out | apply below_alloc | apply pw_below_drewN | apply below_drew1) | exact HB.out | exact Below.refl _ _))) A2.out).mono ?_); rintro e w' ⟨rfl, ⟨nd, rfl⟩⟩; refine ⟨_, rfl, ?_⟩; (try (rw [drewN_self w12]; generalize hq_ : World.drewN w12 _ = w12; have n0_ : Aside0 (w12.heap[gb254]? = some (.cells #[.int .u32 0, .int .i64 0] 50 (0, 0))) := ⟨by rw [← hq_]; exact (by (with_reducible repeat (first | refine blk_drewN ?_ _ | refine blk_drew ?_ | refine blk_alloc ?_ _)); exact BK254.out)⟩; have n1_ : Aside0 (Below w.heap.size w w12) := ⟨by rw [← hq_]; exact (by repeat (first | (with_reducible first | exact HB.out | apply below_alloc | apply pw_below_drewN | apply below_drew1 | refine below_set ?_ GE254.out) | exact HB.out))⟩; clear BK254 HB hq_; have BK254 := n0_; have HB := n1_; clear n0_ n1_))) | ((with_reducible refine gate_callee (f := 21) rfl ?_); refine goesL_ (some 21) rfl rfl Tryd.func21 (by kernel_rfl) rfl #[.string t255] rfl (by (try simp only [List.map_toArray, List.map_cons, List.map_nil]); first | done | rfl | (simp only [List.length_drop, List.length_take]; rfl)) ?_; (with_reducible refine (four_Strict.calls k t255 t258 t259 t260 _ A3.out).mono ?_); rintro e w' ⟨rfl, ⟨nd, rfl⟩⟩; refine ⟨_, rfl, ?_⟩; (try (rw [drewN_self w12]; generalize hq_ : World.drewN w12 _ = w12; have n0_ : Aside0 (w12.heap[gb254]? = some (.cells #[.int .u32 0, .int .i64 0] 50 (0, 0))) := ⟨by rw [← hq_]; exact (by (with_reducible repeat (first | refine blk_drewN ?_ _ | refine blk_drew ?_ | refine blk_alloc ?_ _)); exact BK254.out)⟩; have n1_ : Aside0 (Below w.heap.size w w12) := ⟨by rw [← hq_]; exact (by repeat (first | (with_reducible first | exact HB.out | apply below_alloc | apply pw_below_drewN | apply below_drew1 | refine below_set ?_ GE254.out) | exact HB.out))⟩; clear BK254 HB hq_; have BK254 := n0_; have HB := n1_; clear n0_ n1_))) | ((with_reducible refine gate_callee (f := 51) rfl ?_); refine goesL_ (some 38) rfl rfl Tryd.func51 (by kernel_rfl) rfl #[.string t256] rfl (by (try simp only [List.map_toArray, List.map_cons, List.map_nil]); first | done | rfl | (simp only [List.length_drop, List.length_take]; rfl)) ?_; (with_reducible refine (four_bitsOf.calls k t256 t261 t262 _ A6.out).mono ?_); rintro e w' ⟨rfl, ⟨nd, rfl⟩⟩; refine ⟨_, rfl, ?_⟩; (try (rw [drewN_self w12]; generalize hq_ : World.drewN w12 _ = w12; have n0_ : Aside0 (w12.heap[gb254]? = some (.cells #[.int .u32 0, .int .i64 0] 50 (0, 0))) := ⟨by rw [← hq_]; exact (by (with_reducible repeat (first | refine blk_drewN ?_ _ | refine blk_drew ?_ | refine blk_alloc ?_ _)); exact BK254.out)⟩; have n1_ : Aside0 (Below w.heap.size w w12) := ⟨by rw [← hq_]; exact (by repeat (first | (with_reducible first | exact HB.out | apply below_alloc | apply pw_below_drewN | apply below_drew1 | refine below_set ?_ GE254.out) | exact HB.out))⟩; clear BK254 HB hq_; have BK254 := n0_; have HB := n1_; clear n0_ n1_))) | ((with_reducible refine gate_dst (N := 12) rfl ?_); refine box_event ?hg (N := 12) ?hd (cs := #[.int .u32 0, .int .i64 0]) (t := 50) ?hr ?_; (case hd => rfl); (case hg => rfl); (case hr => first | (go_simp; done) | (go_simp; rfl)); intro gb263 hg w13 hbox hb; have n0_ := Aside0.mk (blk_below (g := gb254) (o := .cells #[.int .u32 0, .int .i64 0] 50 (0, 0)) (by (with_reducible repeat (first | refine blk_drewN ?_ _ | refine blk_drew ?_ | refine blk_alloc ?_ _)); exact BK254.out) hb); have n1_ := Aside0.mk (below_step (by repeat (first | (with_reducible first | exact HB.out | apply below_alloc | apply pw_below_drewN | apply below_drew1 | refine below_set ?_ GE254.out) | exact HB.out)) hb); have n2_ := Aside0.mk (hbox); have n3_ := Aside0.mk ((by rw [hg]; exact (below_size (by repeat (first | (with_reducible first | exact HB.out | apply below_alloc | apply pw_below_drewN | apply below_drew1 | refine below_set ?_ GE254.out) | exact HB.out))) : w.heap.size ≤ gb263)); have n4_ := Aside0.mk ((by rw [hg]; exact (below_size (by repeat (first | (with_reducible first | exact HB.out | apply below_alloc | apply pw_below_drewN | apply below_drew1 | refine below_set ?_ GE254.out) | exact HB.out))) : w.heap.size ≤ gb263)); have n5_ := Aside0.mk ((by rw [hg]; exact Nat.ne_of_lt (blk_lt (g := gb254) (o := .cells #[.int .u32 0, .int .i64 0] 50 (0, 0)) (by (with_reducible repeat (first | refine blk_drewN ?_ _ | refine blk_drew ?_ | refine blk_alloc ?_ _)); exact BK254.out)) : gb254 ≠ gb263)); have n6_ := Aside0.mk ((by rw [hg]; exact Nat.ne_of_gt (blk_lt (g := gb254) (o := .cells #[.int .u32 0, .int .i64 0] 50 (0, 0)) (by (with_reducible repeat (first | refine blk_drewN ?_ _ | refine blk_drew ?_ | refine blk_alloc ?_ _)); exact BK254.out)) : gb263 ≠ gb254)); clear BK254; clear HB; have BK254 := n0_; have HB := n1_; have BK263 := n2_; have GW263 := n3_; have GE263 := n4_; have NB254_263 := n5_; have NB263_254 := n6_; clear n0_ n1_ n2_ n3_ n4_ n5_ n6_; clear hb hbox hg; have hnb14 := NB263_254.out; have hnc14 := NB254_263.out; have hcz15_0 : w13.cell? ⟨gb263, 0, none⟩ = some (.int .u32 0) := (blk_cell BK263.out 0).trans rfl; have hcz15_1 : w13.cell? ⟨gb263, 1, none⟩ = some (.int .i64 0) := (blk_cell BK263.out 1).trans rfl; have hfz15_0 := blk_frozen BK263.out 0; have hfz15_1 := blk_frozen BK263.out 1) | ((with_reducible refine gate_callee (f := 52) rfl ?_); refine goesL_ (some 53) rfl rfl Tryd.func52 (by kernel_rfl) rfl #[.agg #[.int .u32 t258, .int .i64 t261]] rfl (by (try simp only [List.map_toArray, List.map_cons, List.map_nil]); first | done | rfl | (simp only [List.length_drop, List.length_take]; rfl)) ?_; (with_reducible refine (four_is.calls t258 t261 true _ A10.out).mono ?_); rintro e w16 ⟨rfl, hb⟩; refine ⟨_, rfl, ?_⟩; have n0_ := Aside0.mk (blk_below (g := gb254) (o := .cells #[.int .u32 0, .int .i64 0] 50 (0, 0)) (by (with_reducible repeat (first | refine blk_drewN ?_ _ | refine blk_drew ?_ | refine blk_alloc ?_ _)); refine blk_far ?_ NB254_263.out _; (with_reducible repeat (first | refine blk_drewN ?_ _ | refine blk_drew ?_ | refine blk_alloc ?_ _)); refine blk_far ?_ NB254_263.out _; (with_reducible repeat (first | refine blk_drewN ?_ _ | refine blk_drew ?_ | refine blk_alloc ?_ _)); exact BK254.out) hb); have n1_ := Aside0.mk (blk_below (g := gb263) (o := .cells #[.int .u32 t258, .int .i64 t261] 50 (0, 0)) (by (with_reducible repeat (first | refine blk_drewN ?_ _ | refine blk_drew ?_ | refine blk_alloc ?_ _)); refine blk_put (cs := #[.int .u32 t258, .int .i64 0]) ?_ 1 _ rfl; (with_reducible repeat (first | refine blk_drewN ?_ _ | refine blk_drew ?_ | refine blk_alloc ?_ _)); refine blk_put (cs := #[.int .u32 0, .int .i64 0]) ?_ 0 _ rfl; (with_reducible repeat (first | refine blk_drewN ?_ _ | refine blk_drew ?_ | refine blk_alloc ?_ _)); exact BK263.out) hb); have n2_ := Aside0.mk (below_step (by repeat (first | (with_reducible first | exact HB.out | apply below_alloc | apply pw_below_drewN | apply below_drew1 | refine below_set ?_ GE254.out | refine below_set ?_ GE263.out) | exact HB.out)) hb); clear BK254; clear BK263; clear HB; have BK254 := n0_; have BK263 := n1_; have HB := n2_; clear n0_ n1_ n2_; (try clear hb); (try clear hb2); (try clear hk); (try clear hi); have hcz17_0 : w16.cell? ⟨gb263, 0, none⟩ = some (.int .u32 t258) := (blk_cell BK263.out 0).trans rfl; have hcz17_1 : w16.cell? ⟨gb263, 1, none⟩ = some (.int .i64 t261) := (blk_cell BK263.out 1).trans rfl; have hfz17_0 := blk_frozen BK263.out 0; have hfz17_1 := blk_frozen BK263.out 1; have hcz18_0 : w16.cell? ⟨gb254, 0, none⟩ = some (.int .u32 0) := (blk_cell BK254.out 0).trans rfl; have hcz18_1 : w16.cell? ⟨gb254, 1, none⟩ = some (.int .i64 0) := (blk_cell BK254.out 1).trans rfl; have hfz18_0 := blk_frozen BK254.out 0; have hfz18_1 := blk_frozen BK254.out 1))
          refine bodyPost_ret (results_ctt rfl _ _ gb254 50 #[.int .u32 t258, .int .i64 t261] (0, 0) _ rfl (by (with_reducible repeat (first | refine blk_drewN ?_ _ | refine blk_drew ?_ | refine blk_alloc ?_ _)); refine blk_put (cs := #[.int .u32 t258, .int .i64 0]) ?_ 1 _ rfl; (with_reducible repeat (first | refine blk_drewN ?_ _ | refine blk_drew ?_ | refine blk_alloc ?_ _)); refine blk_put (cs := #[.int .u32 0, .int .i64 0]) ?_ 0 _ rfl; (with_reducible repeat (first | refine blk_drewN ?_ _ | refine blk_drew ?_ | refine blk_alloc ?_ _)); exact BK254.out) Tryd.underlying50 rfl (by kernel_rfl)) rfl ?_
          exact ⟨by first | rfl | (simp [errW_none, errW_some] <;> rfl) | (simp [*, errW_none, errW_some] <;> rfl), by repeat (first | (with_reducible first | exact HB.out | apply below_alloc | apply pw_below_drewN | apply below_drew1 | refine below_set ?_ GE254.out | refine below_set ?_ GE263.out) | exact HB.out)⟩
        · replace c11 := Bool.eq_false_iff.mpr c11
          subst c11
          have H1 : (some (0, 0, 0, 204)) = some (r1, r2, r3, r4) := by rw [if_neg (show ¬ (false = true) by decide)] at H; exact H
          clear H
          have H := H1
          clear H1
          simp only [Option.some.injEq, Prod.mk.injEq] at H
          obtain ⟨rfl, rfl, rfl, rfl⟩ := H
          go_enter Tryd.func30, Tryd.ntmps30
          go_wp2_with (first | ((with_reducible refine gate_dst (N := 2) rfl ?_); refine box_event ?hg (N := 2) ?hd (cs := #[.int .u32 0, .int .i64 0]) (t := 50) ?hr ?_; (case hd => rfl); (case hg => rfl); (case hr => first | (go_simp; done) | (go_simp; rfl)); intro gb254 hg w19 hbox hb; have n0_ := Aside0.mk (below_step (by repeat (first | (with_reducible first | exact HB.out | apply below_alloc | apply pw_below_drewN | apply below_drew1) | exact HB.out)) hb); have n1_ := Aside0.mk (hbox); have n2_ := Aside0.mk ((by rw [hg]; exact (below_size (by repeat (first | (with_reducible first | exact HB.out | apply below_alloc | apply pw_below_drewN | apply below_drew1) | exact HB.out))) : w.heap.size ≤ gb254)); have n3_ := Aside0.mk ((by rw [hg]; exact (below_size (by repeat (first | (with_reducible first | exact HB.out | apply below_alloc | apply pw_below_drewN | apply below_drew1) | exact HB.out))) : w.heap.size ≤ gb254)); clear HB; have HB := n0_; have BK254 := n1_; have GW254 := n2_; have GE254 := n3_; clear n0_ n1_ n2_ n3_; clear hb hbox hg) | ((with_reducible refine gate_callee (f := 50) rfl ?_); refine goesL_ (some 15) rfl rfl Tryd.func50 (by kernel_rfl) rfl #[.string a0, .string (⟨#[47]⟩ : ByteArray)] rfl (by (try simp only [List.map_toArray, List.map_cons, List.map_nil]); first | done | rfl | (simp only [List.length_drop, List.length_take]; rfl)) ?_; (with_reducible refine (strings_Cut.calls a0 (⟨#[47]⟩ : ByteArray) t255 t256 true _ (GW.keep HG.out (by repeat (first | (with_reducible first | exact HB.out | apply below_alloc | apply pw_below_drewN | apply below_drew1) | exact HB.out | exact Below.refl _ _))) A2.out).mono ?_); rintro e w' ⟨rfl, ⟨nd, rfl⟩⟩; refine ⟨_, rfl, ?_⟩; (try (rw [drewN_self w19]; generalize hq_ : World.drewN w19 _ = w19; have n0_ : Aside0 (w19.heap[gb254]? = some (.cells #[.int .u32 0, .int .i64 0] 50 (0, 0))) := ⟨by rw [← hq_]; exact (by (with_reducible repeat (first | refine blk_drewN ?_ _ | refine blk_drew ?_ | refine blk_alloc ?_ _)); exact BK254.out)⟩; have n1_ : Aside0 (Below w.heap.size w w19) := ⟨by rw [← hq_]; exact (by repeat (first | (with_reducible first | exact HB.out | apply below_alloc | apply pw_below_drewN | apply below_drew1 | refine below_set ?_ GE254.out) | exact HB.out))⟩; clear BK254 HB hq_; have BK254 := n0_; have HB := n1_; clear n0_ n1_))) | ((with_reducible refine gate_callee (f := 21) rfl ?_); refine goesL_ (some 21) rfl rfl Tryd.func21 (by kernel_rfl) rfl #[.string t255] rfl (by (try simp only [List.map_toArray, List.map_cons, List.map_nil]); first | done | rfl | (simp only [List.length_drop, List.length_take]; rfl)) ?_; (with_reducible refine (four_Strict.calls k t255 t258 t259 t260 _ A3.out).mono ?_); rintro e w' ⟨rfl, ⟨nd, rfl⟩⟩; refine ⟨_, rfl, ?_⟩; (try (rw [drewN_self w19]; generalize hq_ : World.drewN w19 _ = w19; have n0_ : Aside0 (w19.heap[gb254]? = some (.cells #[.int .u32 0, .int .i64 0] 50 (0, 0))) := ⟨by rw [← hq_]; exact (by (with_reducible repeat (first | refine blk_drewN ?_ _ | refine blk_drew ?_ | refine blk_alloc ?_ _)); exact BK254.out)⟩; have n1_ : Aside0 (Below w.heap.size w w19) := ⟨by rw [← hq_]; exact (by repeat (first | (with_reducible first | exact HB.out | apply below_alloc | apply pw_below_drewN | apply below_drew1 | refine below_set ?_ GE254.out) | exact HB.out))⟩; clear BK254 HB hq_; have BK254 := n0_; have HB := n1_; clear n0_ n1_))) | ((with_reducible refine gate_callee (f := 51) rfl ?_); refine goesL_ (some 38) rfl rfl Tryd.func51 (by kernel_rfl) rfl #[.string t256] rfl (by (try simp only [List.map_toArray, List.map_cons, List.map_nil]); first | done | rfl | (simp only [List.length_drop, List.length_take]; rfl)) ?_; (with_reducible refine (four_bitsOf.calls k t256 t261 t262 _ A6.out).mono ?_); rintro e w' ⟨rfl, ⟨nd, rfl⟩⟩; refine ⟨_, rfl, ?_⟩; (try (rw [drewN_self w19]; generalize hq_ : World.drewN w19 _ = w19; have n0_ : Aside0 (w19.heap[gb254]? = some (.cells #[.int .u32 0, .int .i64 0] 50 (0, 0))) := ⟨by rw [← hq_]; exact (by (with_reducible repeat (first | refine blk_drewN ?_ _ | refine blk_drew ?_ | refine blk_alloc ?_ _)); exact BK254.out)⟩; have n1_ : Aside0 (Below w.heap.size w w19) := ⟨by rw [← hq_]; exact (by repeat (first | (with_reducible first | exact HB.out | apply below_alloc | apply pw_below_drewN | apply below_drew1 | refine below_set ?_ GE254.out) | exact HB.out))⟩; clear BK254 HB hq_; have BK254 := n0_; have HB := n1_; clear n0_ n1_))) | ((with_reducible refine gate_dst (N := 12) rfl ?_); refine box_event ?hg (N := 12) ?hd (cs := #[.int .u32 0, .int .i64 0]) (t := 50) ?hr ?_; (case hd => rfl); (case hg => rfl); (case hr => first | (go_simp; done) | (go_simp; rfl)); intro gb263 hg w20 hbox hb; have n0_ := Aside0.mk (blk_below (g := gb254) (o := .cells #[.int .u32 0, .int .i64 0] 50 (0, 0)) (by (with_reducible repeat (first | refine blk_drewN ?_ _ | refine blk_drew ?_ | refine blk_alloc ?_ _)); exact BK254.out) hb); have n1_ := Aside0.mk (below_step (by repeat (first | (with_reducible first | exact HB.out | apply below_alloc | apply pw_below_drewN | apply below_drew1 | refine below_set ?_ GE254.out) | exact HB.out)) hb); have n2_ := Aside0.mk (hbox); have n3_ := Aside0.mk ((by rw [hg]; exact (below_size (by repeat (first | (with_reducible first | exact HB.out | apply below_alloc | apply pw_below_drewN | apply below_drew1 | refine below_set ?_ GE254.out) | exact HB.out))) : w.heap.size ≤ gb263)); have n4_ := Aside0.mk ((by rw [hg]; exact (below_size (by repeat (first | (with_reducible first | exact HB.out | apply below_alloc | apply pw_below_drewN | apply below_drew1 | refine below_set ?_ GE254.out) | exact HB.out))) : w.heap.size ≤ gb263)); have n5_ := Aside0.mk ((by rw [hg]; exact Nat.ne_of_lt (blk_lt (g := gb254) (o := .cells #[.int .u32 0, .int .i64 0] 50 (0, 0)) (by (with_reducible repeat (first | refine blk_drewN ?_ _ | refine blk_drew ?_ | refine blk_alloc ?_ _)); exact BK254.out)) : gb254 ≠ gb263)); have n6_ := Aside0.mk ((by rw [hg]; exact Nat.ne_of_gt (blk_lt (g := gb254) (o := .cells #[.int .u32 0, .int .i64 0] 50 (0, 0)) (by (with_reducible repeat (first | refine blk_drewN ?_ _ | refine blk_drew ?_ | refine blk_alloc ?_ _)); exact BK254.out)) : gb263 ≠ gb254)); clear BK254; clear HB; have BK254 := n0_; have HB := n1_; have BK263 := n2_; have GW263 := n3_; have GE263 := n4_; have NB254_263 := n5_; have NB263_254 := n6_; clear n0_ n1_ n2_ n3_ n4_ n5_ n6_; clear hb hbox hg; have hnb21 := NB263_254.out; have hnc21 := NB254_263.out; have hcz22_0 : w20.cell? ⟨gb263, 0, none⟩ = some (.int .u32 0) := (blk_cell BK263.out 0).trans rfl; have hcz22_1 : w20.cell? ⟨gb263, 1, none⟩ = some (.int .i64 0) := (blk_cell BK263.out 1).trans rfl; have hfz22_0 := blk_frozen BK263.out 0; have hfz22_1 := blk_frozen BK263.out 1) | ((with_reducible refine gate_callee (f := 52) rfl ?_); refine goesL_ (some 53) rfl rfl Tryd.func52 (by kernel_rfl) rfl #[.agg #[.int .u32 t258, .int .i64 t261]] rfl (by (try simp only [List.map_toArray, List.map_cons, List.map_nil]); first | done | rfl | (simp only [List.length_drop, List.length_take]; rfl)) ?_; (with_reducible refine (four_is.calls t258 t261 false _ A10.out).mono ?_); rintro e w23 ⟨rfl, hb⟩; refine ⟨_, rfl, ?_⟩; have n0_ := Aside0.mk (blk_below (g := gb254) (o := .cells #[.int .u32 0, .int .i64 0] 50 (0, 0)) (by (with_reducible repeat (first | refine blk_drewN ?_ _ | refine blk_drew ?_ | refine blk_alloc ?_ _)); refine blk_far ?_ NB254_263.out _; (with_reducible repeat (first | refine blk_drewN ?_ _ | refine blk_drew ?_ | refine blk_alloc ?_ _)); refine blk_far ?_ NB254_263.out _; (with_reducible repeat (first | refine blk_drewN ?_ _ | refine blk_drew ?_ | refine blk_alloc ?_ _)); exact BK254.out) hb); have n1_ := Aside0.mk (blk_below (g := gb263) (o := .cells #[.int .u32 t258, .int .i64 t261] 50 (0, 0)) (by (with_reducible repeat (first | refine blk_drewN ?_ _ | refine blk_drew ?_ | refine blk_alloc ?_ _)); refine blk_put (cs := #[.int .u32 t258, .int .i64 0]) ?_ 1 _ rfl; (with_reducible repeat (first | refine blk_drewN ?_ _ | refine blk_drew ?_ | refine blk_alloc ?_ _)); refine blk_put (cs := #[.int .u32 0, .int .i64 0]) ?_ 0 _ rfl; (with_reducible repeat (first | refine blk_drewN ?_ _ | refine blk_drew ?_ | refine blk_alloc ?_ _)); exact BK263.out) hb); have n2_ := Aside0.mk (below_step (by repeat (first | (with_reducible first | exact HB.out | apply below_alloc | apply pw_below_drewN | apply below_drew1 | refine below_set ?_ GE254.out | refine below_set ?_ GE263.out) | exact HB.out)) hb); clear BK254; clear BK263; clear HB; have BK254 := n0_; have BK263 := n1_; have HB := n2_; clear n0_ n1_ n2_; (try clear hb); (try clear hb2); (try clear hk); (try clear hi); have hcz24_0 : w23.cell? ⟨gb254, 0, none⟩ = some (.int .u32 0) := (blk_cell BK254.out 0).trans rfl; have hcz24_1 : w23.cell? ⟨gb254, 1, none⟩ = some (.int .i64 0) := (blk_cell BK254.out 1).trans rfl; have hfz24_0 := blk_frozen BK254.out 0; have hfz24_1 := blk_frozen BK254.out 1))
          refine bodyPost_ret (results_ctt rfl _ _ gb254 50 #[.int .u32 0, .int .i64 0] (0, 0) _ rfl (by (with_reducible repeat (first | refine blk_drewN ?_ _ | refine blk_drew ?_ | refine blk_alloc ?_ _)); refine blk_put (cs := #[.int .u32 0, .int .i64 0]) ?_ 1 _ rfl; (with_reducible repeat (first | refine blk_drewN ?_ _ | refine blk_drew ?_ | refine blk_alloc ?_ _)); refine blk_put (cs := #[.int .u32 0, .int .i64 0]) ?_ 0 _ rfl; (with_reducible repeat (first | refine blk_drewN ?_ _ | refine blk_drew ?_ | refine blk_alloc ?_ _)); exact BK254.out) Tryd.underlying50 rfl (by kernel_rfl)) rfl ?_
          exact ⟨by first | rfl | (simp [errW_none, errW_some] <;> rfl) | (simp [*, errW_none, errW_some] <;> rfl), by repeat (first | (with_reducible first | exact HB.out | apply below_alloc | apply pw_below_drewN | apply below_drew1 | refine below_set ?_ GE254.out | refine below_set ?_ GE263.out) | exact HB.out)⟩
    · replace c5 := Bool.eq_false_iff.mpr c5
      subst c5
      have H1 : (some (0, 0, (a0.size : Int), 204)) = some (r1, r2, r3, r4) := by rw [if_neg (show ¬ (false = true) by decide)] at H; exact H
      clear H
      have H := H1
      clear H1
      simp only [Option.some.injEq, Prod.mk.injEq] at H
      obtain ⟨rfl, rfl, rfl, rfl⟩ := H
      go_enter Tryd.func30, Tryd.ntmps30
      go_wp2_with (first | ((with_reducible refine gate_dst (N := 2) rfl ?_); refine box_event ?hg (N := 2) ?hd (cs := #[.int .u32 0, .int .i64 0]) (t := 50) ?hr ?_; (case hd => rfl); (case hg => rfl); (case hr => first | (go_simp; done) | (go_simp; rfl)); intro gb254 hg w25 hbox hb; have n0_ := Aside0.mk (below_step (by repeat (first | (with_reducible first | exact HB.out | apply below_alloc | apply pw_below_drewN | apply below_drew1) | exact HB.out)) hb); have n1_ := Aside0.mk (hbox); have n2_ := Aside0.mk ((by rw [hg]; exact (below_size (by repeat (first | (with_reducible first | exact HB.out | apply below_alloc | apply pw_below_drewN | apply below_drew1) | exact HB.out))) : w.heap.size ≤ gb254)); have n3_ := Aside0.mk ((by rw [hg]; exact (below_size (by repeat (first | (with_reducible first | exact HB.out | apply below_alloc | apply pw_below_drewN | apply below_drew1) | exact HB.out))) : w.heap.size ≤ gb254)); clear HB; have HB := n0_; have BK254 := n1_; have GW254 := n2_; have GE254 := n3_; clear n0_ n1_ n2_ n3_; clear hb hbox hg) | ((with_reducible refine gate_callee (f := 50) rfl ?_); refine goesL_ (some 15) rfl rfl Tryd.func50 (by kernel_rfl) rfl #[.string a0, .string (⟨#[47]⟩ : ByteArray)] rfl (by (try simp only [List.map_toArray, List.map_cons, List.map_nil]); first | done | rfl | (simp only [List.length_drop, List.length_take]; rfl)) ?_; (with_reducible refine (strings_Cut.calls a0 (⟨#[47]⟩ : ByteArray) t255 t256 false _ (GW.keep HG.out (by repeat (first | (with_reducible first | exact HB.out | apply below_alloc | apply pw_below_drewN | apply below_drew1) | exact HB.out | exact Below.refl _ _))) A2.out).mono ?_); rintro e w' ⟨rfl, ⟨nd, rfl⟩⟩; refine ⟨_, rfl, ?_⟩; (try (rw [drewN_self w25]; generalize hq_ : World.drewN w25 _ = w25; have n0_ : Aside0 (w25.heap[gb254]? = some (.cells #[.int .u32 0, .int .i64 0] 50 (0, 0))) := ⟨by rw [← hq_]; exact (by (with_reducible repeat (first | refine blk_drewN ?_ _ | refine blk_drew ?_ | refine blk_alloc ?_ _)); exact BK254.out)⟩; have n1_ : Aside0 (Below w.heap.size w w25) := ⟨by rw [← hq_]; exact (by repeat (first | (with_reducible first | exact HB.out | apply below_alloc | apply pw_below_drewN | apply below_drew1 | refine below_set ?_ GE254.out) | exact HB.out))⟩; clear BK254 HB hq_; have BK254 := n0_; have HB := n1_; clear n0_ n1_))) | ((with_reducible refine gate_callee (f := 21) rfl ?_); refine goesL_ (some 21) rfl rfl Tryd.func21 (by kernel_rfl) rfl #[.string t255] rfl (by (try simp only [List.map_toArray, List.map_cons, List.map_nil]); first | done | rfl | (simp only [List.length_drop, List.length_take]; rfl)) ?_; (with_reducible refine (four_Strict.calls k t255 t258 t259 t260 _ A3.out).mono ?_); rintro e w' ⟨rfl, ⟨nd, rfl⟩⟩; refine ⟨_, rfl, ?_⟩; (try (rw [drewN_self w25]; generalize hq_ : World.drewN w25 _ = w25; have n0_ : Aside0 (w25.heap[gb254]? = some (.cells #[.int .u32 0, .int .i64 0] 50 (0, 0))) := ⟨by rw [← hq_]; exact (by (with_reducible repeat (first | refine blk_drewN ?_ _ | refine blk_drew ?_ | refine blk_alloc ?_ _)); exact BK254.out)⟩; have n1_ : Aside0 (Below w.heap.size w w25) := ⟨by rw [← hq_]; exact (by repeat (first | (with_reducible first | exact HB.out | apply below_alloc | apply pw_below_drewN | apply below_drew1 | refine below_set ?_ GE254.out) | exact HB.out))⟩; clear BK254 HB hq_; have BK254 := n0_; have HB := n1_; clear n0_ n1_)); have hcz26_0 : w25.cell? ⟨gb254, 0, none⟩ = some (.int .u32 0) := (blk_cell BK254.out 0).trans rfl; have hcz26_1 : w25.cell? ⟨gb254, 1, none⟩ = some (.int .i64 0) := (blk_cell BK254.out 1).trans rfl; have hfz26_0 := blk_frozen BK254.out 0; have hfz26_1 := blk_frozen BK254.out 1))
      refine bodyPost_ret (results_ctt rfl _ _ gb254 50 #[.int .u32 0, .int .i64 0] (0, 0) _ rfl (by (with_reducible repeat (first | refine blk_drewN ?_ _ | refine blk_drew ?_ | refine blk_alloc ?_ _)); refine blk_put (cs := #[.int .u32 0, .int .i64 0]) ?_ 1 _ rfl; (with_reducible repeat (first | refine blk_drewN ?_ _ | refine blk_drew ?_ | refine blk_alloc ?_ _)); refine blk_put (cs := #[.int .u32 0, .int .i64 0]) ?_ 0 _ rfl; (with_reducible repeat (first | refine blk_drewN ?_ _ | refine blk_drew ?_ | refine blk_alloc ?_ _)); exact BK254.out) Tryd.underlying50 rfl (by kernel_rfl)) rfl ?_
      exact ⟨by first | rfl | (simp [errW_none, errW_some] <;> rfl) | (simp [*, errW_none, errW_some] <;> rfl), by repeat (first | (with_reducible first | exact HB.out | apply below_alloc | apply pw_below_drewN | apply below_drew1 | refine below_set ?_ GE254.out) | exact HB.out)⟩
  · rw [if_neg c4] at H
    have c4b0 : (t260 == 0) = false := beq_eq_false_iff_ne.mpr c4
    have c4b1 : (t260 != 0) = true := bne_iff_ne.mpr c4
    simp only [Option.some.injEq, Prod.mk.injEq] at H
    obtain ⟨rfl, rfl, rfl, rfl⟩ := H
    go_enter Tryd.func30, Tryd.ntmps30
    go_wp2_with (first | ((with_reducible refine gate_dst (N := 2) rfl ?_); refine box_event ?hg (N := 2) ?hd (cs := #[.int .u32 0, .int .i64 0]) (t := 50) ?hr ?_; (case hd => rfl); (case hg => rfl); (case hr => first | (go_simp; done) | (go_simp; rfl)); intro gb254 hg w27 hbox hb; have n0_ := Aside0.mk (below_step (by repeat (first | (with_reducible first | exact HB.out | apply below_alloc | apply pw_below_drewN | apply below_drew1) | exact HB.out)) hb); have n1_ := Aside0.mk (hbox); have n2_ := Aside0.mk ((by rw [hg]; exact (below_size (by repeat (first | (with_reducible first | exact HB.out | apply below_alloc | apply pw_below_drewN | apply below_drew1) | exact HB.out))) : w.heap.size ≤ gb254)); have n3_ := Aside0.mk ((by rw [hg]; exact (below_size (by repeat (first | (with_reducible first | exact HB.out | apply below_alloc | apply pw_below_drewN | apply below_drew1) | exact HB.out))) : w.heap.size ≤ gb254)); clear HB; have HB := n0_; have BK254 := n1_; have GW254 := n2_; have GE254 := n3_; clear n0_ n1_ n2_ n3_; clear hb hbox hg) | ((with_reducible refine gate_callee (f := 50) rfl ?_); refine goesL_ (some 15) rfl rfl Tryd.func50 (by kernel_rfl) rfl #[.string a0, .string (⟨#[47]⟩ : ByteArray)] rfl (by (try simp only [List.map_toArray, List.map_cons, List.map_nil]); first | done | rfl | (simp only [List.length_drop, List.length_take]; rfl)) ?_; (with_reducible refine (strings_Cut.calls a0 (⟨#[47]⟩ : ByteArray) t255 t256 t257 _ (GW.keep HG.out (by repeat (first | (with_reducible first | exact HB.out | apply below_alloc | apply pw_below_drewN | apply below_drew1) | exact HB.out | exact Below.refl _ _))) A2.out).mono ?_); rintro e w' ⟨rfl, ⟨nd, rfl⟩⟩; refine ⟨_, rfl, ?_⟩; (try (rw [drewN_self w27]; generalize hq_ : World.drewN w27 _ = w27; have n0_ : Aside0 (w27.heap[gb254]? = some (.cells #[.int .u32 0, .int .i64 0] 50 (0, 0))) := ⟨by rw [← hq_]; exact (by (with_reducible repeat (first | refine blk_drewN ?_ _ | refine blk_drew ?_ | refine blk_alloc ?_ _)); exact BK254.out)⟩; have n1_ : Aside0 (Below w.heap.size w w27) := ⟨by rw [← hq_]; exact (by repeat (first | (with_reducible first | exact HB.out | apply below_alloc | apply pw_below_drewN | apply below_drew1 | refine below_set ?_ GE254.out) | exact HB.out))⟩; clear BK254 HB hq_; have BK254 := n0_; have HB := n1_; clear n0_ n1_))) | ((with_reducible refine gate_callee (f := 21) rfl ?_); refine goesL_ (some 21) rfl rfl Tryd.func21 (by kernel_rfl) rfl #[.string t255] rfl (by (try simp only [List.map_toArray, List.map_cons, List.map_nil]); first | done | rfl | (simp only [List.length_drop, List.length_take]; rfl)) ?_; (with_reducible refine (four_Strict.calls k t255 t258 t259 t260 _ A3.out).mono ?_); rintro e w' ⟨rfl, ⟨nd, rfl⟩⟩; refine ⟨_, rfl, ?_⟩; (try (rw [drewN_self w27]; generalize hq_ : World.drewN w27 _ = w27; have n0_ : Aside0 (w27.heap[gb254]? = some (.cells #[.int .u32 0, .int .i64 0] 50 (0, 0))) := ⟨by rw [← hq_]; exact (by (with_reducible repeat (first | refine blk_drewN ?_ _ | refine blk_drew ?_ | refine blk_alloc ?_ _)); exact BK254.out)⟩; have n1_ : Aside0 (Below w.heap.size w w27) := ⟨by rw [← hq_]; exact (by repeat (first | (with_reducible first | exact HB.out | apply below_alloc | apply pw_below_drewN | apply below_drew1 | refine below_set ?_ GE254.out) | exact HB.out))⟩; clear BK254 HB hq_; have BK254 := n0_; have HB := n1_; clear n0_ n1_)); have hcz28_0 : w27.cell? ⟨gb254, 0, none⟩ = some (.int .u32 0) := (blk_cell BK254.out 0).trans rfl; have hcz28_1 : w27.cell? ⟨gb254, 1, none⟩ = some (.int .i64 0) := (blk_cell BK254.out 1).trans rfl; have hfz28_0 := blk_frozen BK254.out 0; have hfz28_1 := blk_frozen BK254.out 1))
    refine bodyPost_ret (results_ctt rfl _ _ gb254 50 #[.int .u32 0, .int .i64 0] (0, 0) _ rfl (by (with_reducible repeat (first | refine blk_drewN ?_ _ | refine blk_drew ?_ | refine blk_alloc ?_ _)); refine blk_put (cs := #[.int .u32 0, .int .i64 0]) ?_ 1 _ rfl; (with_reducible repeat (first | refine blk_drewN ?_ _ | refine blk_drew ?_ | refine blk_alloc ?_ _)); refine blk_put (cs := #[.int .u32 0, .int .i64 0]) ?_ 0 _ rfl; (with_reducible repeat (first | refine blk_drewN ?_ _ | refine blk_drew ?_ | refine blk_alloc ?_ _)); exact BK254.out) Tryd.underlying50 rfl (by kernel_rfl)) rfl ?_
    exact ⟨by first | rfl | (simp [errW_none, errW_some] <;> rfl) | (simp [*, errW_none, errW_some] <;> rfl), by repeat (first | (with_reducible first | exact HB.out | apply below_alloc | apply pw_below_drewN | apply below_drew1 | refine below_set ?_ GE254.out) | exact HB.out)⟩
def posternref20_size.l0 : Nat → Int → Int → Option (Int)
  | 0, _, _ => none
  | k + 1, x3, x4 => if x4 < 32 then (posternref20_size.l0 k (IntKind.u64.wrap (x3 * 2)) (wrap64 (x4 + 1))) else (some x3)
def posternref20_size.f (k : Nat) (a0 : Int) : Option (Int) := posternref20_size.l0 k 1 a0
set_option maxHeartbeats 8000000 in
set_option maxRecDepth 100000 in
theorem posternref20_size.calls (k : Nat) (a0 : Int) (r : Int) (w : World) (h : posternref20_size.f k a0 = some r) :
    Calls Tryd.prog 55 #[.int .i64 a0] w fun e w' => e = .returned (.int .u64 r) ∧ Drawn0 w w' := by
  have H : (posternref20_size.l0 k 1 a0) = some r := h
  clear h
  have H' := Aside0.mk H
  clear H
  go_enter Tryd.func55, Tryd.ntmps55
  go_wp2
  go_loopg [3, 4] k (fun kq v3 v4 w' => ∃ (x3_1 : Int) (x4_1 : Int), v3 = .int .u64 x3_1 ∧ v4 = .int .i64 x4_1 ∧ Aside0 (posternref20_size.l0 kq x3_1 x4_1 = some r) ∧ Aside0 (kq ≤ k) ∧ Drawn0 w w')
  case atStart => exact ⟨(1), (a0), (by first | rfl | (simp; done) | (simp [*]; done)), (by first | rfl | (simp; done) | (simp [*]; done)), H', ⟨Nat.le_refl _⟩, by repeat (first | exact Drawn0.refl _ | apply Drawn0.step)⟩
  case round =>
    clear H'
    obtain ⟨x3_1, x4_1, rfl, rfl, HA, HK1, ⟨m1, rfl⟩⟩ := hrel
    cases gk with
    | zero => exact absurd HA.out (by simp [posternref20_size.l0])
    | succ k1 =>
      have H := HA.out
      clear HA
      simp only [posternref20_size.l0] at H
      by_cases c2 : x4_1 < 32
      · rw [if_pos c2] at H
        have c2b0 : decide (x4_1 < 32) = true := decide_eq_true c2
        clear c2
        have H' := Aside0.mk H
        clear H
        go_wp2
        go_roundg k1
        case measure => have := HK1.out; omega
        case rel => exact ⟨(IntKind.u64.wrap (x3_1 * 2)), (wrap64 (x4_1 + 1)), (by first | rfl | (simp; done) | (simp [*]; done)), (by first | rfl | (simp; done) | (simp [*]; done)), H', ⟨by have := HK1.out; omega⟩, by repeat (first | exact Drawn0.refl _ | apply Drawn0.step)⟩
      · rw [if_neg c2] at H
        have c2b0 : decide (x4_1 < 32) = false := decide_eq_false c2
        clear c2
        obtain rfl := Option.some.inj H
        go_wp2
        go_ret
        exact ⟨by first | rfl | (simp; done) | (simp [*]; done), by repeat (first | exact Drawn0.refl _ | apply Drawn0.step)⟩
end Go.Proofs.YtgnahagnmodpdaaDoor.X
/-! FourMask -/
namespace Go.Proofs.YtgnahagnmodpdaaDoor
open Go.RowKit Go.Proofs.YtgnahagnmodpdaaDoorW.PrintWords Go.Proofs.YtgnahagnmodpdaaDoor.X Go.IntWalk
set_option linter.unusedVariables false
set_option linter.unusedSimpArgs false
/-- How many addresses a prefix of so many bits has. -/
def sizeV (b : Int) : Int := 2 ^ (32 - b).toNat
theorem sizeV_succ {b : Int} (h : b < 32) : sizeV b = 2 * sizeV (b + 1) := by
  unfold sizeV
  rw [show (32 - b).toNat = (32 - (b + 1)).toNat + 1 by omega, Int.pow_succ]
  omega
theorem sizeV_bd {b : Int} (h0 : 0 ≤ b) (h1 : b ≤ 32) : 1 ≤ sizeV b ∧ sizeV b ≤ 4294967296 := by
  unfold sizeV
  have h : ∀ k : Fin 33, 1 ≤ (2 : Int) ^ k.val ∧ (2 : Int) ^ k.val ≤ 4294967296 := by decide
  exact h ⟨(32 - b).toNat, by omega⟩
theorem size_loop : ∀ (m : Nat) (i n : Int), (32 - i).toNat = m → 0 ≤ i → i ≤ 32 → 0 ≤ n → n * sizeV i ≤ 4294967296 → Ev (fun k => posternref20_size.l0 k n i) (n * sizeV i)
  | 0, i, n, hm, h0, h1, hn, hb => by
    obtain rfl : i = 32 := by omega
    refine Ev.step (f := fun k => some n) (fun k => ?_) ?_
    · simp only [posternref20_size.l0]
      rw [if_neg (by omega)]
    · rw [show sizeV 32 = 1 by decide, Int.mul_one]
      exact Ev.now _
  | m + 1, i, n, hm, h0, h1, hn, hb => by
    have hs := sizeV_succ (show i < 32 by omega)
    have hbd := sizeV_bd (b := i + 1) (by omega) (by omega)
    have e : n * sizeV i = n * 2 * sizeV (i + 1) := by rw [hs, Int.mul_assoc]
    have hn2 : n * 2 ≤ 4294967296 := by
      have := Int.mul_le_mul_of_nonneg_left hbd.1 (show 0 ≤ n * 2 by omega)
      omega
    rw [e] at hb ⊢
    refine Ev.step (f := fun k => posternref20_size.l0 k (n * 2) (i + 1)) (fun k => ?_) (size_loop m (i + 1) (n * 2) (by omega) (by omega) (by omega) (by omega) hb)
    simp only [posternref20_size.l0]
    rw [if_pos (by omega), wrap64_in (i + 1) (by omega)]
    congr 1
    simp [IntKind.wrap, IntKind.signed, IntKind.bits]
    omega
theorem size_ev {b : Int} (h0 : 0 ≤ b) (h1 : b ≤ 32) : Ev (fun k => posternref20_size.f k b) (sizeV b) := by
  have hbd := sizeV_bd h0 h1
  have := size_loop _ b 1 rfl h0 h1 (by decide) (by rw [Int.one_mul]; exact hbd.2)
  rw [Int.one_mul] at this
  exact Ev.congr (fun k => rfl) this
theorem size_calls (b : Int) (h0 : 0 ≤ b) (h1 : b ≤ 32) (w : World) : Calls Tryd.prog 55 #[.int .i64 b] w fun e w' => e = .returned (.int .u64 (sizeV b)) ∧ ∃ n, w' = w.drewN n := by
  obtain ⟨k, h⟩ := (size_ev h0 h1).rounds
  exact (posternref20_size.calls k b _ w h).mono fun e w' ⟨he, hd⟩ => ⟨he, hd.out⟩
/-- The first bits of an address. -/
def maskV (n b : Int) : Int × Int := if 0 ≤ b ∧ b ≤ 32 then (n / sizeV b * sizeV b, 0) else (0, 204)
set_option maxHeartbeats 1000000 in
set_option maxRecDepth 100000 in
theorem refMask_walk (n b : Int) (hn0 : 0 ≤ n) (hn1 : n ≤ 4294967295) (w : World) : Calls Tryd.prog 35 #[.int .u32 n, .int .i64 b] w fun e w' => e = .returned (.tuple #[.int .u32 (maskV n b).1, .int .i64 (maskV n b).2]) ∧ Drawn0 w w' := by
  by_cases hb : 0 ≤ b ∧ b ≤ 32
  · rw [show maskV n b = (n / sizeV b * sizeV b, 0) from if_pos hb]
    obtain ⟨h0, h1⟩ := hb
    have hs := size_calls b h0 h1
    have hbd := sizeV_bd h0 h1
    obtain ⟨z, hz⟩ : ∃ z, z = sizeV b := ⟨_, rfl⟩
    rw [← hz] at hs hbd ⊢
    obtain ⟨z0, z1⟩ := hbd
    have HS := Aside0.mk hs
    clear hs hz
    go_enter Tryd.func35, Tryd.ntmps35
    go_wp2_with fail
    go_quiet ((go_at_call 55; exact Calls.quiet_of (HS.out _)))
    all_goals go_wp2
    go_ret2
    have hq0 : 0 ≤ n / z * z := Int.mul_nonneg (Int.ediv_nonneg hn0 (by omega)) (by omega)
    have hq1 : n / z * z ≤ n := Int.ediv_mul_le n (by omega)
    have e : IntKind.u64.wrap (n / z * z) % 4294967296 = n / z * z := by simp [IntKind.wrap, IntKind.signed, IntKind.bits]; omega
    rw [e]
    exact ⟨rfl, ⟨nq, rfl⟩⟩
  · rw [show maskV n b = (0, 204) from if_neg hb]
    by_cases h0 : b < 0
    · clear hb
      go_enter Tryd.func35, Tryd.ntmps35
      go_wp2_with fail
      go_ret2
      exact ⟨rfl, Drawn0.refl _⟩
    · have h1 : 32 < b := by omega
      clear hb
      go_enter Tryd.func35, Tryd.ntmps35
      go_wp2_with fail
      go_ret2
      exact ⟨rfl, Drawn0.refl _⟩
def posternref20_Mask.f (a0 a1 : Int) : Option (Int × Int) := if 0 ≤ a0 ∧ a0 ≤ 4294967295 then some (maskV a0 a1) else none
theorem posternref20_Mask.calls (a0 a1 : Int) (r1 r2 : Int) (w : World) (h : posternref20_Mask.f a0 a1 = some (r1, r2)) :
    Calls Tryd.prog 35 #[.int .u32 a0, .int .i64 a1] w fun e w' => e = .returned (.tuple #[.int .u32 r1, .int .i64 r2]) ∧ Drawn0 w w' := by
  unfold posternref20_Mask.f at h
  by_cases hs : 0 ≤ a0 ∧ a0 ≤ 4294967295
  · rw [if_pos hs] at h
    have h := Option.some.inj h
    have hw := refMask_walk a0 a1 hs.1 hs.2 w
    rw [h] at hw
    exact hw
  · rw [if_neg hs] at h
    cases h
end Go.Proofs.YtgnahagnmodpdaaDoor
/-! FourBits -/
namespace Go.Proofs.YtgnahagnmodpdaaDoor
open Go.RowKit Go.Proofs.YtgnahagnmodpdaaDoorW.PrintWords Go.Proofs.YtgnahagnmodpdaaDoor.X Go.IntWalk
set_option linter.unusedVariables false
set_option linter.unusedSimpArgs false
theorem nat_and_hi (a t : Nat) (ha : a < 4294967296) (ht : t ≤ 32) : a &&& (4294967295 - (2 ^ t - 1)) = a - a % 2 ^ t := by
  have e : a - a % 2 ^ t = 2 ^ t * (a / 2 ^ t) := by have := Nat.div_add_mod a (2 ^ t); omega
  rw [e]
  apply Nat.eq_of_testBit_eq
  intro i
  have hp : 2 ^ t ≤ 4294967296 := by have := Nat.pow_le_pow_right (n := 2) (by omega) ht; simpa using this
  have hq : 0 < 2 ^ t := Nat.two_pow_pos t
  have e2 : 4294967295 - (2 ^ t - 1) = 2 ^ 32 - ((2 ^ t - 1) + 1) := by omega
  rw [Nat.testBit_and, e2, Nat.testBit_two_pow_sub_succ (by omega), Nat.testBit_two_pow_mul, Nat.testBit_div_two_pow, Nat.testBit_two_pow_sub_one]
  by_cases hi : t ≤ i
  · have h1 : ¬ i < t := by omega
    rw [show i - t + t = i from by omega]
    by_cases h16 : i < 32
    · simp [hi, h1, h16]
    · have hz : a.testBit i = false := Nat.testBit_lt_two_pow (Nat.lt_of_lt_of_le ha (by have := Nat.pow_le_pow_right (n := 2) (by omega) (show 32 ≤ i by omega); simpa using this))
      simp [hz]
  · have h1 : i < t := by omega
    have h2 : ¬ i ≥ t := by omega
    simp [h1, h2]
theorem shr_all {b : Int} (h0 : 0 ≤ b) (h1 : b ≤ 32) : shr .u32 4294967295 b = ((2 ^ (32 - b).toNat - 1 : Nat) : Int) := by
  have h : ∀ k : Fin 33, shr .u32 4294967295 (k.val : Int) = ((2 ^ (32 - (k.val : Int)).toNat - 1 : Nat) : Int) := by decide +kernel
  have := h ⟨b.toNat, by omega⟩
  simp only [Int.toNat_of_nonneg h0] at this
  exact this
theorem mask_f (n b : Int) (hn0 : 0 ≤ n) (hn1 : n ≤ 4294967295) (h0 : 0 ≤ b) (h1 : b ≤ 32) : four_mask.f n b = some (n / sizeV b * sizeV b) := by
  unfold four_mask.f
  rw [if_pos h0, shr_all h0 h1]
  obtain ⟨a, rfl⟩ := Int.eq_ofNat_of_zero_le hn0
  have ht : (32 - b).toNat ≤ 32 := by omega
  have es : sizeV b = ((2 ^ (32 - b).toNat : Nat) : Int) := by unfold sizeV; simp
  have hp : 2 ^ (32 - b).toNat ≤ 4294967296 := by have := Nat.pow_le_pow_right (n := 2) (by omega) ht; simpa using this
  rw [es]
  generalize (32 - b).toNat = t at *
  have hq : 0 < 2 ^ t := Nat.two_pow_pos t
  rw [u32_andNot _ _ (by omega) (by omega) (by omega) (by omega), Int.toNat_natCast, Int.toNat_natCast, nat_and_hi a t (by omega) ht]
  have hd := Nat.div_add_mod a (2 ^ t)
  rw [Nat.mul_comm] at hd
  rw [← Int.natCast_ediv, ← Int.natCast_mul, show a - a % 2 ^ t = a / 2 ^ t * 2 ^ t by omega]
/-- Is the prefix one? -/
def isV (n b : Int) : Bool := decide (0 ≤ b) && (decide (b ≤ 32) && (n / sizeV b * sizeV b == n))
theorem is_f (n b : Int) (hn0 : 0 ≤ n) (hn1 : n ≤ 4294967295) : four_is.f n b = some (isV n b) := by
  unfold four_is.f isV
  by_cases h0 : b ≥ 0
  · rw [if_pos h0, decide_eq_true (show 0 ≤ b from h0), Bool.true_and]
    by_cases h1 : b ≤ 32
    · rw [if_pos h1, decide_eq_true h1, Bool.true_and, mask_f n b hn0 hn1 h0 h1]
      rfl
    · rw [if_neg h1, decide_eq_false h1, Bool.false_and]
  · rw [if_neg h0, decide_eq_false (show ¬ 0 ≤ b from h0), Bool.false_and]
/-- Does the prefix hold the address? -/
def withinV (f b n : Int) : Bool := isV f b && (n / sizeV b * sizeV b == f)
theorem within_f (f b n : Int) (hf0 : 0 ≤ f) (hf1 : f ≤ 4294967295) (hn0 : 0 ≤ n) (hn1 : n ≤ 4294967295) : four_Within.f f b n = some (withinV f b n) := by
  unfold four_Within.f withinV
  rw [is_f f b hf0 hf1]
  simp only [Option.bind_some]
  by_cases h : isV f b = true
  · rw [if_pos h, h, Bool.true_and]
    unfold isV at h
    simp only [Bool.and_eq_true, decide_eq_true_eq] at h
    rw [mask_f n b hn0 hn1 h.1 h.2.1]
    rfl
  · rw [if_neg h, Bool.eq_false_iff.2 h, Bool.false_and]
theorem nat_and_255 (x : Nat) : x &&& 255 = x % 256 := Nat.and_two_pow_sub_one_eq_mod x 8
set_option maxRecDepth 20000
end Go.Proofs.YtgnahagnmodpdaaDoor
/-! X11 -/
namespace Go.Proofs.YtgnahagnmodpdaaDoor.X
open Go.RowKit Go.Proofs.YtgnahagnmodpdaaDoorW.PrintWords Go.Proofs.YtgnahagnmodpdaaDoorW.PrintLast Go.Proofs.YtgnahagnmodpdaaDoorW.PrintMore
attribute [local go_sem] max2_int min2_int max_two min_two max_three min_three max_four min_four
set_option linter.unusedVariables false
set_option linter.unusedSimpArgs false
def posternref20_Is.f (a0_0 : Int) (a0_1 : Int) : Option (Bool) := (posternref20_Mask.f a0_0 a0_1).bind fun bt266 => (if bt266.2 = 0 then (some (bt266.1 == a0_0)) else (some false))
set_option maxHeartbeats 8000000 in
set_option maxRecDepth 100000 in
theorem posternref20_Is.calls (a0_0 : Int) (a0_1 : Int) (r : Bool) (w : World) (h : posternref20_Is.f a0_0 a0_1 = some r) :
    Calls Tryd.prog 53 #[.agg #[.int .u32 a0_0, .int .i64 a0_1]] w fun e w' => e = .returned (.bool r) ∧ Below w.heap.size w w' := by
  have hu53 := Tryd.underlying53
  have HB := Aside0.mk (Below.refl w.heap.size w)
  have H : ((posternref20_Mask.f a0_0 a0_1).bind fun bt266 => (if bt266.2 = 0 then (some (bt266.1 == a0_0)) else (some false))) = some r := h
  clear h
  replace H := Option.bind_eq_some_iff.mp H
  obtain ⟨⟨t266, t267⟩, A20, H⟩ := H
  replace H : (if t267 = 0 then (some (t266 == a0_0)) else (some false)) = some r := H
  have A2 := Aside0.mk A20
  clear A20
  by_cases c3 : t267 = 0
  · rw [if_pos c3] at H
    have c3b0 : (t267 == 0) = true := beq_iff_eq.mpr c3
    have c3b1 : (t267 != 0) = false := bne_eq_false_iff_eq.mpr c3
    clear c3
    obtain rfl := Option.some.inj H
    go_enter Tryd.func53, Tryd.ntmps53
    go_wp2_with (first | ((with_reducible refine gate_dst (N := 1) rfl ?_); refine box_event ?hg (N := 1) ?hd (cs := #[.int .u32 a0_0, .int .i64 a0_1]) (t := 53) ?hr ?_; (case hd => rfl); (case hg => rfl); (case hr => first | (go_simp; done) | (go_simp; rfl)); intro gb265 hg w4 hbox hb; have n0_ := Aside0.mk (below_step (by repeat (first | (with_reducible first | exact HB.out | apply below_alloc | apply pw_below_drewN | apply below_drew1) | exact HB.out)) hb); have n1_ := Aside0.mk (hbox); have n2_ := Aside0.mk ((by rw [hg]; exact (below_size (by repeat (first | (with_reducible first | exact HB.out | apply below_alloc | apply pw_below_drewN | apply below_drew1) | exact HB.out))) : w.heap.size ≤ gb265)); have n3_ := Aside0.mk ((by rw [hg]; exact (below_size (by repeat (first | (with_reducible first | exact HB.out | apply below_alloc | apply pw_below_drewN | apply below_drew1) | exact HB.out))) : w.heap.size ≤ gb265)); clear HB; have HB := n0_; have BK265 := n1_; have GW265 := n2_; have GE265 := n3_; clear n0_ n1_ n2_ n3_; clear hb hbox hg; have hcz5_0 : w4.cell? ⟨gb265, 0, none⟩ = some (.int .u32 a0_0) := (blk_cell BK265.out 0).trans rfl; have hcz5_1 : w4.cell? ⟨gb265, 1, none⟩ = some (.int .i64 a0_1) := (blk_cell BK265.out 1).trans rfl; have hfz5_0 := blk_frozen BK265.out 0; have hfz5_1 := blk_frozen BK265.out 1) | ((with_reducible refine gate_callee (f := 35) rfl ?_); refine goesL_ (some 10) rfl rfl Tryd.func35 (by kernel_rfl) rfl #[.int .u32 a0_0, .int .i64 a0_1] rfl (by (try simp only [List.map_toArray, List.map_cons, List.map_nil]); first | done | rfl | (simp only [List.length_drop, List.length_take]; rfl)) ?_; (with_reducible refine (posternref20_Mask.calls a0_0 a0_1 t266 t267 _ A2.out).mono ?_); rintro e w' ⟨rfl, ⟨nd, rfl⟩⟩; refine ⟨_, rfl, ?_⟩))
    go_ret
    exact ⟨by first | rfl | (simp [errW_none, errW_some] <;> rfl) | (simp [*, errW_none, errW_some] <;> rfl), by repeat (first | (with_reducible first | exact HB.out | apply below_alloc | apply pw_below_drewN | apply below_drew1 | refine below_set ?_ GE265.out) | exact HB.out)⟩
  · rw [if_neg c3] at H
    have c3b0 : (t267 == 0) = false := beq_eq_false_iff_ne.mpr c3
    have c3b1 : (t267 != 0) = true := bne_iff_ne.mpr c3
    obtain rfl := Option.some.inj H
    go_enter Tryd.func53, Tryd.ntmps53
    go_wp2_with (first | ((with_reducible refine gate_dst (N := 1) rfl ?_); refine box_event ?hg (N := 1) ?hd (cs := #[.int .u32 a0_0, .int .i64 a0_1]) (t := 53) ?hr ?_; (case hd => rfl); (case hg => rfl); (case hr => first | (go_simp; done) | (go_simp; rfl)); intro gb265 hg w6 hbox hb; have n0_ := Aside0.mk (below_step (by repeat (first | (with_reducible first | exact HB.out | apply below_alloc | apply pw_below_drewN | apply below_drew1) | exact HB.out)) hb); have n1_ := Aside0.mk (hbox); have n2_ := Aside0.mk ((by rw [hg]; exact (below_size (by repeat (first | (with_reducible first | exact HB.out | apply below_alloc | apply pw_below_drewN | apply below_drew1) | exact HB.out))) : w.heap.size ≤ gb265)); have n3_ := Aside0.mk ((by rw [hg]; exact (below_size (by repeat (first | (with_reducible first | exact HB.out | apply below_alloc | apply pw_below_drewN | apply below_drew1) | exact HB.out))) : w.heap.size ≤ gb265)); clear HB; have HB := n0_; have BK265 := n1_; have GW265 := n2_; have GE265 := n3_; clear n0_ n1_ n2_ n3_; clear hb hbox hg; have hcz7_0 : w6.cell? ⟨gb265, 0, none⟩ = some (.int .u32 a0_0) := (blk_cell BK265.out 0).trans rfl; have hcz7_1 : w6.cell? ⟨gb265, 1, none⟩ = some (.int .i64 a0_1) := (blk_cell BK265.out 1).trans rfl; have hfz7_0 := blk_frozen BK265.out 0; have hfz7_1 := blk_frozen BK265.out 1) | ((with_reducible refine gate_callee (f := 35) rfl ?_); refine goesL_ (some 10) rfl rfl Tryd.func35 (by kernel_rfl) rfl #[.int .u32 a0_0, .int .i64 a0_1] rfl (by (try simp only [List.map_toArray, List.map_cons, List.map_nil]); first | done | rfl | (simp only [List.length_drop, List.length_take]; rfl)) ?_; (with_reducible refine (posternref20_Mask.calls a0_0 a0_1 t266 t267 _ A2.out).mono ?_); rintro e w' ⟨rfl, ⟨nd, rfl⟩⟩; refine ⟨_, rfl, ?_⟩))
    go_ret
    exact ⟨by first | rfl | (simp [errW_none, errW_some] <;> rfl) | (simp [*, errW_none, errW_some] <;> rfl), by repeat (first | (with_reducible first | exact HB.out | apply below_alloc | apply pw_below_drewN | apply below_drew1 | refine below_set ?_ GE265.out) | exact HB.out)⟩
end Go.Proofs.YtgnahagnmodpdaaDoor.X
/-! X12 -/
namespace Go.Proofs.YtgnahagnmodpdaaDoor.X
open Go.RowKit Go.Proofs.YtgnahagnmodpdaaDoorW.PrintWords Go.Proofs.YtgnahagnmodpdaaDoorW.PrintLast Go.Proofs.YtgnahagnmodpdaaDoorW.PrintMore
attribute [local go_sem] max2_int min2_int max_two min_two max_three min_three max_four min_four
set_option linter.unusedVariables false
set_option linter.unusedSimpArgs false
mutual
def posternref20_ParsePrefix.j3 : Nat → ByteArray → Int → Int → Option (Int × Int × Int × Int)
  | 0, _, _, _ => none
  | k + 1, x0, x5, x9 => if x9 = (x0.size : Int) then (some (0, 0, (x0.size : Int), 204)) else (posternref20_ParsePrefix.l1 k x0 x5 0 (wrap64 (x9 + 1)) 0)
def posternref20_ParsePrefix.l1 : Nat → ByteArray → Int → Int → Int → Int → Option (Int × Int × Int × Int)
  | 0, _, _, _, _, _ => none
  | k + 1, x0, x5, x7, x9, x11 => if x9 < (x0.size : Int) then (if 0 ≤ x9 then ((posternref20_digit.f k (bt x0 x9) 10).bind fun t270 => (if t270 < 0 then (some (0, 0, x9, 204)) else (if x7 > 0 then (if x11 = 0 then (some (0, 0, x9, 204)) else (if (wrap64 ((wrap64 (10 * x11)) + t270)) > 32 then (some (0, 0, x9, 204)) else (posternref20_ParsePrefix.l1 k x0 x5 (wrap64 (x7 + 1)) (wrap64 (x9 + 1)) (wrap64 ((wrap64 (10 * x11)) + t270))))) else (if (wrap64 ((wrap64 (10 * x11)) + t270)) > 32 then (some (0, 0, x9, 204)) else (posternref20_ParsePrefix.l1 k x0 x5 (wrap64 (x7 + 1)) (wrap64 (x9 + 1)) (wrap64 ((wrap64 (10 * x11)) + t270))))))) else (none)) else (if x7 = 0 then (some (0, 0, (x0.size : Int), 204)) else ((posternref20_Is.f x5 x11).bind fun t272 => (if t272 = true then (some (x5, x11, 0, 0)) else (some (0, 0, 0, 204)))))
def posternref20_ParsePrefix.l0 : Nat → ByteArray → Int → Int → Int → Int → Int → Option (Int × Int × Int × Int)
  | 0, _, _, _, _, _, _ => none
  | k + 1, x0, x5, x6, x7, x8, x9 => if x9 < (x0.size : Int) then (if 0 ≤ x9 then ((posternref20_digit.f k (bt x0 x9) 10).bind fun t269 => (if t269 ≥ 0 then (if x7 = 0 then (posternref20_ParsePrefix.j1 k x0 x5 x6 x7 x8 x9 t269 (decide ((wrap64 ((wrap64 (10 * x8)) + t269)) ≤ 255))) else (if x8 > 0 then (posternref20_ParsePrefix.j1 k x0 x5 x6 x7 x8 x9 t269 (decide ((wrap64 ((wrap64 (10 * x8)) + t269)) ≤ 255))) else (posternref20_ParsePrefix.j1 k x0 x5 x6 x7 x8 x9 t269 false))) else (posternref20_ParsePrefix.j1 k x0 x5 x6 x7 x8 x9 t269 false))) else (none)) else (posternref20_ParsePrefix.j3 k x0 x5 x9)
def posternref20_ParsePrefix.j1 : Nat → ByteArray → Int → Int → Int → Int → Int → Int → Bool → Option (Int × Int × Int × Int)
  | 0, _, _, _, _, _, _, _, _ => none
  | k + 1, x0, x5, x6, x7, x8, x9, x10, x40 => if x40 = true then (posternref20_ParsePrefix.l0 k x0 x5 x6 (wrap64 (x7 + 1)) (wrap64 ((wrap64 (10 * x8)) + x10)) (wrap64 (x9 + 1))) else (if 0 ≤ x9 then (if x9 < (x0.size : Int) then (if (bt x0 x9) = 46 then (if x7 > 0 then (posternref20_ParsePrefix.j2 k x0 x5 x6 x7 x8 x9 (decide (x6 < 3))) else (posternref20_ParsePrefix.j2 k x0 x5 x6 x7 x8 x9 false)) else (posternref20_ParsePrefix.j2 k x0 x5 x6 x7 x8 x9 false)) else (none)) else (none))
def posternref20_ParsePrefix.j2 : Nat → ByteArray → Int → Int → Int → Int → Int → Bool → Option (Int × Int × Int × Int)
  | 0, _, _, _, _, _, _, _ => none
  | k + 1, x0, x5, x6, x7, x8, x9, x58 => if x58 = true then (posternref20_ParsePrefix.l0 k x0 ((((256 * x5) % 4294967296) + ((x8) % 4294967296)) % 4294967296) (wrap64 (x6 + 1)) 0 0 (wrap64 (x9 + 1))) else (if 0 ≤ x9 then (if x9 < (x0.size : Int) then (if (bt x0 x9) = 47 then (if x7 > 0 then (if x6 = 3 then (posternref20_ParsePrefix.j3 k x0 ((((256 * x5) % 4294967296) + ((x8) % 4294967296)) % 4294967296) x9) else (some (0, 0, x9, 204))) else (some (0, 0, x9, 204))) else (some (0, 0, x9, 204))) else (none)) else (none))
end
def posternref20_ParsePrefix.f (k : Nat) (a0 : ByteArray) : Option (Int × Int × Int × Int) := posternref20_ParsePrefix.l0 k a0 0 0 0 0 0
set_option maxHeartbeats 8000000 in
set_option maxRecDepth 100000 in
theorem posternref20_ParsePrefix.calls (k : Nat) (a0 : ByteArray) (r1 : Int) (r2 : Int) (r3 : Int) (r4 : Int) (w : World) (h : posternref20_ParsePrefix.f k a0 = some (r1, r2, r3, r4)) :
    Calls Tryd.prog 31 #[.string a0] w fun e w' => e = .returned (.tuple #[.agg #[.int .u32 r1, .int .i64 r2], .int .i64 r3, .int .i64 r4]) ∧ Below w.heap.size w w' := by
  have hu53 := Tryd.underlying53
  have HB := Aside0.mk (Below.refl w.heap.size w)
  have H : (posternref20_ParsePrefix.l0 k a0 0 0 0 0 0) = some (r1, r2, r3, r4) := h
  clear h
  have HC2 := Aside0.mk H
  clear H
  go_enter Tryd.func31, Tryd.ntmps31
  go_upto_block 0 with (first | ((with_reducible refine gate_dst (N := 2) rfl ?_); refine box_event ?hg (N := 2) ?hd (cs := #[.int .u32 0, .int .i64 0]) (t := 53) ?hr ?_; (case hd => rfl); (case hg => rfl); (case hr => first | (go_simp; done) | (go_simp; rfl)); intro gb268 hg w3 hbox hb; have n0_ := Aside0.mk (below_step (by repeat (first | (with_reducible first | exact HB.out | apply below_alloc | apply pw_below_drewN | apply below_drew1) | exact HB.out)) hb); have n1_ := Aside0.mk (hbox); have n2_ := Aside0.mk ((by rw [hg]; exact (below_size (by repeat (first | (with_reducible first | exact HB.out | apply below_alloc | apply pw_below_drewN | apply below_drew1) | exact HB.out))) : w.heap.size ≤ gb268)); have n3_ := Aside0.mk ((by rw [hg]; exact (below_size (by repeat (first | (with_reducible first | exact HB.out | apply below_alloc | apply pw_below_drewN | apply below_drew1) | exact HB.out))) : w.heap.size ≤ gb268)); clear HB; have HB := n0_; have BK268 := n1_; have GW268 := n2_; have GE268 := n3_; clear n0_ n1_ n2_ n3_; clear hb hbox hg))
  (try simp only [Act.put, List.setIfInBounds_toArray, List.set_cons_zero, List.set_cons_succ])
  go_cut [5, 9] (fun v5 v9 wc => ∃ (kq : Nat) (x5_1 : Int) (x9_1 : Int) (x269000_1 : Int) (x269001_1 : Int), v5 = .int .u32 x5_1 ∧ v9 = .int .i64 x9_1 ∧ Aside0 (posternref20_ParsePrefix.j3 kq a0 x5_1 x9_1 = some (r1, r2, r3, r4)) ∧ Aside0 (kq ≤ k) ∧ Aside0 (wc.heap[gb268]? = some (.cells #[.int .u32 x269000_1, .int .i64 x269001_1] 53 (0, 0))) ∧ Aside0 (Below w.heap.size w wc))
  case first =>
    have H := HC2.out
    clear HC2
    have H' := Aside0.mk H
    clear H
    go_wp2
    go_loopg [5, 6, 7, 8, 9] k (fun kq v5 v6 v7 v8 v9 w' => ∃ (x5_1 : Int) (x6_1 : Int) (x7_1 : Int) (x8_1 : Int) (x9_1 : Int) (x269000_1 : Int) (x269001_1 : Int), v5 = .int .u32 x5_1 ∧ v6 = .int .i64 x6_1 ∧ v7 = .int .i64 x7_1 ∧ v8 = .int .i64 x8_1 ∧ v9 = .int .i64 x9_1 ∧ Aside0 (posternref20_ParsePrefix.l0 kq a0 x5_1 x6_1 x7_1 x8_1 x9_1 = some (r1, r2, r3, r4)) ∧ Aside0 (kq ≤ k) ∧ Aside0 (w'.heap[gb268]? = some (.cells #[.int .u32 x269000_1, .int .i64 x269001_1] 53 (0, 0))) ∧ Aside0 (Below w.heap.size w w'))
    case atStart => exact ⟨(0), (0), (0), (0), (0), (0), (0), (by first | rfl | (simp; done) | (simp [*]; done)), (by first | rfl | (simp; done) | (simp [*]; done)), (by first | rfl | (simp; done) | (simp [*]; done)), (by first | rfl | (simp; done) | (simp [*]; done)), (by first | rfl | (simp; done) | (simp [*]; done)), H', ⟨Nat.le_refl _⟩, ⟨by (with_reducible repeat (first | refine blk_drewN ?_ _ | refine blk_drew ?_ | refine blk_alloc ?_ _)); exact BK268.out⟩, ⟨by repeat (first | (with_reducible first | exact HB.out | apply below_alloc | apply pw_below_drewN | apply below_drew1 | refine below_set ?_ GE268.out) | exact HB.out)⟩⟩
    case round =>
      clear H'
      try clear p2
      try clear c3
      obtain ⟨x5_1, x6_1, x7_1, x8_1, x9_1, x269000_1, x269001_1, rfl, rfl, rfl, rfl, rfl, HA, HK1, BK268, HB⟩ := hrel
      cases gk with
      | zero => exact absurd HA.out (by simp [posternref20_ParsePrefix.l0])
      | succ k1 =>
        have H := HA.out
        clear HA
        simp only [posternref20_ParsePrefix.l0] at H
        by_cases c4 : x9_1 < (a0.size : Int)
        · rw [if_pos c4] at H
          have c4b0 : decide (x9_1 < (a0.size : Int)) = true := decide_eq_true c4
          clear c4
          (first | rw [c4b0] | (simp only [i64_w, i32_w]; rw [c4b0]) | skip)
          by_cases c5 : 0 ≤ x9_1
          · rw [if_pos c5] at H
            have c5b0 : decide (0 ≤ x9_1) = true := decide_eq_true c5
            clear c5
            replace H := Option.bind_eq_some_iff.mp H
            obtain ⟨t269, A70, H⟩ := H
            replace H : (if t269 ≥ 0 then (if x7_1 = 0 then (posternref20_ParsePrefix.j1 k1 a0 x5_1 x6_1 x7_1 x8_1 x9_1 t269 (decide ((wrap64 ((wrap64 (10 * x8_1)) + t269)) ≤ 255))) else (if x8_1 > 0 then (posternref20_ParsePrefix.j1 k1 a0 x5_1 x6_1 x7_1 x8_1 x9_1 t269 (decide ((wrap64 ((wrap64 (10 * x8_1)) + t269)) ≤ 255))) else (posternref20_ParsePrefix.j1 k1 a0 x5_1 x6_1 x7_1 x8_1 x9_1 t269 false))) else (posternref20_ParsePrefix.j1 k1 a0 x5_1 x6_1 x7_1 x8_1 x9_1 t269 false)) = some (r1, r2, r3, r4) := H
            have A7 := Aside0.mk A70
            clear A70
            have HC8 := Aside0.mk H
            clear H
            have p6 : 0 ≤ (x9_1 : Int) := of_decide_eq_true (by first | (with_reducible assumption) | assumption)
            have q6 : x9_1 < (a0.size : Int) := of_decide_eq_true (by first | (with_reducible assumption) | assumption)
            have hx6 := bt_at a0 x9_1
            replace p6 := eq_true p6
            replace q6 := eq_true q6
            go_upto_region 6 with (first | ((with_reducible refine gate_callee (f := 45) rfl ?_); refine goesL_ (some 23) rfl rfl Tryd.func45 (by kernel_rfl) rfl #[.int .u8 (bt a0 x9_1), .int .i64 10] rfl (by (try simp only [List.map_toArray, List.map_cons, List.map_nil]); first | done | rfl | (simp only [List.length_drop, List.length_take]; rfl)) ?_; (with_reducible refine (posternref20_digit.calls k1 (bt a0 x9_1) 10 t269 _ A7.out).mono ?_); rintro e w' ⟨rfl, ⟨nd, rfl⟩⟩; refine ⟨_, rfl, ?_⟩))
            (try simp only [Act.put, List.setIfInBounds_toArray, List.set_cons_zero, List.set_cons_succ])
            go_cut [40] (fun v40 wc => ∃ (kq : Nat) (x40_7 : Bool), v40 = .bool x40_7 ∧ Aside0 (posternref20_ParsePrefix.j1 kq a0 x5_1 x6_1 x7_1 x8_1 x9_1 t269 x40_7 = some (r1, r2, r3, r4)) ∧ Aside0 (kq ≤ k1) ∧ Aside0 (wc.heap[gb268]? = some (.cells #[.int .u32 x269000_1, .int .i64 x269001_1] 53 (0, 0))) ∧ Aside0 (Below w.heap.size w wc))
            case first =>
              have H := HC8.out
              clear HC8
              by_cases c9 : t269 ≥ 0
              · rw [if_pos c9] at H
                have c9b0 : decide (0 ≤ t269) = true := decide_eq_true c9
                clear c9
                (first | rw [c9b0] | (simp only [i64_w, i32_w]; rw [c9b0]) | skip)
                by_cases c10 : x7_1 = 0
                · rw [if_pos c10] at H
                  have c10b0 : (x7_1 == 0) = true := beq_iff_eq.mpr c10
                  have c10b1 : (x7_1 != 0) = false := bne_eq_false_iff_eq.mpr c10
                  clear c10
                  have H' := Aside0.mk H
                  clear H
                  go_wp2
                  go_meet
                  case rel => exact ⟨_, (decide ((wrap64 ((wrap64 (10 * x8_1)) + t269)) ≤ 255)), (by first | rfl | (simp; done) | (simp [*]; done)), H', ⟨by have := HK1.out; first | omega | exact Nat.le_refl _⟩, ⟨by (with_reducible repeat (first | refine blk_drewN ?_ _ | refine blk_drew ?_ | refine blk_alloc ?_ _)); exact BK268.out⟩, ⟨by repeat (first | (with_reducible first | exact HB.out | apply below_alloc | apply pw_below_drewN | apply below_drew1 | refine below_set ?_ GE268.out) | exact HB.out)⟩⟩
                · rw [if_neg c10] at H
                  have c10b0 : (x7_1 == 0) = false := beq_eq_false_iff_ne.mpr c10
                  have c10b1 : (x7_1 != 0) = true := bne_iff_ne.mpr c10
                  by_cases c11 : x8_1 > 0
                  · rw [if_pos c11] at H
                    have c11b0 : decide (0 < x8_1) = true := decide_eq_true c11
                    clear c11
                    have H' := Aside0.mk H
                    clear H
                    go_wp2
                    go_meet
                    case rel => exact ⟨_, (decide ((wrap64 ((wrap64 (10 * x8_1)) + t269)) ≤ 255)), (by first | rfl | (simp; done) | (simp [*]; done)), H', ⟨by have := HK1.out; first | omega | exact Nat.le_refl _⟩, ⟨by (with_reducible repeat (first | refine blk_drewN ?_ _ | refine blk_drew ?_ | refine blk_alloc ?_ _)); exact BK268.out⟩, ⟨by repeat (first | (with_reducible first | exact HB.out | apply below_alloc | apply pw_below_drewN | apply below_drew1 | refine below_set ?_ GE268.out) | exact HB.out)⟩⟩
                  · rw [if_neg c11] at H
                    have c11b0 : decide (0 < x8_1) = false := decide_eq_false c11
                    clear c11
                    have H' := Aside0.mk H
                    clear H
                    go_wp2
                    go_meet
                    case rel => exact ⟨_, (false), (by first | rfl | (simp; done) | (simp [*]; done)), H', ⟨by have := HK1.out; first | omega | exact Nat.le_refl _⟩, ⟨by (with_reducible repeat (first | refine blk_drewN ?_ _ | refine blk_drew ?_ | refine blk_alloc ?_ _)); exact BK268.out⟩, ⟨by repeat (first | (with_reducible first | exact HB.out | apply below_alloc | apply pw_below_drewN | apply below_drew1 | refine below_set ?_ GE268.out) | exact HB.out)⟩⟩
              · rw [if_neg c9] at H
                have c9b0 : decide (0 ≤ t269) = false := decide_eq_false c9
                clear c9
                (first | rw [c9b0] | (simp only [i64_w, i32_w]; rw [c9b0]) | skip)
                have H' := Aside0.mk H
                clear H
                go_wp2
                go_meet
                case rel => exact ⟨_, (false), (by first | rfl | (simp; done) | (simp [*]; done)), H', ⟨by have := HK1.out; first | omega | exact Nat.le_refl _⟩, ⟨by (with_reducible repeat (first | refine blk_drewN ?_ _ | refine blk_drew ?_ | refine blk_alloc ?_ _)); exact BK268.out⟩, ⟨by repeat (first | (with_reducible first | exact HB.out | apply below_alloc | apply pw_below_drewN | apply below_drew1 | refine below_set ?_ GE268.out) | exact HB.out)⟩⟩
            case rest =>
              clear HC8
              try clear c1
              try clear p2
              try clear c3
              try clear c4
              try clear c4b0
              try clear c5
              try clear c5b0
              try clear p6
              try clear q6
              try clear hx6
              try clear c9
              try clear c9b0
              try clear c10
              try clear c10b0
              try clear c10b1
              try clear c11
              try clear c11b0
              try clear p2
              try clear p6
              try clear q6
              obtain ⟨kq, x40_7, rfl, HA, HJ7, BK268, HB⟩ := hcut
              cases kq with
              | zero => exact absurd HA.out (by simp [posternref20_ParsePrefix.j1])
              | succ kj7 =>
                have H := HA.out
                clear HA
                simp only [posternref20_ParsePrefix.j1] at H
                by_cases c12 : x40_7 = true
                · subst c12
                  have H1 : (posternref20_ParsePrefix.l0 kj7 a0 x5_1 x6_1 (wrap64 (x7_1 + 1)) (wrap64 ((wrap64 (10 * x8_1)) + t269)) (wrap64 (x9_1 + 1))) = some (r1, r2, r3, r4) := by rw [if_pos rfl] at H; exact H
                  clear H
                  have H := H1
                  clear H1
                  have H' := Aside0.mk H
                  clear H
                  go_wp2
                  go_roundg kj7
                  case measure => have := HK1.out; have := HJ7.out; omega
                  case rel => exact ⟨(x5_1), (x6_1), (wrap64 (x7_1 + 1)), (wrap64 ((wrap64 (10 * x8_1)) + t269)), (wrap64 (x9_1 + 1)), (x269000_1), (x269001_1), (by first | rfl | (simp; done) | (simp [*]; done)), (by first | rfl | (simp; done) | (simp [*]; done)), (by first | rfl | (simp; done) | (simp [*]; done)), (by first | rfl | (simp; done) | (simp [*]; done)), (by first | rfl | (simp; done) | (simp [*]; done)), H', ⟨by have := HK1.out; have := HJ7.out; omega⟩, ⟨by (with_reducible repeat (first | refine blk_drewN ?_ _ | refine blk_drew ?_ | refine blk_alloc ?_ _)); exact BK268.out⟩, ⟨by repeat (first | (with_reducible first | exact HB.out | apply below_alloc | apply pw_below_drewN | apply below_drew1 | refine below_set ?_ GE268.out) | exact HB.out)⟩⟩
                · replace c12 := Bool.eq_false_iff.mpr c12
                  subst c12
                  have H1 : (if 0 ≤ x9_1 then (if x9_1 < (a0.size : Int) then (if (bt a0 x9_1) = 46 then (if x7_1 > 0 then (posternref20_ParsePrefix.j2 kj7 a0 x5_1 x6_1 x7_1 x8_1 x9_1 (decide (x6_1 < 3))) else (posternref20_ParsePrefix.j2 kj7 a0 x5_1 x6_1 x7_1 x8_1 x9_1 false)) else (posternref20_ParsePrefix.j2 kj7 a0 x5_1 x6_1 x7_1 x8_1 x9_1 false)) else (none)) else (none)) = some (r1, r2, r3, r4) := by rw [if_neg (show ¬ (false = true) by decide)] at H; exact H
                  clear H
                  have H := H1
                  clear H1
                  have HC13 := Aside0.mk H
                  clear H
                  go_upto_region 9 with (fail)
                  go_cut [58] (fun v58 wc => ∃ (kq : Nat) (x58_12 : Bool), v58 = .bool x58_12 ∧ Aside0 (posternref20_ParsePrefix.j2 kq a0 x5_1 x6_1 x7_1 x8_1 x9_1 x58_12 = some (r1, r2, r3, r4)) ∧ Aside0 (kq ≤ kj7) ∧ Aside0 (wc.heap[gb268]? = some (.cells #[.int .u32 x269000_1, .int .i64 x269001_1] 53 (0, 0))) ∧ Aside0 (Below w.heap.size w wc))
                  case first =>
                    have H := HC13.out
                    clear HC13
                    by_cases c14 : 0 ≤ x9_1
                    · rw [if_pos c14] at H
                      have c14b0 : decide (0 ≤ x9_1) = true := decide_eq_true c14
                      clear c14
                      (first | rw [c14b0] | (simp only [i64_w, i32_w]; rw [c14b0]) | skip)
                      by_cases c15 : x9_1 < (a0.size : Int)
                      · rw [if_pos c15] at H
                        have c15b0 : decide (x9_1 < (a0.size : Int)) = true := decide_eq_true c15
                        clear c15
                        by_cases c17 : (bt a0 x9_1) = 46
                        · rw [if_pos c17] at H
                          have c17b0 : ((bt a0 x9_1) == 46) = true := beq_iff_eq.mpr c17
                          have c17b1 : ((bt a0 x9_1) != 46) = false := bne_eq_false_iff_eq.mpr c17
                          clear c17
                          by_cases c18 : x7_1 > 0
                          · rw [if_pos c18] at H
                            have c18b0 : decide (0 < x7_1) = true := decide_eq_true c18
                            clear c18
                            have H' := Aside0.mk H
                            clear H
                            have p16 : 0 ≤ (x9_1 : Int) := of_decide_eq_true (by first | (with_reducible assumption) | assumption)
                            have q16 : x9_1 < (a0.size : Int) := of_decide_eq_true (by first | (with_reducible assumption) | assumption)
                            have hx16 := bt_at a0 x9_1
                            replace p16 := eq_true p16
                            replace q16 := eq_true q16
                            go_wp2
                            go_meet
                            case rel => exact ⟨_, (decide (x6_1 < 3)), (by first | rfl | (simp; done) | (simp [*]; done)), H', ⟨by have := HK1.out; have := HJ7.out; first | omega | exact Nat.le_refl _⟩, ⟨by (with_reducible repeat (first | refine blk_drewN ?_ _ | refine blk_drew ?_ | refine blk_alloc ?_ _)); exact BK268.out⟩, ⟨by repeat (first | (with_reducible first | exact HB.out | apply below_alloc | apply pw_below_drewN | apply below_drew1 | refine below_set ?_ GE268.out) | exact HB.out)⟩⟩
                          · rw [if_neg c18] at H
                            have c18b0 : decide (0 < x7_1) = false := decide_eq_false c18
                            clear c18
                            have H' := Aside0.mk H
                            clear H
                            have p16 : 0 ≤ (x9_1 : Int) := of_decide_eq_true (by first | (with_reducible assumption) | assumption)
                            have q16 : x9_1 < (a0.size : Int) := of_decide_eq_true (by first | (with_reducible assumption) | assumption)
                            have hx16 := bt_at a0 x9_1
                            replace p16 := eq_true p16
                            replace q16 := eq_true q16
                            go_wp2
                            go_meet
                            case rel => exact ⟨_, (false), (by first | rfl | (simp; done) | (simp [*]; done)), H', ⟨by have := HK1.out; have := HJ7.out; first | omega | exact Nat.le_refl _⟩, ⟨by (with_reducible repeat (first | refine blk_drewN ?_ _ | refine blk_drew ?_ | refine blk_alloc ?_ _)); exact BK268.out⟩, ⟨by repeat (first | (with_reducible first | exact HB.out | apply below_alloc | apply pw_below_drewN | apply below_drew1 | refine below_set ?_ GE268.out) | exact HB.out)⟩⟩
                        · rw [if_neg c17] at H
                          have c17b0 : ((bt a0 x9_1) == 46) = false := beq_eq_false_iff_ne.mpr c17
                          have c17b1 : ((bt a0 x9_1) != 46) = true := bne_iff_ne.mpr c17
                          have H' := Aside0.mk H
                          clear H
                          have p16 : 0 ≤ (x9_1 : Int) := of_decide_eq_true (by first | (with_reducible assumption) | assumption)
                          have q16 : x9_1 < (a0.size : Int) := of_decide_eq_true (by first | (with_reducible assumption) | assumption)
                          have hx16 := bt_at a0 x9_1
                          replace p16 := eq_true p16
                          replace q16 := eq_true q16
                          go_wp2
                          go_meet
                          case rel => exact ⟨_, (false), (by first | rfl | (simp; done) | (simp [*]; done)), H', ⟨by have := HK1.out; have := HJ7.out; first | omega | exact Nat.le_refl _⟩, ⟨by (with_reducible repeat (first | refine blk_drewN ?_ _ | refine blk_drew ?_ | refine blk_alloc ?_ _)); exact BK268.out⟩, ⟨by repeat (first | (with_reducible first | exact HB.out | apply below_alloc | apply pw_below_drewN | apply below_drew1 | refine below_set ?_ GE268.out) | exact HB.out)⟩⟩
                      · rw [if_neg c15] at H
                        exact absurd H (by simp)
                    · rw [if_neg c14] at H
                      exact absurd H (by simp)
                  case rest =>
                    clear HC13
                    try clear c1
                    try clear p1
                    try clear q1
                    try clear hx1
                    try clear p2
                    try clear c3
                    try clear c4
                    try clear c4b0
                    try clear c5
                    try clear c5b0
                    try clear p6
                    try clear q6
                    try clear hx6
                    try clear c9
                    try clear c9b0
                    try clear c10
                    try clear c10b0
                    try clear c10b1
                    try clear c11
                    try clear c11b0
                    try clear c12
                    try clear c14
                    try clear c14b0
                    try clear c15
                    try clear c15b0
                    try clear p16
                    try clear q16
                    try clear hx16
                    try clear c17
                    try clear c17b0
                    try clear c17b1
                    try clear c18
                    try clear c18b0
                    try clear p16
                    try clear p2
                    try clear p6
                    try clear q16
                    try clear q6
                    obtain ⟨kq, x58_12, rfl, HA, HJ12, BK268, HB⟩ := hcut
                    cases kq with
                    | zero => exact absurd HA.out (by simp [posternref20_ParsePrefix.j2])
                    | succ kj12 =>
                      have H := HA.out
                      clear HA
                      simp only [posternref20_ParsePrefix.j2] at H
                      by_cases c19 : x58_12 = true
                      · subst c19
                        have H1 : (posternref20_ParsePrefix.l0 kj12 a0 ((((256 * x5_1) % 4294967296) + ((x8_1) % 4294967296)) % 4294967296) (wrap64 (x6_1 + 1)) 0 0 (wrap64 (x9_1 + 1))) = some (r1, r2, r3, r4) := by rw [if_pos rfl] at H; exact H
                        clear H
                        have H := H1
                        clear H1
                        have H' := Aside0.mk H
                        clear H
                        go_wp2
                        go_roundg kj12
                        case measure => have := HK1.out; have := HJ7.out; have := HJ12.out; omega
                        case rel => exact ⟨((((256 * x5_1) % 4294967296) + ((x8_1) % 4294967296)) % 4294967296), (wrap64 (x6_1 + 1)), (0), (0), (wrap64 (x9_1 + 1)), (x269000_1), (x269001_1), (by first | rfl | (simp; done) | (simp [*]; done)), (by first | rfl | (simp; done) | (simp [*]; done)), (by first | rfl | (simp; done) | (simp [*]; done)), (by first | rfl | (simp; done) | (simp [*]; done)), (by first | rfl | (simp; done) | (simp [*]; done)), H', ⟨by have := HK1.out; have := HJ7.out; have := HJ12.out; omega⟩, ⟨by (with_reducible repeat (first | refine blk_drewN ?_ _ | refine blk_drew ?_ | refine blk_alloc ?_ _)); exact BK268.out⟩, ⟨by repeat (first | (with_reducible first | exact HB.out | apply below_alloc | apply pw_below_drewN | apply below_drew1 | refine below_set ?_ GE268.out) | exact HB.out)⟩⟩
                      · replace c19 := Bool.eq_false_iff.mpr c19
                        subst c19
                        have H1 : (if 0 ≤ x9_1 then (if x9_1 < (a0.size : Int) then (if (bt a0 x9_1) = 47 then (if x7_1 > 0 then (if x6_1 = 3 then (posternref20_ParsePrefix.j3 kj12 a0 ((((256 * x5_1) % 4294967296) + ((x8_1) % 4294967296)) % 4294967296) x9_1) else (some (0, 0, x9_1, 204))) else (some (0, 0, x9_1, 204))) else (some (0, 0, x9_1, 204))) else (none)) else (none)) = some (r1, r2, r3, r4) := by rw [if_neg (show ¬ (false = true) by decide)] at H; exact H
                        clear H
                        have H := H1
                        clear H1
                        by_cases c20 : 0 ≤ x9_1
                        · rw [if_pos c20] at H
                          have c20b0 : decide (0 ≤ x9_1) = true := decide_eq_true c20
                          clear c20
                          by_cases c21 : x9_1 < (a0.size : Int)
                          · rw [if_pos c21] at H
                            have c21b0 : decide (x9_1 < (a0.size : Int)) = true := decide_eq_true c21
                            clear c21
                            by_cases c23 : (bt a0 x9_1) = 47
                            · rw [if_pos c23] at H
                              have c23b0 : ((bt a0 x9_1) == 47) = true := beq_iff_eq.mpr c23
                              have c23b1 : ((bt a0 x9_1) != 47) = false := bne_eq_false_iff_eq.mpr c23
                              clear c23
                              by_cases c24 : x7_1 > 0
                              · rw [if_pos c24] at H
                                have c24b0 : decide (0 < x7_1) = true := decide_eq_true c24
                                clear c24
                                by_cases c25 : x6_1 = 3
                                · rw [if_pos c25] at H
                                  have c25b0 : (x6_1 == 3) = true := beq_iff_eq.mpr c25
                                  have c25b1 : (x6_1 != 3) = false := bne_eq_false_iff_eq.mpr c25
                                  clear c25
                                  have H' := Aside0.mk H
                                  clear H
                                  have p22 : 0 ≤ (x9_1 : Int) := of_decide_eq_true (by first | (with_reducible assumption) | assumption)
                                  have q22 : x9_1 < (a0.size : Int) := of_decide_eq_true (by first | (with_reducible assumption) | assumption)
                                  have hx22 := bt_at a0 x9_1
                                  replace p22 := eq_true p22
                                  replace q22 := eq_true q22
                                  go_wp2
                                  go_meet
                                  case rel => exact ⟨_, ((((256 * x5_1) % 4294967296) + ((x8_1) % 4294967296)) % 4294967296), (x9_1), (x269000_1), (x269001_1), (by first | rfl | (simp; done) | (simp [*]; done)), (by first | rfl | (simp; done) | (simp [*]; done)), H', ⟨by have := HK1.out; have := HJ7.out; have := HJ12.out; first | omega | exact Nat.le_refl _⟩, ⟨by (with_reducible repeat (first | refine blk_drewN ?_ _ | refine blk_drew ?_ | refine blk_alloc ?_ _)); exact BK268.out⟩, ⟨by repeat (first | (with_reducible first | exact HB.out | apply below_alloc | apply pw_below_drewN | apply below_drew1 | refine below_set ?_ GE268.out) | exact HB.out)⟩⟩
                                · rw [if_neg c25] at H
                                  have c25b0 : (x6_1 == 3) = false := beq_eq_false_iff_ne.mpr c25
                                  have c25b1 : (x6_1 != 3) = true := bne_iff_ne.mpr c25
                                  simp only [Option.some.injEq, Prod.mk.injEq] at H
                                  obtain ⟨rfl, rfl, rfl, rfl⟩ := H
                                  have p22 : 0 ≤ (x9_1 : Int) := of_decide_eq_true (by first | (with_reducible assumption) | assumption)
                                  have q22 : x9_1 < (a0.size : Int) := of_decide_eq_true (by first | (with_reducible assumption) | assumption)
                                  have hx22 := bt_at a0 x9_1
                                  replace p22 := eq_true p22
                                  replace q22 := eq_true q22
                                  have hcz26_0 : wc.cell? ⟨gb268, 0, none⟩ = some (.int .u32 x269000_1) := (blk_cell BK268.out 0).trans rfl
                                  have hcz26_1 : wc.cell? ⟨gb268, 1, none⟩ = some (.int .i64 x269001_1) := (blk_cell BK268.out 1).trans rfl
                                  have hfz26_0 := blk_frozen BK268.out 0
                                  have hfz26_1 := blk_frozen BK268.out 1
                                  go_wp2
                                  refine bodyPost_ret (results_ctt rfl _ _ gb268 53 #[.int .u32 0, .int .i64 0] (0, 0) _ rfl (by (with_reducible repeat (first | refine blk_drewN ?_ _ | refine blk_drew ?_ | refine blk_alloc ?_ _)); refine blk_put (cs := #[.int .u32 0, .int .i64 x269001_1]) ?_ 1 _ rfl; (with_reducible repeat (first | refine blk_drewN ?_ _ | refine blk_drew ?_ | refine blk_alloc ?_ _)); refine blk_put (cs := #[.int .u32 x269000_1, .int .i64 x269001_1]) ?_ 0 _ rfl; (with_reducible repeat (first | refine blk_drewN ?_ _ | refine blk_drew ?_ | refine blk_alloc ?_ _)); exact BK268.out) Tryd.underlying53 rfl (by kernel_rfl)) rfl ?_
                                  exact ⟨by first | rfl | (simp [errW_none, errW_some] <;> rfl) | (simp [*, errW_none, errW_some] <;> rfl), by repeat (first | (with_reducible first | exact HB.out | apply below_alloc | apply pw_below_drewN | apply below_drew1 | refine below_set ?_ GE268.out) | exact HB.out)⟩
                              · rw [if_neg c24] at H
                                have c24b0 : decide (0 < x7_1) = false := decide_eq_false c24
                                clear c24
                                simp only [Option.some.injEq, Prod.mk.injEq] at H
                                obtain ⟨rfl, rfl, rfl, rfl⟩ := H
                                have p22 : 0 ≤ (x9_1 : Int) := of_decide_eq_true (by first | (with_reducible assumption) | assumption)
                                have q22 : x9_1 < (a0.size : Int) := of_decide_eq_true (by first | (with_reducible assumption) | assumption)
                                have hx22 := bt_at a0 x9_1
                                replace p22 := eq_true p22
                                replace q22 := eq_true q22
                                have hcz27_0 : wc.cell? ⟨gb268, 0, none⟩ = some (.int .u32 x269000_1) := (blk_cell BK268.out 0).trans rfl
                                have hcz27_1 : wc.cell? ⟨gb268, 1, none⟩ = some (.int .i64 x269001_1) := (blk_cell BK268.out 1).trans rfl
                                have hfz27_0 := blk_frozen BK268.out 0
                                have hfz27_1 := blk_frozen BK268.out 1
                                go_wp2
                                refine bodyPost_ret (results_ctt rfl _ _ gb268 53 #[.int .u32 0, .int .i64 0] (0, 0) _ rfl (by (with_reducible repeat (first | refine blk_drewN ?_ _ | refine blk_drew ?_ | refine blk_alloc ?_ _)); refine blk_put (cs := #[.int .u32 0, .int .i64 x269001_1]) ?_ 1 _ rfl; (with_reducible repeat (first | refine blk_drewN ?_ _ | refine blk_drew ?_ | refine blk_alloc ?_ _)); refine blk_put (cs := #[.int .u32 x269000_1, .int .i64 x269001_1]) ?_ 0 _ rfl; (with_reducible repeat (first | refine blk_drewN ?_ _ | refine blk_drew ?_ | refine blk_alloc ?_ _)); exact BK268.out) Tryd.underlying53 rfl (by kernel_rfl)) rfl ?_
                                exact ⟨by first | rfl | (simp [errW_none, errW_some] <;> rfl) | (simp [*, errW_none, errW_some] <;> rfl), by repeat (first | (with_reducible first | exact HB.out | apply below_alloc | apply pw_below_drewN | apply below_drew1 | refine below_set ?_ GE268.out) | exact HB.out)⟩
                            · rw [if_neg c23] at H
                              have c23b0 : ((bt a0 x9_1) == 47) = false := beq_eq_false_iff_ne.mpr c23
                              have c23b1 : ((bt a0 x9_1) != 47) = true := bne_iff_ne.mpr c23
                              simp only [Option.some.injEq, Prod.mk.injEq] at H
                              obtain ⟨rfl, rfl, rfl, rfl⟩ := H
                              have p22 : 0 ≤ (x9_1 : Int) := of_decide_eq_true (by first | (with_reducible assumption) | assumption)
                              have q22 : x9_1 < (a0.size : Int) := of_decide_eq_true (by first | (with_reducible assumption) | assumption)
                              have hx22 := bt_at a0 x9_1
                              replace p22 := eq_true p22
                              replace q22 := eq_true q22
                              have hcz28_0 : wc.cell? ⟨gb268, 0, none⟩ = some (.int .u32 x269000_1) := (blk_cell BK268.out 0).trans rfl
                              have hcz28_1 : wc.cell? ⟨gb268, 1, none⟩ = some (.int .i64 x269001_1) := (blk_cell BK268.out 1).trans rfl
                              have hfz28_0 := blk_frozen BK268.out 0
                              have hfz28_1 := blk_frozen BK268.out 1
                              go_wp2
                              refine bodyPost_ret (results_ctt rfl _ _ gb268 53 #[.int .u32 0, .int .i64 0] (0, 0) _ rfl (by (with_reducible repeat (first | refine blk_drewN ?_ _ | refine blk_drew ?_ | refine blk_alloc ?_ _)); refine blk_put (cs := #[.int .u32 0, .int .i64 x269001_1]) ?_ 1 _ rfl; (with_reducible repeat (first | refine blk_drewN ?_ _ | refine blk_drew ?_ | refine blk_alloc ?_ _)); refine blk_put (cs := #[.int .u32 x269000_1, .int .i64 x269001_1]) ?_ 0 _ rfl; (with_reducible repeat (first | refine blk_drewN ?_ _ | refine blk_drew ?_ | refine blk_alloc ?_ _)); exact BK268.out) Tryd.underlying53 rfl (by kernel_rfl)) rfl ?_
                              exact ⟨by first | rfl | (simp [errW_none, errW_some] <;> rfl) | (simp [*, errW_none, errW_some] <;> rfl), by repeat (first | (with_reducible first | exact HB.out | apply below_alloc | apply pw_below_drewN | apply below_drew1 | refine below_set ?_ GE268.out) | exact HB.out)⟩
                          · rw [if_neg c21] at H
                            exact absurd H (by simp)
                        · rw [if_neg c20] at H
                          exact absurd H (by simp)
          · rw [if_neg c5] at H
            exact absurd H (by simp)
        · rw [if_neg c4] at H
          have c4b0 : decide (x9_1 < (a0.size : Int)) = false := decide_eq_false c4
          clear c4
          (first | rw [c4b0] | (simp only [i64_w, i32_w]; rw [c4b0]) | skip)
          have H' := Aside0.mk H
          clear H
          go_wp2
          go_meet
          case rel => exact ⟨_, (x5_1), (x9_1), (x269000_1), (x269001_1), (by first | rfl | (simp; done) | (simp [*]; done)), (by first | rfl | (simp; done) | (simp [*]; done)), H', ⟨by have := HK1.out; first | omega | exact Nat.le_refl _⟩, ⟨by (with_reducible repeat (first | refine blk_drewN ?_ _ | refine blk_drew ?_ | refine blk_alloc ?_ _)); exact BK268.out⟩, ⟨by repeat (first | (with_reducible first | exact HB.out | apply below_alloc | apply pw_below_drewN | apply below_drew1 | refine below_set ?_ GE268.out) | exact HB.out)⟩⟩
  case rest =>
    clear HC2
    try clear c1
    try clear p1
    try clear q1
    try clear hx1
    try clear c2
    try clear p2
    try clear q2
    try clear hx2
    try clear c3
    try clear c4
    try clear c4b0
    try clear c5
    try clear c5b0
    try clear p6
    try clear q6
    try clear hx6
    try clear c9
    try clear c9b0
    try clear c10
    try clear c10b0
    try clear c10b1
    try clear c11
    try clear c11b0
    try clear c12
    try clear c14
    try clear c14b0
    try clear c15
    try clear c15b0
    try clear p16
    try clear q16
    try clear hx16
    try clear c17
    try clear c17b0
    try clear c17b1
    try clear c18
    try clear c18b0
    try clear c19
    try clear c20
    try clear c20b0
    try clear c21
    try clear c21b0
    try clear p22
    try clear q22
    try clear hx22
    try clear c23
    try clear c23b0
    try clear c23b1
    try clear c24
    try clear c24b0
    try clear c25
    try clear c25b0
    try clear c25b1
    try clear hcz26_0
    try clear hcz26_1
    try clear hcz27_0
    try clear hcz27_1
    try clear hcz28_0
    try clear hcz28_1
    try clear hfz26_0
    try clear hfz26_1
    try clear hfz27_0
    try clear hfz27_1
    try clear hfz28_0
    try clear hfz28_1
    try clear p1
    try clear p16
    try clear p2
    try clear p22
    try clear p6
    try clear q1
    try clear q16
    try clear q22
    try clear q6
    obtain ⟨kq, x5_1, x9_1, x269000_1, x269001_1, rfl, rfl, HA, HJ1, BK268, HB⟩ := hcut
    cases kq with
    | zero => exact absurd HA.out (by simp [posternref20_ParsePrefix.j3])
    | succ kj1 =>
      have H := HA.out
      clear HA
      simp only [posternref20_ParsePrefix.j3] at H
      by_cases c29 : x9_1 = (a0.size : Int)
      · rw [if_pos c29] at H
        have c29b0 : (x9_1 == (a0.size : Int)) = true := beq_iff_eq.mpr c29
        have c29b1 : (x9_1 != (a0.size : Int)) = false := bne_eq_false_iff_eq.mpr c29
        clear c29
        simp only [Option.some.injEq, Prod.mk.injEq] at H
        obtain ⟨rfl, rfl, rfl, rfl⟩ := H
        have hcz30_0 : wc.cell? ⟨gb268, 0, none⟩ = some (.int .u32 x269000_1) := (blk_cell BK268.out 0).trans rfl
        have hcz30_1 : wc.cell? ⟨gb268, 1, none⟩ = some (.int .i64 x269001_1) := (blk_cell BK268.out 1).trans rfl
        have hfz30_0 := blk_frozen BK268.out 0
        have hfz30_1 := blk_frozen BK268.out 1
        go_wp2
        refine bodyPost_ret (results_ctt rfl _ _ gb268 53 #[.int .u32 0, .int .i64 0] (0, 0) _ rfl (by (with_reducible repeat (first | refine blk_drewN ?_ _ | refine blk_drew ?_ | refine blk_alloc ?_ _)); refine blk_put (cs := #[.int .u32 0, .int .i64 x269001_1]) ?_ 1 _ rfl; (with_reducible repeat (first | refine blk_drewN ?_ _ | refine blk_drew ?_ | refine blk_alloc ?_ _)); refine blk_put (cs := #[.int .u32 x269000_1, .int .i64 x269001_1]) ?_ 0 _ rfl; (with_reducible repeat (first | refine blk_drewN ?_ _ | refine blk_drew ?_ | refine blk_alloc ?_ _)); exact BK268.out) Tryd.underlying53 rfl (by kernel_rfl)) rfl ?_
        exact ⟨by first | rfl | (simp [errW_none, errW_some] <;> rfl) | (simp [*, errW_none, errW_some] <;> rfl), by repeat (first | (with_reducible first | exact HB.out | apply below_alloc | apply pw_below_drewN | apply below_drew1 | refine below_set ?_ GE268.out) | exact HB.out)⟩
      · rw [if_neg c29] at H
        have c29b0 : (x9_1 == (a0.size : Int)) = false := beq_eq_false_iff_ne.mpr c29
        have c29b1 : (x9_1 != (a0.size : Int)) = true := bne_iff_ne.mpr c29
        have H' := Aside0.mk H
        clear H
        go_wp2
        go_loopg [7, 9, 11] kj1 (fun kq v7 v9 v11 w' => ∃ (x7_2 : Int) (x9_2 : Int) (x11_2 : Int) (x269000_2 : Int) (x269001_2 : Int), v7 = .int .i64 x7_2 ∧ v9 = .int .i64 x9_2 ∧ v11 = .int .i64 x11_2 ∧ Aside0 (posternref20_ParsePrefix.l1 kq a0 x5_1 x7_2 x9_2 x11_2 = some (r1, r2, r3, r4)) ∧ Aside0 (kq ≤ kj1) ∧ Aside0 (w'.heap[gb268]? = some (.cells #[.int .u32 x269000_2, .int .i64 x269001_2] 53 (0, 0))) ∧ Aside0 (Below w.heap.size w w'))
        case atStart => exact ⟨(0), (wrap64 (x9_1 + 1)), (0), (x269000_1), (x269001_1), (by first | rfl | (simp; done) | (simp [*]; done)), (by first | rfl | (simp; done) | (simp [*]; done)), (by first | rfl | (simp; done) | (simp [*]; done)), H', ⟨Nat.le_refl _⟩, ⟨by (with_reducible repeat (first | refine blk_drewN ?_ _ | refine blk_drew ?_ | refine blk_alloc ?_ _)); exact BK268.out⟩, ⟨by repeat (first | (with_reducible first | exact HB.out | apply below_alloc | apply pw_below_drewN | apply below_drew1 | refine below_set ?_ GE268.out) | exact HB.out)⟩⟩
        case round =>
          clear H'
          try clear c1
          try clear p1
          try clear q1
          try clear hx1
          try clear c2
          try clear p2
          try clear q2
          try clear hx2
          try clear c3
          try clear c4
          try clear c4b0
          try clear c5
          try clear c5b0
          try clear p6
          try clear q6
          try clear hx6
          try clear c9
          try clear c9b0
          try clear c10
          try clear c10b0
          try clear c10b1
          try clear c11
          try clear c11b0
          try clear c12
          try clear c14
          try clear c14b0
          try clear c15
          try clear c15b0
          try clear p16
          try clear q16
          try clear hx16
          try clear c17
          try clear c17b0
          try clear c17b1
          try clear c18
          try clear c18b0
          try clear c19
          try clear c20
          try clear c20b0
          try clear c21
          try clear c21b0
          try clear p22
          try clear q22
          try clear hx22
          try clear c23
          try clear c23b0
          try clear c23b1
          try clear c24
          try clear c24b0
          try clear c25
          try clear c25b0
          try clear c25b1
          try clear c29
          try clear c29b0
          try clear c29b1
          try clear hcz26_0
          try clear hcz26_1
          try clear hcz27_0
          try clear hcz27_1
          try clear hcz28_0
          try clear hcz28_1
          try clear hcz30_0
          try clear hcz30_1
          try clear hfz26_0
          try clear hfz26_1
          try clear hfz27_0
          try clear hfz27_1
          try clear hfz28_0
          try clear hfz28_1
          try clear hfz30_0
          try clear hfz30_1
          try clear p1
          try clear p16
          try clear p2
          try clear p22
          try clear p6
          try clear q1
          try clear q16
          try clear q2
          try clear q22
          try clear q6
          obtain ⟨x7_2, x9_2, x11_2, x269000_2, x269001_2, rfl, rfl, rfl, HA, HK2, BK268, HB⟩ := hrel
          cases gk with
          | zero => exact absurd HA.out (by simp [posternref20_ParsePrefix.l1])
          | succ k2 =>
            have H := HA.out
            clear HA
            simp only [posternref20_ParsePrefix.l1] at H
            by_cases c31 : x9_2 < (a0.size : Int)
            · rw [if_pos c31] at H
              have c31b0 : decide (x9_2 < (a0.size : Int)) = true := decide_eq_true c31
              clear c31
              by_cases c32 : 0 ≤ x9_2
              · rw [if_pos c32] at H
                have c32b0 : decide (0 ≤ x9_2) = true := decide_eq_true c32
                clear c32
                replace H := Option.bind_eq_some_iff.mp H
                obtain ⟨t270, A340, H⟩ := H
                replace H : (if t270 < 0 then (some (0, 0, x9_2, 204)) else (if x7_2 > 0 then (if x11_2 = 0 then (some (0, 0, x9_2, 204)) else (if (wrap64 ((wrap64 (10 * x11_2)) + t270)) > 32 then (some (0, 0, x9_2, 204)) else (posternref20_ParsePrefix.l1 k2 a0 x5_1 (wrap64 (x7_2 + 1)) (wrap64 (x9_2 + 1)) (wrap64 ((wrap64 (10 * x11_2)) + t270))))) else (if (wrap64 ((wrap64 (10 * x11_2)) + t270)) > 32 then (some (0, 0, x9_2, 204)) else (posternref20_ParsePrefix.l1 k2 a0 x5_1 (wrap64 (x7_2 + 1)) (wrap64 (x9_2 + 1)) (wrap64 ((wrap64 (10 * x11_2)) + t270)))))) = some (r1, r2, r3, r4) := H
                have A34 := Aside0.mk A340
                clear A340
                by_cases c35 : t270 < 0
                · rw [if_pos c35] at H
                  have c35b0 : decide (t270 < 0) = true := decide_eq_true c35
                  clear c35
                  simp only [Option.some.injEq, Prod.mk.injEq] at H
                  obtain ⟨rfl, rfl, rfl, rfl⟩ := H
                  have p33 : 0 ≤ (x9_2 : Int) := of_decide_eq_true (by first | (with_reducible assumption) | assumption)
                  have q33 : x9_2 < (a0.size : Int) := of_decide_eq_true (by first | (with_reducible assumption) | assumption)
                  have hx33 := bt_at a0 x9_2
                  replace p33 := eq_true p33
                  replace q33 := eq_true q33
                  go_wp2_with (first | ((with_reducible refine gate_callee (f := 45) rfl ?_); refine goesL_ (some 103) rfl rfl Tryd.func45 (by kernel_rfl) rfl #[.int .u8 (bt a0 x9_2), .int .i64 10] rfl (by (try simp only [List.map_toArray, List.map_cons, List.map_nil]); first | done | rfl | (simp only [List.length_drop, List.length_take]; rfl)) ?_; (with_reducible refine (posternref20_digit.calls k2 (bt a0 x9_2) 10 t270 _ A34.out).mono ?_); rintro e w' ⟨rfl, ⟨nd, rfl⟩⟩; refine ⟨_, rfl, ?_⟩; (try (rw [drewN_self wr]; generalize hq_ : World.drewN wr _ = wr; have n0_ : Aside0 (wr.heap[gb268]? = some (.cells #[.int .u32 x269000_2, .int .i64 x269001_2] 53 (0, 0))) := ⟨by rw [← hq_]; exact (by (with_reducible repeat (first | refine blk_drewN ?_ _ | refine blk_drew ?_ | refine blk_alloc ?_ _)); exact BK268.out)⟩; have n1_ : Aside0 (Below w.heap.size w wr) := ⟨by rw [← hq_]; exact (by repeat (first | (with_reducible first | exact HB.out | apply below_alloc | apply pw_below_drewN | apply below_drew1 | refine below_set ?_ GE268.out) | exact HB.out))⟩; clear BK268 HB hq_; have BK268 := n0_; have HB := n1_; clear n0_ n1_)); have hcz36_0 : wr.cell? ⟨gb268, 0, none⟩ = some (.int .u32 x269000_2) := (blk_cell BK268.out 0).trans rfl; have hcz36_1 : wr.cell? ⟨gb268, 1, none⟩ = some (.int .i64 x269001_2) := (blk_cell BK268.out 1).trans rfl; have hfz36_0 := blk_frozen BK268.out 0; have hfz36_1 := blk_frozen BK268.out 1))
                  refine bodyPost_ret (results_ctt rfl _ _ gb268 53 #[.int .u32 0, .int .i64 0] (0, 0) _ rfl (by (with_reducible repeat (first | refine blk_drewN ?_ _ | refine blk_drew ?_ | refine blk_alloc ?_ _)); refine blk_put (cs := #[.int .u32 0, .int .i64 x269001_2]) ?_ 1 _ rfl; (with_reducible repeat (first | refine blk_drewN ?_ _ | refine blk_drew ?_ | refine blk_alloc ?_ _)); refine blk_put (cs := #[.int .u32 x269000_2, .int .i64 x269001_2]) ?_ 0 _ rfl; (with_reducible repeat (first | refine blk_drewN ?_ _ | refine blk_drew ?_ | refine blk_alloc ?_ _)); exact BK268.out) Tryd.underlying53 rfl (by kernel_rfl)) rfl ?_
                  exact ⟨by first | rfl | (simp [errW_none, errW_some] <;> rfl) | (simp [*, errW_none, errW_some] <;> rfl), by repeat (first | (with_reducible first | exact HB.out | apply below_alloc | apply pw_below_drewN | apply below_drew1 | refine below_set ?_ GE268.out) | exact HB.out)⟩
                · rw [if_neg c35] at H
                  have c35b0 : decide (t270 < 0) = false := decide_eq_false c35
                  clear c35
                  by_cases c37 : x7_2 > 0
                  · rw [if_pos c37] at H
                    have c37b0 : decide (0 < x7_2) = true := decide_eq_true c37
                    clear c37
                    by_cases c38 : x11_2 = 0
                    · rw [if_pos c38] at H
                      have c38b0 : (x11_2 == 0) = true := beq_iff_eq.mpr c38
                      have c38b1 : (x11_2 != 0) = false := bne_eq_false_iff_eq.mpr c38
                      clear c38
                      simp only [Option.some.injEq, Prod.mk.injEq] at H
                      obtain ⟨rfl, rfl, rfl, rfl⟩ := H
                      have p33 : 0 ≤ (x9_2 : Int) := of_decide_eq_true (by first | (with_reducible assumption) | assumption)
                      have q33 : x9_2 < (a0.size : Int) := of_decide_eq_true (by first | (with_reducible assumption) | assumption)
                      have hx33 := bt_at a0 x9_2
                      replace p33 := eq_true p33
                      replace q33 := eq_true q33
                      go_wp2_with (first | ((with_reducible refine gate_callee (f := 45) rfl ?_); refine goesL_ (some 103) rfl rfl Tryd.func45 (by kernel_rfl) rfl #[.int .u8 (bt a0 x9_2), .int .i64 10] rfl (by (try simp only [List.map_toArray, List.map_cons, List.map_nil]); first | done | rfl | (simp only [List.length_drop, List.length_take]; rfl)) ?_; (with_reducible refine (posternref20_digit.calls k2 (bt a0 x9_2) 10 t270 _ A34.out).mono ?_); rintro e w' ⟨rfl, ⟨nd, rfl⟩⟩; refine ⟨_, rfl, ?_⟩; (try (rw [drewN_self wr]; generalize hq_ : World.drewN wr _ = wr; have n0_ : Aside0 (wr.heap[gb268]? = some (.cells #[.int .u32 x269000_2, .int .i64 x269001_2] 53 (0, 0))) := ⟨by rw [← hq_]; exact (by (with_reducible repeat (first | refine blk_drewN ?_ _ | refine blk_drew ?_ | refine blk_alloc ?_ _)); exact BK268.out)⟩; have n1_ : Aside0 (Below w.heap.size w wr) := ⟨by rw [← hq_]; exact (by repeat (first | (with_reducible first | exact HB.out | apply below_alloc | apply pw_below_drewN | apply below_drew1 | refine below_set ?_ GE268.out) | exact HB.out))⟩; clear BK268 HB hq_; have BK268 := n0_; have HB := n1_; clear n0_ n1_)); have hcz39_0 : wr.cell? ⟨gb268, 0, none⟩ = some (.int .u32 x269000_2) := (blk_cell BK268.out 0).trans rfl; have hcz39_1 : wr.cell? ⟨gb268, 1, none⟩ = some (.int .i64 x269001_2) := (blk_cell BK268.out 1).trans rfl; have hfz39_0 := blk_frozen BK268.out 0; have hfz39_1 := blk_frozen BK268.out 1))
                      refine bodyPost_ret (results_ctt rfl _ _ gb268 53 #[.int .u32 0, .int .i64 0] (0, 0) _ rfl (by (with_reducible repeat (first | refine blk_drewN ?_ _ | refine blk_drew ?_ | refine blk_alloc ?_ _)); refine blk_put (cs := #[.int .u32 0, .int .i64 x269001_2]) ?_ 1 _ rfl; (with_reducible repeat (first | refine blk_drewN ?_ _ | refine blk_drew ?_ | refine blk_alloc ?_ _)); refine blk_put (cs := #[.int .u32 x269000_2, .int .i64 x269001_2]) ?_ 0 _ rfl; (with_reducible repeat (first | refine blk_drewN ?_ _ | refine blk_drew ?_ | refine blk_alloc ?_ _)); exact BK268.out) Tryd.underlying53 rfl (by kernel_rfl)) rfl ?_
                      exact ⟨by first | rfl | (simp [errW_none, errW_some] <;> rfl) | (simp [*, errW_none, errW_some] <;> rfl), by repeat (first | (with_reducible first | exact HB.out | apply below_alloc | apply pw_below_drewN | apply below_drew1 | refine below_set ?_ GE268.out) | exact HB.out)⟩
                    · rw [if_neg c38] at H
                      have c38b0 : (x11_2 == 0) = false := beq_eq_false_iff_ne.mpr c38
                      have c38b1 : (x11_2 != 0) = true := bne_iff_ne.mpr c38
                      by_cases c40 : (wrap64 ((wrap64 (10 * x11_2)) + t270)) > 32
                      · rw [if_pos c40] at H
                        have c40b0 : decide (32 < (wrap64 ((wrap64 (10 * x11_2)) + t270))) = true := decide_eq_true c40
                        clear c40
                        simp only [Option.some.injEq, Prod.mk.injEq] at H
                        obtain ⟨rfl, rfl, rfl, rfl⟩ := H
                        have p33 : 0 ≤ (x9_2 : Int) := of_decide_eq_true (by first | (with_reducible assumption) | assumption)
                        have q33 : x9_2 < (a0.size : Int) := of_decide_eq_true (by first | (with_reducible assumption) | assumption)
                        have hx33 := bt_at a0 x9_2
                        replace p33 := eq_true p33
                        replace q33 := eq_true q33
                        go_wp2_with (first | ((with_reducible refine gate_callee (f := 45) rfl ?_); refine goesL_ (some 103) rfl rfl Tryd.func45 (by kernel_rfl) rfl #[.int .u8 (bt a0 x9_2), .int .i64 10] rfl (by (try simp only [List.map_toArray, List.map_cons, List.map_nil]); first | done | rfl | (simp only [List.length_drop, List.length_take]; rfl)) ?_; (with_reducible refine (posternref20_digit.calls k2 (bt a0 x9_2) 10 t270 _ A34.out).mono ?_); rintro e w' ⟨rfl, ⟨nd, rfl⟩⟩; refine ⟨_, rfl, ?_⟩; (try (rw [drewN_self wr]; generalize hq_ : World.drewN wr _ = wr; have n0_ : Aside0 (wr.heap[gb268]? = some (.cells #[.int .u32 x269000_2, .int .i64 x269001_2] 53 (0, 0))) := ⟨by rw [← hq_]; exact (by (with_reducible repeat (first | refine blk_drewN ?_ _ | refine blk_drew ?_ | refine blk_alloc ?_ _)); exact BK268.out)⟩; have n1_ : Aside0 (Below w.heap.size w wr) := ⟨by rw [← hq_]; exact (by repeat (first | (with_reducible first | exact HB.out | apply below_alloc | apply pw_below_drewN | apply below_drew1 | refine below_set ?_ GE268.out) | exact HB.out))⟩; clear BK268 HB hq_; have BK268 := n0_; have HB := n1_; clear n0_ n1_)); have hcz41_0 : wr.cell? ⟨gb268, 0, none⟩ = some (.int .u32 x269000_2) := (blk_cell BK268.out 0).trans rfl; have hcz41_1 : wr.cell? ⟨gb268, 1, none⟩ = some (.int .i64 x269001_2) := (blk_cell BK268.out 1).trans rfl; have hfz41_0 := blk_frozen BK268.out 0; have hfz41_1 := blk_frozen BK268.out 1))
                        refine bodyPost_ret (results_ctt rfl _ _ gb268 53 #[.int .u32 0, .int .i64 0] (0, 0) _ rfl (by (with_reducible repeat (first | refine blk_drewN ?_ _ | refine blk_drew ?_ | refine blk_alloc ?_ _)); refine blk_put (cs := #[.int .u32 0, .int .i64 x269001_2]) ?_ 1 _ rfl; (with_reducible repeat (first | refine blk_drewN ?_ _ | refine blk_drew ?_ | refine blk_alloc ?_ _)); refine blk_put (cs := #[.int .u32 x269000_2, .int .i64 x269001_2]) ?_ 0 _ rfl; (with_reducible repeat (first | refine blk_drewN ?_ _ | refine blk_drew ?_ | refine blk_alloc ?_ _)); exact BK268.out) Tryd.underlying53 rfl (by kernel_rfl)) rfl ?_
                        exact ⟨by first | rfl | (simp [errW_none, errW_some] <;> rfl) | (simp [*, errW_none, errW_some] <;> rfl), by repeat (first | (with_reducible first | exact HB.out | apply below_alloc | apply pw_below_drewN | apply below_drew1 | refine below_set ?_ GE268.out) | exact HB.out)⟩
                      · rw [if_neg c40] at H
                        have c40b0 : decide (32 < (wrap64 ((wrap64 (10 * x11_2)) + t270))) = false := decide_eq_false c40
                        clear c40
                        have H' := Aside0.mk H
                        clear H
                        have p33 : 0 ≤ (x9_2 : Int) := of_decide_eq_true (by first | (with_reducible assumption) | assumption)
                        have q33 : x9_2 < (a0.size : Int) := of_decide_eq_true (by first | (with_reducible assumption) | assumption)
                        have hx33 := bt_at a0 x9_2
                        replace p33 := eq_true p33
                        replace q33 := eq_true q33
                        go_wp2_with (first | ((with_reducible refine gate_callee (f := 45) rfl ?_); refine goesL_ (some 103) rfl rfl Tryd.func45 (by kernel_rfl) rfl #[.int .u8 (bt a0 x9_2), .int .i64 10] rfl (by (try simp only [List.map_toArray, List.map_cons, List.map_nil]); first | done | rfl | (simp only [List.length_drop, List.length_take]; rfl)) ?_; (with_reducible refine (posternref20_digit.calls k2 (bt a0 x9_2) 10 t270 _ A34.out).mono ?_); rintro e w' ⟨rfl, ⟨nd, rfl⟩⟩; refine ⟨_, rfl, ?_⟩))
                        go_roundg k2
                        case measure => have := HJ1.out; have := HK2.out; omega
                        case rel => exact ⟨(wrap64 (x7_2 + 1)), (wrap64 (x9_2 + 1)), (wrap64 ((wrap64 (10 * x11_2)) + t270)), (x269000_2), (x269001_2), (by first | rfl | (simp; done) | (simp [*]; done)), (by first | rfl | (simp; done) | (simp [*]; done)), (by first | rfl | (simp; done) | (simp [*]; done)), H', ⟨by have := HJ1.out; have := HK2.out; omega⟩, ⟨by (with_reducible repeat (first | refine blk_drewN ?_ _ | refine blk_drew ?_ | refine blk_alloc ?_ _)); exact BK268.out⟩, ⟨by repeat (first | (with_reducible first | exact HB.out | apply below_alloc | apply pw_below_drewN | apply below_drew1 | refine below_set ?_ GE268.out) | exact HB.out)⟩⟩
                  · rw [if_neg c37] at H
                    have c37b0 : decide (0 < x7_2) = false := decide_eq_false c37
                    clear c37
                    by_cases c42 : (wrap64 ((wrap64 (10 * x11_2)) + t270)) > 32
                    · rw [if_pos c42] at H
                      have c42b0 : decide (32 < (wrap64 ((wrap64 (10 * x11_2)) + t270))) = true := decide_eq_true c42
                      clear c42
                      simp only [Option.some.injEq, Prod.mk.injEq] at H
                      obtain ⟨rfl, rfl, rfl, rfl⟩ := H
                      have p33 : 0 ≤ (x9_2 : Int) := of_decide_eq_true (by first | (with_reducible assumption) | assumption)
                      have q33 : x9_2 < (a0.size : Int) := of_decide_eq_true (by first | (with_reducible assumption) | assumption)
                      have hx33 := bt_at a0 x9_2
                      replace p33 := eq_true p33
                      replace q33 := eq_true q33
                      go_wp2_with (first | ((with_reducible refine gate_callee (f := 45) rfl ?_); refine goesL_ (some 103) rfl rfl Tryd.func45 (by kernel_rfl) rfl #[.int .u8 (bt a0 x9_2), .int .i64 10] rfl (by (try simp only [List.map_toArray, List.map_cons, List.map_nil]); first | done | rfl | (simp only [List.length_drop, List.length_take]; rfl)) ?_; (with_reducible refine (posternref20_digit.calls k2 (bt a0 x9_2) 10 t270 _ A34.out).mono ?_); rintro e w' ⟨rfl, ⟨nd, rfl⟩⟩; refine ⟨_, rfl, ?_⟩; (try (rw [drewN_self wr]; generalize hq_ : World.drewN wr _ = wr; have n0_ : Aside0 (wr.heap[gb268]? = some (.cells #[.int .u32 x269000_2, .int .i64 x269001_2] 53 (0, 0))) := ⟨by rw [← hq_]; exact (by (with_reducible repeat (first | refine blk_drewN ?_ _ | refine blk_drew ?_ | refine blk_alloc ?_ _)); exact BK268.out)⟩; have n1_ : Aside0 (Below w.heap.size w wr) := ⟨by rw [← hq_]; exact (by repeat (first | (with_reducible first | exact HB.out | apply below_alloc | apply pw_below_drewN | apply below_drew1 | refine below_set ?_ GE268.out) | exact HB.out))⟩; clear BK268 HB hq_; have BK268 := n0_; have HB := n1_; clear n0_ n1_)); have hcz43_0 : wr.cell? ⟨gb268, 0, none⟩ = some (.int .u32 x269000_2) := (blk_cell BK268.out 0).trans rfl; have hcz43_1 : wr.cell? ⟨gb268, 1, none⟩ = some (.int .i64 x269001_2) := (blk_cell BK268.out 1).trans rfl; have hfz43_0 := blk_frozen BK268.out 0; have hfz43_1 := blk_frozen BK268.out 1))
                      refine bodyPost_ret (results_ctt rfl _ _ gb268 53 #[.int .u32 0, .int .i64 0] (0, 0) _ rfl (by (with_reducible repeat (first | refine blk_drewN ?_ _ | refine blk_drew ?_ | refine blk_alloc ?_ _)); refine blk_put (cs := #[.int .u32 0, .int .i64 x269001_2]) ?_ 1 _ rfl; (with_reducible repeat (first | refine blk_drewN ?_ _ | refine blk_drew ?_ | refine blk_alloc ?_ _)); refine blk_put (cs := #[.int .u32 x269000_2, .int .i64 x269001_2]) ?_ 0 _ rfl; (with_reducible repeat (first | refine blk_drewN ?_ _ | refine blk_drew ?_ | refine blk_alloc ?_ _)); exact BK268.out) Tryd.underlying53 rfl (by kernel_rfl)) rfl ?_
                      exact ⟨by first | rfl | (simp [errW_none, errW_some] <;> rfl) | (simp [*, errW_none, errW_some] <;> rfl), by repeat (first | (with_reducible first | exact HB.out | apply below_alloc | apply pw_below_drewN | apply below_drew1 | refine below_set ?_ GE268.out) | exact HB.out)⟩
                    · rw [if_neg c42] at H
                      have c42b0 : decide (32 < (wrap64 ((wrap64 (10 * x11_2)) + t270))) = false := decide_eq_false c42
                      clear c42
                      have H' := Aside0.mk H
                      clear H
                      have p33 : 0 ≤ (x9_2 : Int) := of_decide_eq_true (by first | (with_reducible assumption) | assumption)
                      have q33 : x9_2 < (a0.size : Int) := of_decide_eq_true (by first | (with_reducible assumption) | assumption)
                      have hx33 := bt_at a0 x9_2
                      replace p33 := eq_true p33
                      replace q33 := eq_true q33
                      go_wp2_with (first | ((with_reducible refine gate_callee (f := 45) rfl ?_); refine goesL_ (some 103) rfl rfl Tryd.func45 (by kernel_rfl) rfl #[.int .u8 (bt a0 x9_2), .int .i64 10] rfl (by (try simp only [List.map_toArray, List.map_cons, List.map_nil]); first | done | rfl | (simp only [List.length_drop, List.length_take]; rfl)) ?_; (with_reducible refine (posternref20_digit.calls k2 (bt a0 x9_2) 10 t270 _ A34.out).mono ?_); rintro e w' ⟨rfl, ⟨nd, rfl⟩⟩; refine ⟨_, rfl, ?_⟩))
                      go_roundg k2
                      case measure => have := HJ1.out; have := HK2.out; omega
                      case rel => exact ⟨(wrap64 (x7_2 + 1)), (wrap64 (x9_2 + 1)), (wrap64 ((wrap64 (10 * x11_2)) + t270)), (x269000_2), (x269001_2), (by first | rfl | (simp; done) | (simp [*]; done)), (by first | rfl | (simp; done) | (simp [*]; done)), (by first | rfl | (simp; done) | (simp [*]; done)), H', ⟨by have := HJ1.out; have := HK2.out; omega⟩, ⟨by (with_reducible repeat (first | refine blk_drewN ?_ _ | refine blk_drew ?_ | refine blk_alloc ?_ _)); exact BK268.out⟩, ⟨by repeat (first | (with_reducible first | exact HB.out | apply below_alloc | apply pw_below_drewN | apply below_drew1 | refine below_set ?_ GE268.out) | exact HB.out)⟩⟩
              · rw [if_neg c32] at H
                exact absurd H (by simp)
            · rw [if_neg c31] at H
              have c31b0 : decide (x9_2 < (a0.size : Int)) = false := decide_eq_false c31
              clear c31
              by_cases c44 : x7_2 = 0
              · rw [if_pos c44] at H
                have c44b0 : (x7_2 == 0) = true := beq_iff_eq.mpr c44
                have c44b1 : (x7_2 != 0) = false := bne_eq_false_iff_eq.mpr c44
                clear c44
                simp only [Option.some.injEq, Prod.mk.injEq] at H
                obtain ⟨rfl, rfl, rfl, rfl⟩ := H
                have hcz45_0 : wr.cell? ⟨gb268, 0, none⟩ = some (.int .u32 x269000_2) := (blk_cell BK268.out 0).trans rfl
                have hcz45_1 : wr.cell? ⟨gb268, 1, none⟩ = some (.int .i64 x269001_2) := (blk_cell BK268.out 1).trans rfl
                have hfz45_0 := blk_frozen BK268.out 0
                have hfz45_1 := blk_frozen BK268.out 1
                go_wp2
                refine bodyPost_ret (results_ctt rfl _ _ gb268 53 #[.int .u32 0, .int .i64 0] (0, 0) _ rfl (by (with_reducible repeat (first | refine blk_drewN ?_ _ | refine blk_drew ?_ | refine blk_alloc ?_ _)); refine blk_put (cs := #[.int .u32 0, .int .i64 x269001_2]) ?_ 1 _ rfl; (with_reducible repeat (first | refine blk_drewN ?_ _ | refine blk_drew ?_ | refine blk_alloc ?_ _)); refine blk_put (cs := #[.int .u32 x269000_2, .int .i64 x269001_2]) ?_ 0 _ rfl; (with_reducible repeat (first | refine blk_drewN ?_ _ | refine blk_drew ?_ | refine blk_alloc ?_ _)); exact BK268.out) Tryd.underlying53 rfl (by kernel_rfl)) rfl ?_
                exact ⟨by first | rfl | (simp [errW_none, errW_some] <;> rfl) | (simp [*, errW_none, errW_some] <;> rfl), by repeat (first | (with_reducible first | exact HB.out | apply below_alloc | apply pw_below_drewN | apply below_drew1 | refine below_set ?_ GE268.out) | exact HB.out)⟩
              · rw [if_neg c44] at H
                have c44b0 : (x7_2 == 0) = false := beq_eq_false_iff_ne.mpr c44
                have c44b1 : (x7_2 != 0) = true := bne_iff_ne.mpr c44
                replace H := Option.bind_eq_some_iff.mp H
                obtain ⟨t272, A460, H⟩ := H
                replace H : (if t272 = true then (some (x5_1, x11_2, 0, 0)) else (some (0, 0, 0, 204))) = some (r1, r2, r3, r4) := H
                have A46 := Aside0.mk A460
                clear A460
                by_cases c47 : t272 = true
                · subst c47
                  have H1 : (some (x5_1, x11_2, 0, 0)) = some (r1, r2, r3, r4) := by rw [if_pos rfl] at H; exact H
                  clear H
                  have H := H1
                  clear H1
                  simp only [Option.some.injEq, Prod.mk.injEq] at H
                  obtain ⟨rfl, rfl, rfl, rfl⟩ := H
                  go_wp2_with (first | ((with_reducible refine gate_dst (N := 13) rfl ?_); refine box_event ?hg (N := 13) ?hd (cs := #[.int .u32 0, .int .i64 0]) (t := 53) ?hr ?_; (case hd => rfl); (case hg => rfl); (case hr => first | (go_simp; done) | (go_simp; rfl)); intro gb271 hg w48 hbox hb; have n0_ := Aside0.mk (blk_below (g := gb268) (o := .cells #[.int .u32 x269000_2, .int .i64 x269001_2] 53 (0, 0)) (by (with_reducible repeat (first | refine blk_drewN ?_ _ | refine blk_drew ?_ | refine blk_alloc ?_ _)); exact BK268.out) hb); have n1_ := Aside0.mk (below_step (by repeat (first | (with_reducible first | exact HB.out | apply below_alloc | apply pw_below_drewN | apply below_drew1 | refine below_set ?_ GE268.out) | exact HB.out)) hb); have n2_ := Aside0.mk (hbox); have n3_ := Aside0.mk ((by rw [hg]; exact (below_size (by repeat (first | (with_reducible first | exact HB.out | apply below_alloc | apply pw_below_drewN | apply below_drew1 | refine below_set ?_ GE268.out) | exact HB.out))) : w.heap.size ≤ gb271)); have n4_ := Aside0.mk ((by rw [hg]; exact (below_size (by repeat (first | (with_reducible first | exact HB.out | apply below_alloc | apply pw_below_drewN | apply below_drew1 | refine below_set ?_ GE268.out) | exact HB.out))) : w.heap.size ≤ gb271)); have n5_ := Aside0.mk ((by rw [hg]; exact Nat.ne_of_lt (blk_lt (g := gb268) (o := .cells #[.int .u32 x269000_2, .int .i64 x269001_2] 53 (0, 0)) (by (with_reducible repeat (first | refine blk_drewN ?_ _ | refine blk_drew ?_ | refine blk_alloc ?_ _)); exact BK268.out)) : gb268 ≠ gb271)); have n6_ := Aside0.mk ((by rw [hg]; exact Nat.ne_of_gt (blk_lt (g := gb268) (o := .cells #[.int .u32 x269000_2, .int .i64 x269001_2] 53 (0, 0)) (by (with_reducible repeat (first | refine blk_drewN ?_ _ | refine blk_drew ?_ | refine blk_alloc ?_ _)); exact BK268.out)) : gb271 ≠ gb268)); clear BK268; clear HB; have BK268 := n0_; have HB := n1_; have BK271 := n2_; have GW271 := n3_; have GE271 := n4_; have NB268_271 := n5_; have NB271_268 := n6_; clear n0_ n1_ n2_ n3_ n4_ n5_ n6_; clear hb hbox hg; have hnb49 := NB271_268.out; have hnc49 := NB268_271.out; have hcz50_0 : w48.cell? ⟨gb271, 0, none⟩ = some (.int .u32 0) := (blk_cell BK271.out 0).trans rfl; have hcz50_1 : w48.cell? ⟨gb271, 1, none⟩ = some (.int .i64 0) := (blk_cell BK271.out 1).trans rfl; have hfz50_0 := blk_frozen BK271.out 0; have hfz50_1 := blk_frozen BK271.out 1) | ((with_reducible refine gate_callee (f := 53) rfl ?_); refine goesL_ (some 138) rfl rfl Tryd.func53 (by kernel_rfl) rfl #[.agg #[.int .u32 x5_1, .int .i64 x11_2]] rfl (by (try simp only [List.map_toArray, List.map_cons, List.map_nil]); first | done | rfl | (simp only [List.length_drop, List.length_take]; rfl)) ?_; (with_reducible refine (posternref20_Is.calls x5_1 x11_2 true _ A46.out).mono ?_); rintro e w51 ⟨rfl, hb⟩; refine ⟨_, rfl, ?_⟩; have n0_ := Aside0.mk (blk_below (g := gb268) (o := .cells #[.int .u32 x269000_2, .int .i64 x269001_2] 53 (0, 0)) (by (with_reducible repeat (first | refine blk_drewN ?_ _ | refine blk_drew ?_ | refine blk_alloc ?_ _)); refine blk_far ?_ NB268_271.out _; (with_reducible repeat (first | refine blk_drewN ?_ _ | refine blk_drew ?_ | refine blk_alloc ?_ _)); refine blk_far ?_ NB268_271.out _; (with_reducible repeat (first | refine blk_drewN ?_ _ | refine blk_drew ?_ | refine blk_alloc ?_ _)); exact BK268.out) hb); have n1_ := Aside0.mk (blk_below (g := gb271) (o := .cells #[.int .u32 x5_1, .int .i64 x11_2] 53 (0, 0)) (by (with_reducible repeat (first | refine blk_drewN ?_ _ | refine blk_drew ?_ | refine blk_alloc ?_ _)); refine blk_put (cs := #[.int .u32 x5_1, .int .i64 0]) ?_ 1 _ rfl; (with_reducible repeat (first | refine blk_drewN ?_ _ | refine blk_drew ?_ | refine blk_alloc ?_ _)); refine blk_put (cs := #[.int .u32 0, .int .i64 0]) ?_ 0 _ rfl; (with_reducible repeat (first | refine blk_drewN ?_ _ | refine blk_drew ?_ | refine blk_alloc ?_ _)); exact BK271.out) hb); have n2_ := Aside0.mk (below_step (by repeat (first | (with_reducible first | exact HB.out | apply below_alloc | apply pw_below_drewN | apply below_drew1 | refine below_set ?_ GE268.out | refine below_set ?_ GE271.out) | exact HB.out)) hb); clear BK268; clear BK271; clear HB; have BK268 := n0_; have BK271 := n1_; have HB := n2_; clear n0_ n1_ n2_; (try clear hb); (try clear hb2); (try clear hk); (try clear hi); have hcz52_0 : w51.cell? ⟨gb271, 0, none⟩ = some (.int .u32 x5_1) := (blk_cell BK271.out 0).trans rfl; have hcz52_1 : w51.cell? ⟨gb271, 1, none⟩ = some (.int .i64 x11_2) := (blk_cell BK271.out 1).trans rfl; have hfz52_0 := blk_frozen BK271.out 0; have hfz52_1 := blk_frozen BK271.out 1; have hcz53_0 : w51.cell? ⟨gb268, 0, none⟩ = some (.int .u32 x269000_2) := (blk_cell BK268.out 0).trans rfl; have hcz53_1 : w51.cell? ⟨gb268, 1, none⟩ = some (.int .i64 x269001_2) := (blk_cell BK268.out 1).trans rfl; have hfz53_0 := blk_frozen BK268.out 0; have hfz53_1 := blk_frozen BK268.out 1))
                  refine bodyPost_ret (results_ctt rfl _ _ gb268 53 #[.int .u32 x5_1, .int .i64 x11_2] (0, 0) _ rfl (by (with_reducible repeat (first | refine blk_drewN ?_ _ | refine blk_drew ?_ | refine blk_alloc ?_ _)); refine blk_put (cs := #[.int .u32 x5_1, .int .i64 x269001_2]) ?_ 1 _ rfl; (with_reducible repeat (first | refine blk_drewN ?_ _ | refine blk_drew ?_ | refine blk_alloc ?_ _)); refine blk_put (cs := #[.int .u32 x269000_2, .int .i64 x269001_2]) ?_ 0 _ rfl; (with_reducible repeat (first | refine blk_drewN ?_ _ | refine blk_drew ?_ | refine blk_alloc ?_ _)); exact BK268.out) Tryd.underlying53 rfl (by kernel_rfl)) rfl ?_
                  exact ⟨by first | rfl | (simp [errW_none, errW_some] <;> rfl) | (simp [*, errW_none, errW_some] <;> rfl), by repeat (first | (with_reducible first | exact HB.out | apply below_alloc | apply pw_below_drewN | apply below_drew1 | refine below_set ?_ GE268.out | refine below_set ?_ GE271.out) | exact HB.out)⟩
                · replace c47 := Bool.eq_false_iff.mpr c47
                  subst c47
                  have H1 : (some (0, 0, 0, 204)) = some (r1, r2, r3, r4) := by rw [if_neg (show ¬ (false = true) by decide)] at H; exact H
                  clear H
                  have H := H1
                  clear H1
                  simp only [Option.some.injEq, Prod.mk.injEq] at H
                  obtain ⟨rfl, rfl, rfl, rfl⟩ := H
                  go_wp2_with (first | ((with_reducible refine gate_dst (N := 13) rfl ?_); refine box_event ?hg (N := 13) ?hd (cs := #[.int .u32 0, .int .i64 0]) (t := 53) ?hr ?_; (case hd => rfl); (case hg => rfl); (case hr => first | (go_simp; done) | (go_simp; rfl)); intro gb271 hg w54 hbox hb; have n0_ := Aside0.mk (blk_below (g := gb268) (o := .cells #[.int .u32 x269000_2, .int .i64 x269001_2] 53 (0, 0)) (by (with_reducible repeat (first | refine blk_drewN ?_ _ | refine blk_drew ?_ | refine blk_alloc ?_ _)); exact BK268.out) hb); have n1_ := Aside0.mk (below_step (by repeat (first | (with_reducible first | exact HB.out | apply below_alloc | apply pw_below_drewN | apply below_drew1 | refine below_set ?_ GE268.out) | exact HB.out)) hb); have n2_ := Aside0.mk (hbox); have n3_ := Aside0.mk ((by rw [hg]; exact (below_size (by repeat (first | (with_reducible first | exact HB.out | apply below_alloc | apply pw_below_drewN | apply below_drew1 | refine below_set ?_ GE268.out) | exact HB.out))) : w.heap.size ≤ gb271)); have n4_ := Aside0.mk ((by rw [hg]; exact (below_size (by repeat (first | (with_reducible first | exact HB.out | apply below_alloc | apply pw_below_drewN | apply below_drew1 | refine below_set ?_ GE268.out) | exact HB.out))) : w.heap.size ≤ gb271)); have n5_ := Aside0.mk ((by rw [hg]; exact Nat.ne_of_lt (blk_lt (g := gb268) (o := .cells #[.int .u32 x269000_2, .int .i64 x269001_2] 53 (0, 0)) (by (with_reducible repeat (first | refine blk_drewN ?_ _ | refine blk_drew ?_ | refine blk_alloc ?_ _)); exact BK268.out)) : gb268 ≠ gb271)); have n6_ := Aside0.mk ((by rw [hg]; exact Nat.ne_of_gt (blk_lt (g := gb268) (o := .cells #[.int .u32 x269000_2, .int .i64 x269001_2] 53 (0, 0)) (by (with_reducible repeat (first | refine blk_drewN ?_ _ | refine blk_drew ?_ | refine blk_alloc ?_ _)); exact BK268.out)) : gb271 ≠ gb268)); clear BK268; clear HB; have BK268 := n0_; have HB := n1_; have BK271 := n2_; have GW271 := n3_; have GE271 := n4_; have NB268_271 := n5_; have NB271_268 := n6_; clear n0_ n1_ n2_ n3_ n4_ n5_ n6_; clear hb hbox hg; have hnb55 := NB271_268.out; have hnc55 := NB268_271.out; have hcz56_0 : w54.cell? ⟨gb271, 0, none⟩ = some (.int .u32 0) := (blk_cell BK271.out 0).trans rfl; have hcz56_1 : w54.cell? ⟨gb271, 1, none⟩ = some (.int .i64 0) := (blk_cell BK271.out 1).trans rfl; have hfz56_0 := blk_frozen BK271.out 0; have hfz56_1 := blk_frozen BK271.out 1) | ((with_reducible refine gate_callee (f := 53) rfl ?_); refine goesL_ (some 138) rfl rfl Tryd.func53 (by kernel_rfl) rfl #[.agg #[.int .u32 x5_1, .int .i64 x11_2]] rfl (by (try simp only [List.map_toArray, List.map_cons, List.map_nil]); first | done | rfl | (simp only [List.length_drop, List.length_take]; rfl)) ?_; (with_reducible refine (posternref20_Is.calls x5_1 x11_2 false _ A46.out).mono ?_); rintro e w57 ⟨rfl, hb⟩; refine ⟨_, rfl, ?_⟩; have n0_ := Aside0.mk (blk_below (g := gb268) (o := .cells #[.int .u32 x269000_2, .int .i64 x269001_2] 53 (0, 0)) (by (with_reducible repeat (first | refine blk_drewN ?_ _ | refine blk_drew ?_ | refine blk_alloc ?_ _)); refine blk_far ?_ NB268_271.out _; (with_reducible repeat (first | refine blk_drewN ?_ _ | refine blk_drew ?_ | refine blk_alloc ?_ _)); refine blk_far ?_ NB268_271.out _; (with_reducible repeat (first | refine blk_drewN ?_ _ | refine blk_drew ?_ | refine blk_alloc ?_ _)); exact BK268.out) hb); have n1_ := Aside0.mk (blk_below (g := gb271) (o := .cells #[.int .u32 x5_1, .int .i64 x11_2] 53 (0, 0)) (by (with_reducible repeat (first | refine blk_drewN ?_ _ | refine blk_drew ?_ | refine blk_alloc ?_ _)); refine blk_put (cs := #[.int .u32 x5_1, .int .i64 0]) ?_ 1 _ rfl; (with_reducible repeat (first | refine blk_drewN ?_ _ | refine blk_drew ?_ | refine blk_alloc ?_ _)); refine blk_put (cs := #[.int .u32 0, .int .i64 0]) ?_ 0 _ rfl; (with_reducible repeat (first | refine blk_drewN ?_ _ | refine blk_drew ?_ | refine blk_alloc ?_ _)); exact BK271.out) hb); have n2_ := Aside0.mk (below_step (by repeat (first | (with_reducible first | exact HB.out | apply below_alloc | apply pw_below_drewN | apply below_drew1 | refine below_set ?_ GE268.out | refine below_set ?_ GE271.out) | exact HB.out)) hb); clear BK268; clear BK271; clear HB; have BK268 := n0_; have BK271 := n1_; have HB := n2_; clear n0_ n1_ n2_; (try clear hb); (try clear hb2); (try clear hk); (try clear hi); have hcz58_0 : w57.cell? ⟨gb268, 0, none⟩ = some (.int .u32 x269000_2) := (blk_cell BK268.out 0).trans rfl; have hcz58_1 : w57.cell? ⟨gb268, 1, none⟩ = some (.int .i64 x269001_2) := (blk_cell BK268.out 1).trans rfl; have hfz58_0 := blk_frozen BK268.out 0; have hfz58_1 := blk_frozen BK268.out 1))
                  refine bodyPost_ret (results_ctt rfl _ _ gb268 53 #[.int .u32 0, .int .i64 0] (0, 0) _ rfl (by (with_reducible repeat (first | refine blk_drewN ?_ _ | refine blk_drew ?_ | refine blk_alloc ?_ _)); refine blk_put (cs := #[.int .u32 0, .int .i64 x269001_2]) ?_ 1 _ rfl; (with_reducible repeat (first | refine blk_drewN ?_ _ | refine blk_drew ?_ | refine blk_alloc ?_ _)); refine blk_put (cs := #[.int .u32 x269000_2, .int .i64 x269001_2]) ?_ 0 _ rfl; (with_reducible repeat (first | refine blk_drewN ?_ _ | refine blk_drew ?_ | refine blk_alloc ?_ _)); exact BK268.out) Tryd.underlying53 rfl (by kernel_rfl)) rfl ?_
                  exact ⟨by first | rfl | (simp [errW_none, errW_some] <;> rfl) | (simp [*, errW_none, errW_some] <;> rfl), by repeat (first | (with_reducible first | exact HB.out | apply below_alloc | apply pw_below_drewN | apply below_drew1 | refine below_set ?_ GE268.out | refine below_set ?_ GE271.out) | exact HB.out)⟩
end Go.Proofs.YtgnahagnmodpdaaDoor.X
/-! FourPre -/
namespace Go.Proofs.YtgnahagnmodpdaaDoor
open Go.RowKit Go.Proofs.YtgnahagnmodpdaaDoorW.PrintWords Go.Proofs.YtgnahagnmodpdaaDoor.X Go.IntWalk
set_option linter.unusedVariables false
set_option linter.unusedSimpArgs false
theorem ref_is_f (n b : Int) (h0 : 0 ≤ n) (h1 : n ≤ 4294967295) : posternref20_Is.f n b = some (isV n b) := by
  unfold posternref20_Is.f posternref20_Mask.f
  rw [if_pos ⟨h0, h1⟩, Option.bind_some]
  unfold maskV isV
  by_cases hb : 0 ≤ b ∧ b ≤ 32
  · rw [if_pos hb, decide_eq_true hb.1, decide_eq_true hb.2, if_pos rfl, Bool.true_and, Bool.true_and]
  · rw [if_neg hb, if_neg (by decide)]
    have : (decide (0 ≤ b) && (decide (b ≤ 32) && (n / sizeV b * sizeV b == n))) = false := by
      by_cases h : 0 ≤ b
      · rw [decide_eq_false (show ¬ b ≤ 32 by omega), Bool.false_and, Bool.and_false]
      · rw [decide_eq_false h, Bool.false_and]
    rw [this]
/-- What is left of a prefix's bits, n the address. -/
def bitsR (n : Int) : List UInt8 → Nat → Nat → Int → Int × Int × Int × Int
  | [], i, size, b => if size = 0 then (0, 0, i, 204) else if isV n b = true then (n, b, 0, 0) else (0, 0, 0, 204)
  | c :: l, i, size, b => if (48 ≤ (c.toNat : Int) ∧ (c.toNat : Int) ≤ 57) ∧ (size = 0 ∨ b ≠ 0) ∧ 10 * b + ((c.toNat : Int) - 48) ≤ 32 then bitsR n l (i + 1) (size + 1) (10 * b + ((c.toNat : Int) - 48)) else (0, 0, i, 204)
/-- What is left of a prefix. -/
def prefL : List UInt8 → Nat → Int → Nat → Nat → Int → Int × Int × Int × Int
  | [], i, n, part, size, x => (0, 0, i, 204)
  | c :: l, i, n, part, size, x => if 48 ≤ (c.toNat : Int) ∧ (c.toNat : Int) ≤ 57 ∧ (size = 0 ∨ 0 < x) ∧ 10 * x + ((c.toNat : Int) - 48) ≤ 255 then prefL l (i + 1) n part (size + 1) (10 * x + ((c.toNat : Int) - 48))
    else if c = 46 ∧ 0 < size ∧ part < 3 then prefL l (i + 1) ((256 * n + x) % 4294967296) (part + 1) 0 0
    else if c = 47 ∧ 0 < size ∧ part = 3 then bitsR ((256 * n + x) % 4294967296) l (i + 1) 0 0 else (0, 0, i, 204)
def prefV (l : List UInt8) : Int × Int × Int × Int := prefL l 0 0 0 0 0
theorem refBits_l1 (s : ByteArray) (hs : s.size ≤ 9223372036854775807) (n : Int) (n0 : 0 ≤ n) (n1 : n < 4294967296) : ∀ (m i size : Nat) (b : Int), i + m = s.data.toList.length → size ≤ i → 0 ≤ b → b ≤ 32 →
    Ev (fun k => posternref20_ParsePrefix.l1 k s n (size : Int) (i : Int) b) (bitsR n (s.data.toList.drop i) i size b) := by
  have hz := size_len s
  intro m
  induction m with
  | zero =>
    intro i size b hm hst b0 b1
    rw [List.drop_of_length_le (by omega), bitsR]
    by_cases h0 : size = 0
    · rw [if_pos h0]
      refine Ev.step (f := fun k => some (0, 0, (i : Int), 204)) (fun k => ?_) (Ev.now _)
      simp only [posternref20_ParsePrefix.l1]
      rw [if_neg (by omega), if_pos (by omega), show (s.size : Int) = (i : Int) by omega]
    · rw [if_neg h0]
      refine Ev.step (f := fun k => some (if isV n b = true then (n, b, 0, 0) else (0, 0, 0, 204))) (fun k => ?_) (Ev.now _)
      simp only [posternref20_ParsePrefix.l1]
      rw [if_neg (by omega), if_neg (by omega), ref_is_f n b n0 (by omega), Option.bind_some]
      by_cases hi : isV n b = true
      · rw [if_pos hi, if_pos hi]
      · rw [if_neg hi, if_neg hi]
  | succ m ih =>
    intro i size b hm hst b0 b1
    have hi : i < s.data.toList.length := by omega
    have hb := bt_get s i hi
    have hlt := s.data.toList[i].toNat_lt
    rw [List.drop_eq_getElem_cons hi]
    have hdig := ref_digit (s.data.toList[i].toNat : Int) 10 (by omega) (by omega) (by decide) (by decide)
    rw [digV10 _ hlt] at hdig
    generalize s.data.toList[i] = c at *
    rw [bitsR]
    refine Ev.step (f := fun k => (posternref20_digit.f k (c.toNat : Int) 10).bind fun t270 => (if t270 < 0 then (some (0, 0, (i : Int), 204)) else (if (size : Int) > 0 then (if b = 0 then (some (0, 0, (i : Int), 204)) else (if (wrap64 ((wrap64 (10 * b)) + t270)) > 32 then (some (0, 0, (i : Int), 204)) else (posternref20_ParsePrefix.l1 k s n ((size + 1 : Nat) : Int) ((i + 1 : Nat) : Int) (wrap64 ((wrap64 (10 * b)) + t270))))) else (if (wrap64 ((wrap64 (10 * b)) + t270)) > 32 then (some (0, 0, (i : Int), 204)) else (posternref20_ParsePrefix.l1 k s n ((size + 1 : Nat) : Int) ((i + 1 : Nat) : Int) (wrap64 ((wrap64 (10 * b)) + t270))))))) (fun k => ?_) (Ev.bind hdig ?_)
    · simp only [posternref20_ParsePrefix.l1]
      rw [if_pos (by omega), if_pos (by omega), hb, wsucc size (by omega), wsucc i (by omega)]
    · by_cases hd : 48 ≤ (c.toNat : Int) ∧ (c.toNat : Int) ≤ 57
      · simp only [if_pos hd, if_neg (show ¬ (c.toNat : Int) - 48 < 0 by omega), wdig b c.toNat b0 (by omega) hd.1 hd.2]
        by_cases hok : (size = 0 ∨ b ≠ 0) ∧ 10 * b + ((c.toNat : Int) - 48) ≤ 32
        · rw [if_pos ⟨hd, hok⟩]
          have e := ih (i + 1) (size + 1) (10 * b + ((c.toNat : Int) - 48)) (by omega) (by omega) (by omega) hok.2
          refine Ev.congr (fun k => ?_) e
          by_cases h0 : (size : Int) > 0
          · rw [if_pos h0, if_neg (by omega), if_neg (by omega)]
          · rw [if_neg h0, if_neg (by omega)]
        · rw [if_neg (fun h => hok h.2)]
          refine Ev.congr (f := fun k => some (0, 0, (i : Int), 204)) (fun k => ?_) (Ev.now _)
          by_cases h0 : (size : Int) > 0
          · rw [if_pos h0]
            by_cases hb0 : b = 0
            · rw [if_pos hb0]
            · rw [if_neg hb0, if_pos (by omega)]
          · rw [if_neg h0, if_pos (by omega)]
      · simp only [if_neg hd, if_pos (show (-1 : Int) < 0 by decide)]
        rw [if_neg (fun h => hd h.1)]
        exact Ev.now _
theorem refPref_l0 (s : ByteArray) (hs : s.size ≤ 9223372036854775807) : ∀ (m i : Nat) (n x : Int) (part size : Nat), i + m = s.data.toList.length → size ≤ i → part ≤ 3 → 0 ≤ x → x ≤ 255 → 0 ≤ n → n < 4294967296 →
    Ev (fun k => posternref20_ParsePrefix.l0 k s n (part : Int) (size : Int) x (i : Int)) (prefL (s.data.toList.drop i) i n part size x) := by
  have hz := size_len s
  intro m
  induction m with
  | zero =>
    intro i n x part size hm hst hp x0 x1 n0 n1
    rw [List.drop_of_length_le (by omega), prefL]
    refine Ev.step (f := fun k => posternref20_ParsePrefix.j3 k s n (i : Int)) (fun k => ?_) (Ev.step (f := fun k => some (0, 0, (i : Int), 204)) (fun k => ?_) (Ev.now _))
    · simp only [posternref20_ParsePrefix.l0]
      rw [if_neg (by omega)]
    · simp only [posternref20_ParsePrefix.j3]
      rw [if_pos (by omega), show (s.size : Int) = (i : Int) by omega]
  | succ m ih =>
    intro i n x part size hm hst hp x0 x1 n0 n1
    have hi : i < s.data.toList.length := by omega
    have hb := bt_get s i hi
    have hlt := s.data.toList[i].toNat_lt
    rw [List.drop_eq_getElem_cons hi]
    have c46 := byte_eq s.data.toList[i] 46
    rw [show (((46 : UInt8).toNat : Nat) : Int) = 46 from rfl] at c46
    have c47 := byte_eq s.data.toList[i] 47
    rw [show (((47 : UInt8).toNat : Nat) : Int) = 47 from rfl] at c47
    have hdig := ref_digit (s.data.toList[i].toNat : Int) 10 (by omega) (by omega) (by decide) (by decide)
    rw [digV10 _ hlt] at hdig
    generalize s.data.toList[i] = c at *
    rw [prefL]
    have hmod : ((256 * n) % 4294967296 + x % 4294967296) % 4294967296 = (256 * n + x) % 4294967296 := by omega
    have slash : Ev (fun k => posternref20_ParsePrefix.j2 k s n (part : Int) (size : Int) x (i : Int) false) (if c = 47 ∧ 0 < size ∧ part = 3 then bitsR ((256 * n + x) % 4294967296) (s.data.toList.drop (i + 1)) (i + 1) 0 0 else (0, 0, (i : Int), 204)) := by
      by_cases hok : c = 47 ∧ 0 < size ∧ part = 3
      · rw [if_pos hok]
        obtain ⟨o1, o2, o3⟩ := hok
        have e := refBits_l1 s hs ((256 * n + x) % 4294967296) (by omega) (by omega) m (i + 1) 0 0 (by omega) (by omega) (by decide) (by decide)
        refine Ev.step (f := fun k => posternref20_ParsePrefix.j3 k s ((256 * n + x) % 4294967296) (i : Int)) (fun k => ?_) (Ev.step (fun k => ?_) e)
        · simp only [posternref20_ParsePrefix.j2]
          rw [if_neg (by simp), if_pos (by omega), if_pos (by omega), hb, if_pos (c47.2 o1), if_pos (by omega), if_pos (by omega), hmod]
        · simp only [posternref20_ParsePrefix.j3]
          rw [if_neg (by omega), wsucc i (by omega)]
          rfl
      · rw [if_neg hok]
        refine Ev.step (f := fun k => some (0, 0, (i : Int), 204)) (fun k => ?_) (Ev.now _)
        simp only [posternref20_ParsePrefix.j2]
        rw [if_neg (by simp), if_pos (by omega), if_pos (by omega), hb]
        by_cases h1 : (c.toNat : Int) = 47
        · rw [if_pos h1]
          have hc := c47.1 h1
          by_cases h2 : (size : Int) > 0
          · rw [if_pos h2, if_neg (fun h3 => hok ⟨hc, by omega, by omega⟩)]
          · rw [if_neg h2]
        · rw [if_neg h1]
    have false_to : ∀ d : Int, Ev (fun k => posternref20_ParsePrefix.j1 k s n (part : Int) (size : Int) x (i : Int) d false) (if c = 46 ∧ 0 < size ∧ part < 3 then prefL (s.data.toList.drop (i + 1)) (i + 1) ((256 * n + x) % 4294967296) (part + 1) 0 0 else if c = 47 ∧ 0 < size ∧ part = 3 then bitsR ((256 * n + x) % 4294967296) (s.data.toList.drop (i + 1)) (i + 1) 0 0 else (0, 0, (i : Int), 204)) := by
      intro d
      by_cases hok : c = 46 ∧ 0 < size ∧ part < 3
      · rw [if_pos hok]
        obtain ⟨o1, o2, o3⟩ := hok
        have e := ih (i + 1) ((256 * n + x) % 4294967296) 0 (part + 1) 0 (by omega) (by omega) (by omega) (by omega) (by omega) (by omega) (by omega)
        refine Ev.step (f := fun k => posternref20_ParsePrefix.j2 k s n (part : Int) (size : Int) x (i : Int) true) (fun k => ?_) (Ev.step (fun k => ?_) e)
        · simp only [posternref20_ParsePrefix.j1]
          rw [if_neg (by simp), if_pos (by omega), if_pos (by omega), hb, if_pos (c46.2 o1), if_pos (by omega), decide_eq_true (by omega)]
        · simp only [posternref20_ParsePrefix.j2]
          rw [if_pos trivial, hmod, wsucc part (by omega), wsucc i (by omega)]
          rfl
      · rw [if_neg hok]
        refine Ev.step (fun k => ?_) slash
        simp only [posternref20_ParsePrefix.j1]
        rw [if_neg (by simp), if_pos (by omega), if_pos (by omega), hb]
        by_cases h1 : (c.toNat : Int) = 46
        · rw [if_pos h1]
          have hc := c46.1 h1
          by_cases h2 : (size : Int) > 0
          · rw [if_pos h2, decide_eq_false (fun h3 => hok ⟨hc, by omega, by omega⟩)]
          · rw [if_neg h2]
        · rw [if_neg h1]
    refine Ev.step (f := fun k => (posternref20_digit.f k (c.toNat : Int) 10).bind fun t269 => (if t269 ≥ 0 then (if (size : Int) = 0 then (posternref20_ParsePrefix.j1 k s n (part : Int) (size : Int) x (i : Int) t269 (decide ((wrap64 ((wrap64 (10 * x)) + t269)) ≤ 255))) else (if x > 0 then (posternref20_ParsePrefix.j1 k s n (part : Int) (size : Int) x (i : Int) t269 (decide ((wrap64 ((wrap64 (10 * x)) + t269)) ≤ 255))) else (posternref20_ParsePrefix.j1 k s n (part : Int) (size : Int) x (i : Int) t269 false))) else (posternref20_ParsePrefix.j1 k s n (part : Int) (size : Int) x (i : Int) t269 false))) (fun k => ?_) (Ev.bind hdig ?_)
    · simp only [posternref20_ParsePrefix.l0]
      rw [if_pos (by omega), if_pos (by omega), hb]
    · by_cases hd : 48 ≤ (c.toNat : Int) ∧ (c.toNat : Int) ≤ 57
      · simp only [if_pos hd, if_pos (show (c.toNat : Int) - 48 ≥ 0 by omega), wdig x c.toNat x0 x1 hd.1 hd.2]
        by_cases hok : (size = 0 ∨ 0 < x) ∧ 10 * x + ((c.toNat : Int) - 48) ≤ 255
        · rw [if_pos ⟨hd.1, hd.2, hok⟩]
          have t : Ev (fun k => posternref20_ParsePrefix.j1 k s n (part : Int) (size : Int) x (i : Int) ((c.toNat : Int) - 48) true) (prefL (s.data.toList.drop (i + 1)) (i + 1) n part (size + 1) (10 * x + ((c.toNat : Int) - 48))) := by
            refine Ev.step (fun k => ?_) (ih (i + 1) n (10 * x + ((c.toNat : Int) - 48)) part (size + 1) (by omega) (by omega) hp (by omega) (by omega) n0 n1)
            simp only [posternref20_ParsePrefix.j1]
            rw [if_pos trivial, wsucc size (by omega), wdig x c.toNat x0 x1 hd.1 hd.2, wsucc i (by omega)]
          simp only [decide_eq_true hok.2]
          refine Ev.congr (fun k => ?_) t
          by_cases h0 : (size : Int) = 0
          · rw [if_pos h0]
          · rw [if_neg h0, if_pos (by omega)]
        · rw [if_neg (fun h => hok h.2.2)]
          refine Ev.congr (fun k => ?_) (false_to ((c.toNat : Int) - 48))
          by_cases h0 : (size : Int) = 0
          · rw [if_pos h0, decide_eq_false (by omega)]
          · rw [if_neg h0]
            by_cases h1 : x > 0
            · rw [if_pos h1, decide_eq_false (by omega)]
            · rw [if_neg h1]
      · simp only [if_neg hd, if_neg (show ¬ (-1 : Int) ≥ 0 by decide)]
        rw [if_neg (fun h => hd ⟨h.1, h.2.1⟩)]
        exact false_to (-1)
theorem ref_pref (s : ByteArray) (hs : s.size ≤ 9223372036854775807) : Ev (fun k => posternref20_ParsePrefix.f k s) (prefV s.data.toList) := by
  have e := refPref_l0 s hs s.data.toList.length 0 0 0 0 0 (by omega) (by omega) (by omega) (by omega) (by omega) (by omega) (by omega)
  exact Ev.congr (fun k => rfl) e
/-- The bits of a text: the place where it goes wrong. -/
def bitsL : List UInt8 → Nat → Int → Int × Int
  | [], i, b => if i = 0 then (0, 0) else (b, -1)
  | c :: l, i, b => if (48 ≤ (c.toNat : Int) ∧ (c.toNat : Int) ≤ 57) ∧ (i = 0 ∨ b ≠ 0) ∧ 10 * b + ((c.toNat : Int) - 48) ≤ 32 then bitsL l (i + 1) (10 * b + ((c.toNat : Int) - 48)) else (0, i)
theorem bits_l0 (s : ByteArray) (hs : s.size ≤ 9223372036854775807) : ∀ (m i : Nat) (b : Int), i + m = s.data.toList.length → 0 ≤ b → b ≤ 32 →
    Ev (fun k => four_bitsOf.l0 k s b (s.size : Int) (i : Int)) (bitsL (s.data.toList.drop i) i b) := by
  have hz := size_len s
  intro m
  induction m with
  | zero =>
    intro i b hm b0 b1
    rw [List.drop_of_length_le (by omega), bitsL]
    refine Ev.step (f := fun k => some (if i = 0 then (0, 0) else (b, -1))) (fun k => ?_) (Ev.now _)
    simp only [four_bitsOf.l0]
    rw [if_neg (by omega)]
    by_cases h0 : i = 0
    · rw [if_pos h0, if_pos (by rw [toList_data]; exact List.eq_nil_of_length_eq_zero (by omega))]
    · rw [if_neg h0, if_neg (by rw [toList_data]; intro e; rw [e] at hm; simp at hm; omega)]
  | succ m ih =>
    intro i b hm b0 b1
    have hi : i < s.data.toList.length := by omega
    have hb := bt_get s i hi
    have hlt := s.data.toList[i].toNat_lt
    rw [List.drop_eq_getElem_cons hi]
    generalize s.data.toList[i] = c at *
    rw [bitsL]
    by_cases hd : 48 ≤ (c.toNat : Int) ∧ (c.toNat : Int) ≤ 57
    · have wd := wdigm b c.toNat b0 (by omega) hd.1 hd.2
      by_cases hok : (i = 0 ∨ b ≠ 0) ∧ 10 * b + ((c.toNat : Int) - 48) ≤ 32
      · rw [if_pos ⟨hd, hok⟩]
        have e := ih (i + 1) (10 * b + ((c.toNat : Int) - 48)) (by omega) (by omega) hok.2
        refine Ev.step (fun k => ?_) e
        simp only [four_bitsOf.l0]
        rw [if_pos (by omega), if_pos (by omega), if_pos (by omega), hb, wd, if_neg (by omega), if_neg (by omega), wsucc i (by omega)]
        by_cases h0 : (i : Int) > 0
        · rw [if_pos h0, if_neg (by omega), if_neg (by omega)]
        · rw [if_neg h0, if_neg (by omega)]
      · rw [if_neg (fun h => hok h.2)]
        refine Ev.step (f := fun k => some (0, (i : Int))) (fun k => ?_) (Ev.now _)
        simp only [four_bitsOf.l0]
        rw [if_pos (by omega), if_pos (by omega), if_pos (by omega), hb, wd, if_neg (by omega), if_neg (by omega)]
        by_cases h0 : (i : Int) > 0
        · rw [if_pos h0]
          by_cases hb0 : b = 0
          · rw [if_pos hb0]
          · rw [if_neg hb0, if_pos (by omega)]
        · rw [if_neg h0, if_pos (by omega)]
    · rw [if_neg (fun h => hd h.1)]
      refine Ev.step (f := fun k => some (0, (i : Int))) (fun k => ?_) (Ev.now _)
      simp only [four_bitsOf.l0]
      rw [if_pos (by omega), if_pos (by omega), if_pos (by omega), hb]
      by_cases h1 : (c.toNat : Int) < 48
      · rw [if_pos h1]
      · rw [if_neg h1, if_pos (by omega)]
theorem bits_ev (s : ByteArray) (hs : s.size ≤ 9223372036854775807) : Ev (fun k => four_bitsOf.f k s) (bitsL s.data.toList 0 0) := by
  have e := bits_l0 s hs s.data.toList.length 0 0 (by omega) (by decide) (by decide)
  exact Ev.congr (fun k => rfl) e
theorem bitsL_le : ∀ (l : List UInt8) (i : Nat) (b : Int), (bitsL l i b).2 ≤ (i : Int) + l.length
  | [], i, b => by
    rw [bitsL]
    split <;> simp <;> omega
  | c :: l, i, b => by
    rw [bitsL]
    split
    · have := bitsL_le l (i + 1) (10 * b + ((c.toNat : Int) - 48))
      simp only [List.length_cons]
      omega
    · simp only [List.length_cons]
      omega
/-- The document's bits out of the program's. -/
theorem bitsR_L (n : Int) (j : Nat) : ∀ (l : List UInt8) (i : Nat) (b : Int), 0 ≤ b → bitsR n l (j + i) i b = if 0 ≤ (bitsL l i b).2 then (0, 0, (j : Int) + (bitsL l i b).2, 204) else if isV n (bitsL l i b).1 = true then (n, (bitsL l i b).1, 0, 0) else (0, 0, 0, 204)
  | [], i, b, b0 => by
    rw [bitsR, bitsL]
    by_cases h0 : i = 0
    · rw [if_pos h0, if_pos h0, if_pos (by decide), h0]
      simp
    · rw [if_neg h0, if_neg h0, if_neg (show ¬ (0 : Int) ≤ -1 by decide)]
  | c :: l, i, b, b0 => by
    rw [bitsR, bitsL]
    by_cases h : (48 ≤ (c.toNat : Int) ∧ (c.toNat : Int) ≤ 57) ∧ (i = 0 ∨ b ≠ 0) ∧ 10 * b + ((c.toNat : Int) - 48) ≤ 32
    · rw [if_pos h, if_pos h]
      exact bitsR_L n j l (i + 1) _ (by omega)
    · rw [if_neg h, if_neg h, if_pos (show (0 : Int) ≤ ((0 : Int), (i : Int)).2 from by simp)]
      simp
/-- A text ahead of its first slash. -/
def ahead47 (l : List UInt8) : List UInt8 := l.takeWhile (· != 47)
/-- A text behind its first slash; none: it has none. -/
def behind47 : List UInt8 → Option (List UInt8)
  | [] => none
  | c :: l => if c = 47 then some l else behind47 l
theorem prefL_cut : ∀ (l : List UInt8) (i : Nat) (n : Int) (part size : Nat) (x : Int), part ≤ 3 → prefL l i n part size x =
    if (strictL (ahead47 l) i n part size x).2.2 = 0 then (match behind47 l with | none => (0, 0, (i : Int) + l.length, 204) | some r => bitsR (strictL (ahead47 l) i n part size x).1 r (i + (ahead47 l).length + 1) 0 0) else (0, 0, (strictL (ahead47 l) i n part size x).2.1, 204)
  | [], i, n, part, size, x, hp => by
    rw [prefL]
    show _ = if (strictL [] i n part size x).2.2 = 0 then _ else _
    rw [strictL]
    by_cases h : part < 3 ∨ size = 0
    · rw [if_pos h, if_neg (show ¬ (203 : Int) = 0 by decide)]
      show _ = (((0 : Int), (0 : Int), (strictL [] i n part size x).2.1, (204 : Int)) : Int × Int × Int × Int)
      rw [strictL, if_pos h]
    · rw [if_neg h, if_pos rfl]
      simp [behind47]
  | c :: l, i, n, part, size, x, hp => by
    rw [prefL]
    by_cases h47 : c = 47
    · subst h47
      rw [if_neg (fun h => absurd h.1 (by decide)), if_neg (fun h => absurd h.1 (by decide))]
      rw [show ahead47 (47 :: l) = [] from rfl, show behind47 (47 :: l) = some l from rfl, strictL]
      by_cases h : part < 3 ∨ size = 0
      · rw [if_pos h, if_neg (show ¬ (((0 : Int), (i : Int), (203 : Int)) : Int × Int × Int).2.2 = 0 by simp), if_neg (by omega)]
      · rw [if_neg h, if_pos rfl, if_pos ⟨rfl, by omega, by omega⟩]
        rfl
    · have ea : ahead47 (c :: l) = c :: ahead47 l := by unfold ahead47; rw [List.takeWhile_cons_of_pos (by simpa using h47)]
      have eb : behind47 (c :: l) = behind47 l := by rw [behind47, if_neg h47]
      rw [ea, eb, strictL]
      by_cases hd : 48 ≤ (c.toNat : Int) ∧ (c.toNat : Int) ≤ 57 ∧ (size = 0 ∨ 0 < x) ∧ 10 * x + ((c.toNat : Int) - 48) ≤ 255
      · rw [if_pos hd, if_pos hd, prefL_cut l (i + 1) _ _ _ _ hp]
        simp only [List.length_cons]
        rw [show i + 1 + (ahead47 l).length + 1 = i + ((ahead47 l).length + 1) + 1 by omega, show (((i + 1 : Nat) : Int) + (l.length : Int)) = (i : Int) + ((l.length + 1 : Nat) : Int) by omega]
      · rw [if_neg hd, if_neg hd]
        by_cases hs : c = 46 ∧ 0 < size ∧ part < 3
        · rw [if_pos hs, if_pos hs, prefL_cut l (i + 1) _ _ _ _ (by omega)]
          simp only [List.length_cons]
          rw [show i + 1 + (ahead47 l).length + 1 = i + ((ahead47 l).length + 1) + 1 by omega, show (((i + 1 : Nat) : Int) + (l.length : Int)) = (i : Int) + ((l.length + 1 : Nat) : Int) by omega]
        · rw [if_neg hs, if_neg hs, if_neg (fun h => h47 h.1), if_neg (show ¬ (((0 : Int), (i : Int), (203 : Int)) : Int × Int × Int).2.2 = 0 by simp)]
theorem index_47 (b : UInt8) (l : List UInt8) : Lib.index (b :: l) [47] = if b = 47 then 0 else if Lib.index l [47] = -1 then -1 else Lib.index l [47] + 1 := by
  rw [Lib.index]
  by_cases h : b = 47
  · subst h
    rfl
  · have hp : ([47] : List UInt8).isPrefixOf (b :: l) = false := by
      show ((47 : UInt8) == b && _) = false
      rw [beq_eq_false_iff_ne.2 (fun e => h e.symm), Bool.false_and]
    rw [if_neg h, hp]
    simp only [Bool.false_eq_true, if_false, beq_iff_eq]
theorem cut_47 (l : List UInt8) : Lib.cut l [47] = (ahead47 l, (behind47 l).getD [], (behind47 l).isSome) := by
  induction l with
  | nil => rfl
  | cons b l ih =>
    unfold Lib.cut at ih ⊢
    rw [index_47]
    by_cases h : b = 47
    · subst h
      rw [if_pos rfl, if_pos (Int.le_refl 0)]
      rfl
    · have ea : ahead47 (b :: l) = b :: ahead47 l := by unfold ahead47; rw [List.takeWhile_cons_of_pos (by simpa using h)]
      have eb : behind47 (b :: l) = behind47 l := by rw [behind47, if_neg h]
      rw [if_neg h, ea, eb]
      by_cases hi : 0 ≤ Lib.index l [47]
      · rw [if_pos hi] at ih
        obtain ⟨i1, i2⟩ := Prod.mk.inj ih
        obtain ⟨i2, i3⟩ := Prod.mk.inj i2
        rw [show (if Lib.index l [47] = -1 then (-1 : Int) else Lib.index l [47] + 1) = Lib.index l [47] + 1 from if_neg (by omega), if_pos (by omega), show (Lib.index l [47] + 1).toNat = (Lib.index l [47]).toNat + 1 by omega, List.take_succ_cons, i1, show (Lib.index l [47]).toNat + 1 + ([47] : List UInt8).length = ((Lib.index l [47]).toNat + ([47] : List UInt8).length) + 1 from rfl, List.drop_succ_cons, i2, i3]
      · rw [if_neg hi] at ih
        obtain ⟨i1, i2⟩ := Prod.mk.inj ih
        obtain ⟨i2, i3⟩ := Prod.mk.inj i2
        have hm : Lib.index l [47] = -1 := by
          rcases Lib.index_spec l [47] with ⟨h1, _⟩ | ⟨i, h1, _⟩
          · exact h1
          · omega
        rw [hm, if_pos rfl, if_neg (by decide), ← i1, ← i2, ← i3]
theorem ahead47_len (l : List UInt8) : (ahead47 l).length ≤ l.length := by
  unfold ahead47
  exact (List.takeWhile_sublist _).length_le
theorem behind47_sum : ∀ {l r : List UInt8}, behind47 l = some r → (ahead47 l).length + 1 + r.length = l.length
  | [], r, h => by cases h
  | c :: l, r, h => by
    rw [behind47] at h
    by_cases hc : c = 47
    · rw [if_pos hc] at h
      obtain rfl := Option.some.inj h
      subst hc
      show 0 + 1 + _ = _
      simp
      omega
    · rw [if_neg hc] at h
      have := behind47_sum h
      have ea : ahead47 (c :: l) = c :: ahead47 l := by unfold ahead47; rw [List.takeWhile_cons_of_pos (by simpa using hc)]
      rw [ea]
      simp
      omega
theorem strictL_range : ∀ (l : List UInt8) (i : Nat) (n : Int) (part size : Nat) (x : Int), 0 ≤ (strictL l i n part size x).1 ∧ (strictL l i n part size x).1 ≤ 4294967295
  | [], i, n, part, size, x => by
    rw [strictL]
    split <;> simp <;> omega
  | c :: l, i, n, part, size, x => by
    rw [strictL]
    split
    · exact strictL_range l _ _ _ _ _
    · split
      · exact strictL_range l _ _ _ _ _
      · simp
theorem pref_ev (s : ByteArray) (hs : s.size ≤ 9223372036854775807) : Ev (fun k => four_ParsePrefix.f k s) (prefV s.data.toList) := by
  have hz := size_len s
  have hal := ahead47_len s.data.toList
  have hr := strictL_range (ahead47 s.data.toList) 0 0 0 0 0
  unfold prefV
  rw [prefL_cut _ _ _ _ _ _ (by decide)]
  have hst := strict_ev (BA (ahead47 s.data.toList)) (by rw [ba_size]; omega)
  rw [ba_list] at hst
  unfold strictV at hst
  refine Ev.congr (f := fun k => (four_Strict.f k (BA (ahead47 s.data.toList))).bind fun bt258 => (if bt258.2.2 = 0 then (if (behind47 s.data.toList).isSome = true then ((four_bitsOf.f k (BA ((behind47 s.data.toList).getD []))).bind fun bt261 => (if bt261.2 ≥ 0 then (some (0, 0, wrap64 ((wrap64 (((BA (ahead47 s.data.toList)).size : Int) + 1)) + bt261.2), 204)) else ((four_is.f bt258.1 bt261.1).bind fun t264 => (if t264 = true then (some (bt258.1, bt261.1, 0, 0)) else (some (0, 0, 0, 204)))))) else (some (0, 0, (s.size : Int), 204))) else (some (0, 0, bt258.2.1, 204)))) (fun k => ?_) (Ev.bind hst ?_)
  · unfold four_ParsePrefix.f strings_Cut.f
    rw [if_pos (.inr ⟨rfl, hs⟩), show (⟨#[47]⟩ : ByteArray).data.toList = [47] from rfl, cut_47]
    rfl
  · by_cases he : (strictL (ahead47 s.data.toList) 0 0 0 0 0).2.2 = 0
    · simp only [if_pos he]
      cases hb : behind47 s.data.toList with
      | none =>
        simp only [Option.isSome_none, Bool.false_eq_true, if_false]
        rw [show ((0 : Nat) : Int) + (s.data.toList.length : Int) = (s.size : Int) by omega]
        exact Ev.now _
      | some r =>
        have hrl := behind47_sum hb
        simp only [Option.isSome_some, if_true, Option.getD_some]
        have hbt := bits_ev (BA r) (by rw [ba_size]; omega)
        rw [ba_list] at hbt
        refine Ev.bind hbt ?_
        rw [show 0 + (ahead47 s.data.toList).length + 1 = ((ahead47 s.data.toList).length + 1) + 0 by omega, bitsR_L _ _ _ _ _ (by decide)]
        have hbl := bitsL_le r 0 0
        by_cases hp : 0 ≤ (bitsL r 0 0).2
        · simp only [if_pos hp, if_pos (show (bitsL r 0 0).2 ≥ 0 from hp)]
          rw [ba_size, wrap64_in (((ahead47 s.data.toList).length : Int) + 1) (by omega), wrap64_in _ (by omega)]
          exact Ev.now _
        · simp only [if_neg hp, if_neg (show ¬ (bitsL r 0 0).2 ≥ 0 from hp)]
          rw [is_f _ _ hr.1 hr.2]
          simp only [Option.bind_some]
          by_cases hi : isV (strictL (ahead47 s.data.toList) 0 0 0 0 0).1 (bitsL r 0 0).1 = true
          · rw [if_pos hi, if_pos hi]
            exact Ev.now _
          · rw [if_neg hi, if_neg hi]
            exact Ev.now _
    · simp only [if_neg he]
      exact Ev.now _
end Go.Proofs.YtgnahagnmodpdaaDoor
/-! FourRefPrint -/
namespace Go.Proofs.YtgnahagnmodpdaaDoor
open Go.RowKit Go.Proofs.YtgnahagnmodpdaaDoorW.PrintWords Go.Proofs.YtgnahagnmodpdaaDoor.X Go.IntWalk
set_option linter.unusedVariables false
set_option linter.unusedSimpArgs false
theorem str_one (x : Int) (h0 : 0 ≤ x) (h1 : x < 10) : strOfNums [(wrap64 (48 + x)) % 256] = BA [dgt x.toNat] := by
  unfold strOfNums BA dgt
  rw [wrap64_in _ (by omega)]
  simp only [List.map_cons, List.map_nil]
  rw [show ((48 + x) % 256).toNat = 48 + x.toNat by omega]
theorem ba_append (a b : List UInt8) : BA a ++ BA b = BA (a ++ b) := ba_ext (by simp [BA])
theorem rp_j1 (n v : Int) (i : Nat) (out : List UInt8) (ho : out.length ≤ 100) (hi : i ≤ 3) (v0 : 0 ≤ v) (v1 : v ≤ 255) (r : ByteArray) (h : Ev (fun k => posternref20_Print.l0 k n (BA (out ++ dec3 v.toNat)) ((i + 1 : Nat) : Int)) r) :
    Ev (fun k => posternref20_Print.j1 k n (BA out) (i : Int) v) r := by
  refine Ev.step (fun k => ?_) h
  have d1 : Int.tdiv v 100 = v / 100 := Int.tdiv_eq_ediv_of_nonneg v0
  have d2 : Int.tdiv v 10 = v / 10 := Int.tdiv_eq_ediv_of_nonneg v0
  have d3 : Int.tmod v 10 = v % 10 := Int.tmod_eq_emod_of_nonneg v0
  have d4 : Int.tmod (v / 10) 10 = v / 10 % 10 := Int.tmod_eq_emod_of_nonneg (by omega)
  have hd : dec3 v.toNat = (if 100 ≤ v.toNat then [dgt (v.toNat / 100)] else []) ++ (if 10 ≤ v.toNat then [dgt (v.toNat / 10 % 10)] else []) ++ [dgt (v.toNat % 10)] := rfl
  simp only [posternref20_Print.j1, Option.bind_some]
  rw [d1, d2, d3, wrap64_in (v / 100) (by omega), wrap64_in (v / 10) (by omega), d4, str_one (v / 100) (by omega) (by omega), str_one (v / 10 % 10) (by omega) (by omega), str_one (v % 10) (by omega) (by omega)]
  rw [show (v / 100).toNat = v.toNat / 100 by omega, show (v / 10 % 10).toNat = v.toNat / 10 % 10 by omega, show (v % 10).toNat = v.toNat % 10 by omega, wrap64_in ((i : Int) + 1) (by omega), show (i : Int) + 1 = ((i + 1 : Nat) : Int) by omega]
  simp only [ba_append, ba_size, List.length_append, List.length_cons, List.length_nil]
  by_cases h100 : v ≥ 100
  · rw [if_pos h100, if_pos (by omega), if_pos (by omega), if_pos (by omega), if_pos (by omega)]
    rw [hd, if_pos (by omega), if_pos (by omega)]
    simp only [List.append_assoc]
  · rw [if_neg h100]
    by_cases h10 : v ≥ 10
    · rw [if_pos h10, if_pos (by omega), if_pos (by omega)]
      rw [hd, if_neg (by omega), if_pos (by omega)]
      simp only [List.append_assoc, List.nil_append]
    · rw [if_neg h10, if_pos (by omega)]
      rw [hd, if_neg (by omega), if_neg (by omega)]
      simp only [List.nil_append]
theorem rp_byte (n : Int) (h0 : 0 ≤ n) (h1 : n ≤ 4294967295) : (shr .u32 n (IntKind.u64.wrap (wrap64 (24 - wrap64 (8 * 0)))) = n / 16777216) ∧ (shr .u32 n (IntKind.u64.wrap (wrap64 (24 - wrap64 (8 * 1)))) = n / 65536) ∧ (shr .u32 n (IntKind.u64.wrap (wrap64 (24 - wrap64 (8 * 2)))) = n / 256) ∧ (shr .u32 n (IntKind.u64.wrap (wrap64 (24 - wrap64 (8 * 3)))) = n) := by
  have e0 : IntKind.u64.wrap (wrap64 (24 - wrap64 (8 * 0))) = 24 := by decide +kernel
  have e1 : IntKind.u64.wrap (wrap64 (24 - wrap64 (8 * 1))) = 16 := by decide +kernel
  have e2 : IntKind.u64.wrap (wrap64 (24 - wrap64 (8 * 2))) = 8 := by decide +kernel
  have e3 : IntKind.u64.wrap (wrap64 (24 - wrap64 (8 * 3))) = 0 := by decide +kernel
  rw [e0, e1, e2, e3]
  refine ⟨?_, ?_, ?_, ?_⟩
  · show n / 2 ^ 24 = _
    rfl
  · show n / 2 ^ 16 = _
    rfl
  · show n / 2 ^ 8 = _
    rfl
  · show n / 2 ^ 0 = _
    simp
theorem and_255 (x : Int) (h0 : 0 ≤ x) (h1 : x ≤ 4294967295) : wrap64 (Go.bits .and .u32 x 255) = x % 256 := by
  obtain ⟨N, rfl⟩ := Int.eq_ofNat_of_zero_le h0
  rw [show (255 : Int) = ((255 : Nat) : Int) from rfl, u32_and_nat _ _ (by omega) (by decide), nat_and_255, wrap64_in _ (by omega)]
  omega
theorem rp_end (n : Int) (out : List UInt8) : Ev (fun k => posternref20_Print.l0 k n (BA out) ((3 + 1 : Nat) : Int)) (BA out) := by
  refine Ev.step (f := fun k => some (BA out)) (fun k => ?_) (Ev.now _)
  simp only [posternref20_Print.l0]
  rw [if_neg (by decide)]
theorem rp_step (n b : Int) (i : Nat) (hi : i ≤ 3) (out : List UInt8) (ho : out.length ≤ 99) (r : ByteArray) (b0 : 0 ≤ b) (b1 : b ≤ 4294967295) (hb : shr .u32 n (IntKind.u64.wrap (wrap64 (24 - wrap64 (8 * (i : Int))))) = b)
    (h : Ev (fun k => posternref20_Print.l0 k n (BA ((if i = 0 then out else out ++ [46]) ++ dec3 (b % 256).toNat)) ((i + 1 : Nat) : Int)) r) : Ev (fun k => posternref20_Print.l0 k n (BA out) (i : Int)) r := by
  have hl : (if i = 0 then out else out ++ [46]).length ≤ 100 := by split <;> first | omega | (simp; omega)
  refine Ev.step (fun k => ?_) (rp_j1 n (b % 256) i _ hl hi (by omega) (by omega) r h)
  have hw : ∀ j : Fin 4, 0 ≤ IntKind.u64.wrap (wrap64 (24 - wrap64 (8 * (j.val : Int)))) := by decide +kernel
  simp only [posternref20_Print.l0]
  rw [if_pos (by omega), if_pos (hw ⟨i, by omega⟩), hb, and_255 b b0 b1]
  by_cases h0 : i = 0
  · rw [if_neg (by omega), if_pos h0]
  · rw [if_pos (by omega), if_neg h0, if_pos (by rw [ba_size]; omega), ← ba_append]
    rfl
theorem ref_print (n : Int) (h0 : 0 ≤ n) (h1 : n ≤ 4294967295) : Ev (fun k => posternref20_Print.f k n) (BA (printV n)) := by
  obtain ⟨s0, s1, s2, s3⟩ := rp_byte n h0 h1
  have e0 := dec3_len (n / 16777216 % 256).toNat
  have e1 := dec3_len (n / 65536 % 256).toNat
  have e2 := dec3_len (n / 256 % 256).toNat
  have e : printV n = (((dec3 (n / 16777216 % 256).toNat ++ [46] ++ dec3 (n / 65536 % 256).toNat) ++ [46] ++ dec3 (n / 256 % 256).toNat) ++ [46] ++ dec3 (n % 256).toNat) := by
    unfold printV oct4
    simp only [List.map_cons, List.map_nil, join4]
    rw [itoa_small (by omega) (by omega), itoa_small (by omega) (by omega), itoa_small (by omega) (by omega), itoa_small (by omega) (by omega), show n / 16777216 % 256 = n / 16777216 by omega]
    simp
  rw [e]
  refine Ev.congr (f := fun k => posternref20_Print.l0 k n (BA []) ((0 : Nat) : Int)) (fun k => rfl) ?_
  refine rp_step n (n / 16777216) 0 (by decide) [] (by decide) _ (by omega) (by omega) s0 ?_
  refine rp_step n (n / 65536) 1 (by decide) _ (by simp; omega) _ (by omega) (by omega) s1 ?_
  refine rp_step n (n / 256) 2 (by decide) _ (by simp; omega) _ (by omega) (by omega) s2 ?_
  refine rp_step n n 3 (by decide) _ (by simp; omega) _ (by omega) (by omega) s3 ?_
  exact rp_end n _
end Go.Proofs.YtgnahagnmodpdaaDoor
