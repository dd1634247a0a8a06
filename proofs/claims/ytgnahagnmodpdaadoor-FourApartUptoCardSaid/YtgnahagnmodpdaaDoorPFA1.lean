/- Several texts in one (wip/gen/pack.py): X9 FourCov FourJoin FourJoinF FourS FourP2 X1 X15. -/
import Derived.Test.YtgnahagnmodpdaaDoorPFA0
import Derived.Laws.BitsAllLaws
/-! X9 -/
namespace Go.Proofs.YtgnahagnmodpdaaDoor.X
open Go.RowKit Go.Proofs.YtgnahagnmodpdaaDoorW.PrintWords Go.Proofs.YtgnahagnmodpdaaDoorW.PrintLast Go.Proofs.YtgnahagnmodpdaaDoorW.PrintMore
attribute [local go_sem] max2_int min2_int max_two min_two max_three min_three max_four min_four
set_option linter.unusedVariables false
set_option linter.unusedSimpArgs false
def four_Cover.l0 : Nat → List (S50) → Int → Int → Option ((List (S50)))
  | 0, _, _, _ => none
  | k + 1, x5, x6, x7 => if x6 ≤ x7 then ((bits_TrailingZeros64.f (Go.bits .or .u64 x6 4294967296)).bind fun t324 => ((bits_Len64.f (IntKind.u64.wrap ((IntKind.u64.wrap (x7 - x6)) + 1))).bind fun t325 => (if x5.length < 8796093022208 then (if 0 ≤ (mn t324 (wrap64 (t325 - 1))) then (four_Cover.l0 k (x5 ++ [(⟨(x6) % 4294967296, wrap64 (32 - (mn t324 (wrap64 (t325 - 1))))⟩ : S50)]) (IntKind.u64.wrap (x6 + (shl .u64 1 (mn t324 (wrap64 (t325 - 1)))))) x7) else (none)) else (none)))) else (some x5)
def four_Cover.f (k : Nat) (a0 : Int) (a1 : Int) : Option ((List (S50))) := four_Cover.l0 k ([] : List (S50)) (IntKind.u64.wrap (a0)) (IntKind.u64.wrap (a1))
set_option maxHeartbeats 8000000 in
set_option maxRecDepth 100000 in
theorem four_Cover.calls (k : Nat) (a0 : Int) (a1 : Int) (r : List (S50)) (w : World) (hG : GW w) (h : four_Cover.f k a0 a1 = some r) :
    Calls Tryd.prog 39 #[.int .u32 a0, .int .u32 a1] w fun e w' => ∃ v0_ : Value, e = .returned (v0_) ∧ Kd.R k50 50 w' w.heap.size (fun _ => True) v0_ r ∧ Below w.heap.size w w' := by
  have hu50 := Tryd.underlying50
  have HG := Aside0.mk hG
  clear hG
  have HB := Aside0.mk (Below.refl w.heap.size w)
  have H : (four_Cover.l0 k ([] : List (S50)) (IntKind.u64.wrap (a0)) (IntKind.u64.wrap (a1))) = some r := h
  clear h
  have H' := Aside0.mk H
  clear H
  go_enter Tryd.func39, Tryd.ntmps39
  go_wp2
  go_loopg [5, 6] k (fun kq v5 v6 w' => ∃ (x5_1 : List (S50)) (x6_1 : Int), v6 = .int .u64 x6_1 ∧ Aside0 (four_Cover.l0 kq x5_1 x6_1 (IntKind.u64.wrap (a1)) = some r) ∧ Aside0 (kq ≤ k) ∧ Aside0 (Kd.R k50 50 w' w.heap.size (fun _ => True) v5 x5_1) ∧ Aside0 (Below w.heap.size w w'))
  case atStart => exact ⟨(([] : List (S50))), (IntKind.u64.wrap (a0)), (by first | rfl | (simp; done) | (simp [*]; done)), H', ⟨Nat.le_refl _⟩, ⟨by first | exact Kd.R_nil _ _ _ _ _ | exact Kd.N_nil _ _ _ _ _ | exact Kd.V_nil _ _ _ _ _ | exact Kd.Q_nil _ _ _ _ _ | exact Kd.S_nil _ _ _ _ _⟩, ⟨by repeat (first | (with_reducible first | exact HB.out | apply below_alloc | apply pw_below_drewN | apply below_drew1) | exact HB.out)⟩⟩
  case round =>
    clear H'
    try clear p2
    obtain ⟨x5_1, x6_1, rfl, HA, HK1, HO_5, HB⟩ := hrel
    cases gk with
    | zero => exact absurd HA.out (by simp [four_Cover.l0])
    | succ k1 =>
      have H := HA.out
      clear HA
      simp only [four_Cover.l0] at H
      by_cases c3 : x6_1 ≤ (IntKind.u64.wrap (a1))
      · rw [if_pos c3] at H
        have c3b0 : decide (x6_1 ≤ (IntKind.u64.wrap (a1))) = true := decide_eq_true c3
        clear c3
        replace H := Option.bind_eq_some_iff.mp H
        obtain ⟨t324, A40, H⟩ := H
        replace H : ((bits_Len64.f (IntKind.u64.wrap ((IntKind.u64.wrap ((IntKind.u64.wrap (a1)) - x6_1)) + 1))).bind fun t325 => (if x5_1.length < 8796093022208 then (if 0 ≤ (mn t324 (wrap64 (t325 - 1))) then (four_Cover.l0 k1 (x5_1 ++ [(⟨(x6_1) % 4294967296, wrap64 (32 - (mn t324 (wrap64 (t325 - 1))))⟩ : S50)]) (IntKind.u64.wrap (x6_1 + (shl .u64 1 (mn t324 (wrap64 (t325 - 1)))))) (IntKind.u64.wrap (a1))) else (none)) else (none))) = some r := H
        have A4 := Aside0.mk A40
        clear A40
        replace H := Option.bind_eq_some_iff.mp H
        obtain ⟨t325, A50, H⟩ := H
        replace H : (if x5_1.length < 8796093022208 then (if 0 ≤ (mn t324 (wrap64 (t325 - 1))) then (four_Cover.l0 k1 (x5_1 ++ [(⟨(x6_1) % 4294967296, wrap64 (32 - (mn t324 (wrap64 (t325 - 1))))⟩ : S50)]) (IntKind.u64.wrap (x6_1 + (shl .u64 1 (mn t324 (wrap64 (t325 - 1)))))) (IntKind.u64.wrap (a1))) else (none)) else (none)) = some r := H
        have A5 := Aside0.mk A50
        clear A50
        obtain ⟨ji6, hji6⟩ : ∃ j_ : Int, (mn t324 (wrap64 (t325 - 1))) = j_ := ⟨_, rfl⟩
        replace H : (if x5_1.length < 8796093022208 then (if 0 ≤ (ji6) then (four_Cover.l0 k1 (x5_1 ++ [(⟨(x6_1) % 4294967296, wrap64 (32 - (ji6))⟩ : S50)]) (IntKind.u64.wrap (x6_1 + (shl .u64 1 (ji6)))) (IntKind.u64.wrap (a1))) else (none)) else (none)) = some r := by first | (rw [hji6] at H; exact H) | (simp only [hji6] at H ⊢; exact H)
        (try rw [hji6] at A4)
        (try rw [hji6] at A5)
        have hji6_ : (if (wrap64 (t325 - 1)) < t324 then (wrap64 (t325 - 1)) else t324) = ji6 := hji6
        by_cases c7 : x5_1.length < 8796093022208
        · rw [if_pos c7] at H
          have LMc7 := Aside0.mk c7
          clear c7
          obtain ⟨y326, hy326⟩ : ∃ y_ : List (S50), y_ = (x5_1 ++ [(⟨(x6_1) % 4294967296, wrap64 (32 - (ji6))⟩ : S50)]) := ⟨_, rfl⟩
          replace H : (if 0 ≤ (ji6) then (four_Cover.l0 k1 y326 (IntKind.u64.wrap (x6_1 + (shl .u64 1 (ji6)))) (IntKind.u64.wrap (a1))) else (none)) = some r := by first | (rw [hy326]; with_reducible exact H) | (have H2_ := (Option.bind_some _ _).symm.trans H; rw [hy326]; with_reducible exact H2_) | (have H2_ := (Option.bind_some _ _).symm.trans H; with_reducible exact H2_) | with_reducible exact H | (rw [hy326]; exact H) | exact H
          have Ny326 := Aside0.mk hy326
          clear hy326
          by_cases c8 : 0 ≤ (ji6)
          · rw [if_pos c8] at H
            have c8b0 := eq_true c8
            have c8b1 : decide (0 ≤ (ji6)) = true := decide_eq_true c8
            clear c8
            obtain ⟨ji9, hji9⟩ : ∃ j_ : Int, (shl .u64 1 (ji6)) = j_ := ⟨_, rfl⟩
            replace H : (four_Cover.l0 k1 y326 (IntKind.u64.wrap (x6_1 + (ji9))) (IntKind.u64.wrap (a1))) = some r := by first | (rw [hji9] at H; exact H) | (simp only [hji9] at H ⊢; exact H)
            (try rw [hji9] at A4)
            (try rw [hji9] at A5)
            have hji9_ : (IntKind.u64.wrap (1 * 2 ^ min (ji6).toNat 64)) = ji9 := hji9
            have hji9z : (ji6) ≤ 64 → (IntKind.u64.wrap (1 * 2 ^ (ji6).toNat)) = ji9 := shl_small hji9
            have hji9u : (IntKind.u64.wrap (2 ^ min (ji6).toNat 64)) = ji9 := by have h_ := hji9_; rw [Int.one_mul] at h_; exact h_
            have hji9v : (ji6) ≤ 64 → (IntKind.u64.wrap (2 ^ (ji6).toNat)) = ji9 := fun hle_ => by have h_ := hji9z hle_; rw [Int.one_mul] at h_; exact h_
            have H' := Aside0.mk H
            clear H
            go_wp2_with (first | ((with_reducible refine gate_callee (f := 56) rfl ?_); refine goesL_ (some 18) rfl rfl Tryd.func56 (by kernel_rfl) rfl #[.int .u64 (Go.bits .or .u64 x6_1 4294967296)] rfl (by (try simp only [List.map_toArray, List.map_cons, List.map_nil]); first | done | rfl | (simp only [List.length_drop, List.length_take]; rfl)) ?_; (with_reducible refine (bits_TrailingZeros64.calls (Go.bits .or .u64 x6_1 4294967296) t324 _ (GW.keep HG.out (by repeat (first | (with_reducible first | exact HB.out | apply below_alloc | apply pw_below_drewN | apply below_drew1) | exact HB.out | exact Below.refl _ _))) A4.out).mono ?_); rintro e w' ⟨rfl, ⟨nd, rfl⟩⟩; refine ⟨_, rfl, ?_⟩) | ((with_reducible refine gate_callee (f := 57) rfl ?_); refine goesL_ (some 23) rfl rfl Tryd.func57 (by kernel_rfl) rfl #[.int .u64 (IntKind.u64.wrap ((IntKind.u64.wrap ((IntKind.u64.wrap (a1)) - x6_1)) + 1))] rfl (by (try simp only [List.map_toArray, List.map_cons, List.map_nil]); first | done | rfl | (simp only [List.length_drop, List.length_take]; rfl)) ?_; (with_reducible refine (bits_Len64.calls (IntKind.u64.wrap ((IntKind.u64.wrap ((IntKind.u64.wrap (a1)) - x6_1)) + 1)) t325 _ A5.out).mono ?_); rintro e w' ⟨rfl, ⟨nd, rfl⟩⟩; refine ⟨_, rfl, ?_⟩) | ((with_reducible refine gate_builtin (b := .append) (xs := #[.tmp 26, .tmp 32]) rfl ?_); at_builtin; refine Kd.R_append k50 (w0 := w) w.heap.size rfl (.tmp 26) (.tmp 32) 68 50 (.agg #[(.int .u32 0), (.int .i64 0)]) 16 rfl Tryd.underlying68 info50 rfl (by decide) (by omega) u5 x5_1 (⟨(x6_1) % 4294967296, wrap64 (32 - (ji6))⟩ : S50) [.int .u32 ((x6_1) % 4294967296), .int .i64 (wrap64 (32 - (ji6)))] (fun _ => True) (fun _ => False) rfl rfl ?aP (fun _ hk => hk.elim) ?aF ?aO ?aB ?aS ?aL ?_; (case aP => exact k50_mkM _ _ _ (⟨(x6_1) % 4294967296, wrap64 (32 - (ji6))⟩ : S50)); (case aB => exact (by repeat (first | (with_reducible first | exact HB.out | apply below_alloc | apply pw_below_drewN | apply below_drew1) | exact HB.out))); (case aF => exact (fun _ _ => trivial)); (case aO => exact (by (with_reducible repeat (first | apply Kd.R_alloc | apply Kd.R_drewN | apply Kd.R_drew)); exact HO_5.out)); (case aS => exact (below_size (by repeat (first | (with_reducible first | exact HB.out | apply below_alloc | apply pw_below_drewN | apply below_drew1) | exact HB.out)))); (case aL => have := LMc7.out; omega); intro v327 w10 ho hb hg hat; rw [← Ny326.out] at ho; have n0_ := Aside0.mk (hb); have n1_ := Aside0.mk (ho); clear HB; clear HO_5; have HB := n0_; have HO328 := n1_; clear n0_ n1_; clear ho hb hg hat))
            go_roundg k1
            case measure => have := HK1.out; omega
            case rel => exact ⟨(y326), (IntKind.u64.wrap (x6_1 + (ji9))), (by first | rfl | (simp; done) | (simp only [← hji9] <;> (first | rfl | simp)) | (simp [*]; done)), H', ⟨by have := HK1.out; omega⟩, ⟨by (with_reducible repeat (first | apply Kd.R_alloc | apply Kd.R_drewN | apply Kd.R_drew)); exact HO328.out⟩, ⟨by repeat (first | (with_reducible first | exact HB.out | apply below_alloc | apply pw_below_drewN | apply below_drew1) | exact HB.out)⟩⟩
          · rw [if_neg c8] at H
            exact absurd H (by simp)
        · rw [if_neg c7] at H
          exact absurd H (by simp)
      · rw [if_neg c3] at H
        have c3b0 : decide (x6_1 ≤ (IntKind.u64.wrap (a1))) = false := decide_eq_false c3
        clear c3
        obtain rfl := Option.some.inj H
        go_wp2
        go_ret
        exact ⟨_, by first | rfl | (simp [errW_none, errW_some] <;> rfl) | (simp [*, errW_none, errW_some] <;> rfl), by (with_reducible repeat (first | apply Kd.R_alloc | apply Kd.R_drewN | apply Kd.R_drew)); exact HO_5.out, by repeat (first | (with_reducible first | exact HB.out | apply below_alloc | apply pw_below_drewN | apply below_drew1) | exact HB.out)⟩
def four_last.f (a0_0 : Int) (a0_1 : Int) : Option (Int) := if 0 ≤ a0_1 then (some (Go.bits .or .u32 a0_0 (shr .u32 4294967295 a0_1))) else (none)
set_option maxHeartbeats 8000000 in
set_option maxRecDepth 100000 in
theorem four_last.calls (a0_0 : Int) (a0_1 : Int) (r : Int) (w : World) (h : four_last.f a0_0 a0_1 = some r) :
    Calls Tryd.prog 64 #[.agg #[.int .u32 a0_0, .int .i64 a0_1]] w fun e w' => e = .returned (.int .u32 r) ∧ Below w.heap.size w w' := by
  have hu50 := Tryd.underlying50
  have HB := Aside0.mk (Below.refl w.heap.size w)
  have H : (if 0 ≤ a0_1 then (some (Go.bits .or .u32 a0_0 (shr .u32 4294967295 a0_1))) else (none)) = some r := h
  clear h
  by_cases c2 : 0 ≤ a0_1
  · rw [if_pos c2] at H
    have c2b0 := eq_true c2
    have c2b1 : decide (0 ≤ a0_1) = true := decide_eq_true c2
    clear c2
    obtain ⟨ji3, hji3⟩ : ∃ j_ : Int, (shr .u32 4294967295 a0_1) = j_ := ⟨_, rfl⟩
    replace H : (some (Go.bits .or .u32 a0_0 (ji3))) = some r := by first | (rw [hji3] at H; exact H) | (simp only [hji3] at H ⊢; exact H)
    have hji3_ : (4294967295 / 2 ^ min a0_1.toNat 32) = ji3 := hji3
    have hji3z : a0_1 ≤ 32 → (4294967295 / 2 ^ a0_1.toNat) = ji3 := shr_small hji3
    obtain rfl := Option.some.inj H
    go_enter Tryd.func64, Tryd.ntmps64
    go_wp2_with (first | ((with_reducible refine gate_dst (N := 1) rfl ?_); refine box_event ?hg (N := 1) ?hd (cs := #[.int .u32 a0_0, .int .i64 a0_1]) (t := 50) ?hr ?_; (case hd => rfl); (case hg => rfl); (case hr => first | (go_simp; done) | (go_simp; rfl)); intro gb331 hg w4 hbox hb; have n0_ := Aside0.mk (below_step (by repeat (first | (with_reducible first | exact HB.out | apply below_alloc | apply pw_below_drewN | apply below_drew1) | exact HB.out)) hb); have n1_ := Aside0.mk (hbox); have n2_ := Aside0.mk ((by rw [hg]; exact (below_size (by repeat (first | (with_reducible first | exact HB.out | apply below_alloc | apply pw_below_drewN | apply below_drew1) | exact HB.out))) : w.heap.size ≤ gb331)); have n3_ := Aside0.mk ((by rw [hg]; exact (below_size (by repeat (first | (with_reducible first | exact HB.out | apply below_alloc | apply pw_below_drewN | apply below_drew1) | exact HB.out))) : w.heap.size ≤ gb331)); clear HB; have HB := n0_; have BK331 := n1_; have GW331 := n2_; have GE331 := n3_; clear n0_ n1_ n2_ n3_; clear hb hbox hg; have hcz5_0 : w4.cell? ⟨gb331, 0, none⟩ = some (.int .u32 a0_0) := (blk_cell BK331.out 0).trans rfl; have hcz5_1 : w4.cell? ⟨gb331, 1, none⟩ = some (.int .i64 a0_1) := (blk_cell BK331.out 1).trans rfl; have hfz5_0 := blk_frozen BK331.out 0; have hfz5_1 := blk_frozen BK331.out 1))
    repeat (go_quiet (first | ((with_reducible refine gate_dst (N := 1) rfl ?_); refine box_event ?hg (N := 1) ?hd (cs := #[.int .u32 a0_0, .int .i64 a0_1]) (t := 50) ?hr ?_; (case hd => rfl); (case hg => rfl); (case hr => first | (go_simp; done) | (go_simp; rfl)); intro gb331 hg w4 hbox hb; have n0_ := Aside0.mk (below_step (by repeat (first | (with_reducible first | exact HB.out | apply below_alloc | apply pw_below_drewN | apply below_drew1) | exact HB.out)) hb); have n1_ := Aside0.mk (hbox); have n2_ := Aside0.mk ((by rw [hg]; exact (below_size (by repeat (first | (with_reducible first | exact HB.out | apply below_alloc | apply pw_below_drewN | apply below_drew1) | exact HB.out))) : w.heap.size ≤ gb331)); have n3_ := Aside0.mk ((by rw [hg]; exact (below_size (by repeat (first | (with_reducible first | exact HB.out | apply below_alloc | apply pw_below_drewN | apply below_drew1) | exact HB.out))) : w.heap.size ≤ gb331)); clear HB; have HB := n0_; have BK331 := n1_; have GW331 := n2_; have GE331 := n3_; clear n0_ n1_ n2_ n3_; clear hb hbox hg; have hcz5_0 : w4.cell? ⟨gb331, 0, none⟩ = some (.int .u32 a0_0) := (blk_cell BK331.out 0).trans rfl; have hcz5_1 : w4.cell? ⟨gb331, 1, none⟩ = some (.int .i64 a0_1) := (blk_cell BK331.out 1).trans rfl; have hfz5_0 := blk_frozen BK331.out 0; have hfz5_1 := blk_frozen BK331.out 1)); try go_wp2_with (first | ((with_reducible refine gate_dst (N := 1) rfl ?_); refine box_event ?hg (N := 1) ?hd (cs := #[.int .u32 a0_0, .int .i64 a0_1]) (t := 50) ?hr ?_; (case hd => rfl); (case hg => rfl); (case hr => first | (go_simp; done) | (go_simp; rfl)); intro gb331 hg w4 hbox hb; have n0_ := Aside0.mk (below_step (by repeat (first | (with_reducible first | exact HB.out | apply below_alloc | apply pw_below_drewN | apply below_drew1) | exact HB.out)) hb); have n1_ := Aside0.mk (hbox); have n2_ := Aside0.mk ((by rw [hg]; exact (below_size (by repeat (first | (with_reducible first | exact HB.out | apply below_alloc | apply pw_below_drewN | apply below_drew1) | exact HB.out))) : w.heap.size ≤ gb331)); have n3_ := Aside0.mk ((by rw [hg]; exact (below_size (by repeat (first | (with_reducible first | exact HB.out | apply below_alloc | apply pw_below_drewN | apply below_drew1) | exact HB.out))) : w.heap.size ≤ gb331)); clear HB; have HB := n0_; have BK331 := n1_; have GW331 := n2_; have GE331 := n3_; clear n0_ n1_ n2_ n3_; clear hb hbox hg; have hcz5_0 : w4.cell? ⟨gb331, 0, none⟩ = some (.int .u32 a0_0) := (blk_cell BK331.out 0).trans rfl; have hcz5_1 : w4.cell? ⟨gb331, 1, none⟩ = some (.int .i64 a0_1) := (blk_cell BK331.out 1).trans rfl; have hfz5_0 := blk_frozen BK331.out 0; have hfz5_1 := blk_frozen BK331.out 1)))
    go_ret
    exact ⟨by first | rfl | (simp [errW_none, errW_some] <;> rfl) | (simp only [← hji3]; first | rfl | (simp [errW_none, errW_some] <;> rfl)) | (simp [*, errW_none, errW_some] <;> rfl), by repeat (first | (with_reducible first | exact HB.out | apply below_alloc | apply pw_below_drewN | apply below_drew1 | refine below_set ?_ GE331.out) | exact HB.out)⟩
  · rw [if_neg c2] at H
    exact absurd H (by simp)
end Go.Proofs.YtgnahagnmodpdaaDoor.X
/-! FourCov -/
namespace Go.Proofs.YtgnahagnmodpdaaDoor
open Go.RowKit Go.Proofs.YtgnahagnmodpdaaDoorW.PrintWords Go.Proofs.YtgnahagnmodpdaaDoor.X Go.IntWalk
set_option linter.unusedVariables false
set_option linter.unusedSimpArgs false
/-- A prefix as the program has it. -/
def toS (x : Nat × Nat) : S50 := ⟨(x.1 : Int), (x.2 : Int)⟩
def covS (a e : Int) : List S50 := (covL a.toNat e.toNat).map toS
theorem cov_len {e : Nat} (he : e < 4294967296) : ∀ a, (covL a e).length ≤ e + 1 - a := by
  refine cov_ind he _ (fun a h => ?_) (fun a h ih => ?_)
  · rw [covL_lt (by omega)]
    exact Nat.zero_le _
  · have := Nat.two_pow_pos (stepS a e)
    rw [covL_le h, List.length_cons]
    omega
theorem wu64c (x : Int) (a : 0 ≤ x) (b : x < 18446744073709551616) : IntKind.u64.wrap x = x := by simp [IntKind.wrap, IntKind.signed, IntKind.bits]; omega
theorem or_top (a : Nat) (ha : a < 4294967296) : Go.bits .or .u64 (a : Int) 4294967296 = ((a + 4294967296 : Nat) : Int) := by
  have h := u64_or_nat a 4294967296 (by omega) (by omega)
  have e : a ||| 4294967296 = a + 4294967296 := by
    have := Nat.two_pow_add_eq_or_of_lt (i := 32) (b := a) (show a < 2 ^ 32 from ha) 1
    rw [Nat.or_comm]
    rw [Nat.mul_one] at this
    rw [show (4294967296 : Nat) = 2 ^ 32 from rfl, ← this, Nat.add_comm]
  rw [e] at h
  exact h
theorem mn_min (c L : Nat) (h1 : 1 ≤ L) (h2 : L ≤ 64) : mn (c : Int) (wrap64 ((L : Int) - 1)) = ((min c (L - 1) : Nat) : Int) := by
  rw [wrap64_in _ (by omega)]
  unfold mn
  split <;> omega
theorem shl_one : ∀ s : Fin 33, shl .u64 1 (s.val : Int) = ((2 ^ s.val : Nat) : Int) := by decide +kernel
theorem cover_l0 {e : Nat} (he : e < 4294967296) : ∀ (m a : Nat) (acc : List S50), e + 1 - a ≤ m → a ≤ e + 1 → acc.length ≤ a → Ev (fun k => four_Cover.l0 k acc (a : Int) (e : Int)) (acc ++ (covL a e).map toS)
  | 0, a, acc, hm, ha, hl => by
    rw [covL_lt (by omega)]
    refine Ev.step (f := fun k => some (acc ++ [].map toS)) (fun k => ?_) (Ev.now _)
    simp only [four_Cover.l0]
    rw [if_neg (by omega), List.map_nil, List.append_nil]
  | m + 1, a, acc, hm, ha, hl => by
    by_cases h : a ≤ e
    · obtain ⟨s1, s2, s3, s4⟩ := stepS_ok a e h he
      have hq := Nat.two_pow_pos (stepS a e)
      have ih := cover_l0 he m (a + 2 ^ stepS a e) (acc ++ [toS (a, 32 - stepS a e)]) (by omega) s3 (by simp; omega)
      rw [covL_le h, List.map_cons]
      rw [List.append_assoc] at ih
      refine Ev.step (fun k => ?_) ih
      obtain ⟨b1, b2, b3⟩ := Lib.bitLenAux_bounds 64 (e - a + 1) (by rw [show (2 : Nat) ^ 64 = 18446744073709551616 by decide]; omega) (by omega)
      have hlen : bits_Len64.f (IntKind.u64.wrap ((IntKind.u64.wrap ((e : Int) - (a : Int))) + 1)) = some ((Lib.bitLen (e - a + 1) : Nat) : Int) := by
        have e1 : IntKind.u64.wrap ((e : Int) - (a : Int)) = (e : Int) - (a : Int) := wu64c _ (by omega) (by omega)
        have e2 : IntKind.u64.wrap ((e : Int) - (a : Int) + 1) = ((e - a + 1 : Nat) : Int) := by rw [wu64c _ (by omega) (by omega)]; omega
        rw [e1, e2]
        unfold bits_Len64.f
        rw [if_pos (by omega), Int.toNat_natCast]
      have hctz : bits_TrailingZeros64.f (Go.bits .or .u64 (a : Int) 4294967296) = some ((Lib.ctz 64 (a + 4294967296) : Nat) : Int) := by
        rw [or_top a (by omega)]
        unfold bits_TrailingZeros64.f
        rw [if_pos (by omega), Int.toNat_natCast]
      have hL : Lib.bitLen (e - a + 1) ≤ 64 := Lib.bitLen_le _ 64 (Nat.le_refl _) (by rw [show (2 : Nat) ^ 64 = 18446744073709551616 by decide]; omega)
      have hmn : mn ((Lib.ctz 64 (a + 4294967296) : Nat) : Int) (wrap64 (((Lib.bitLen (e - a + 1) : Nat) : Int) - 1)) = ((stepS a e : Nat) : Int) := by
        exact mn_min _ _ b1 hL
      have hsh := shl_one ⟨stepS a e, by omega⟩
      simp only at hsh
      simp only [four_Cover.l0]
      rw [if_pos (by omega), hctz, Option.bind_some, hlen, Option.bind_some, hmn, if_pos (by omega), if_pos (by omega), hsh, wu64c _ (by omega) (by have := s3; omega)]
      have w32 : wrap64 (32 - ((stepS a e : Nat) : Int)) = ((32 - stepS a e : Nat) : Int) := by rw [wrap64_in _ (by omega)]; omega
      have m32 : (a : Int) % 4294967296 = (a : Int) := by omega
      rw [w32, m32, show (a : Int) + ((2 ^ stepS a e : Nat) : Int) = ((a + 2 ^ stepS a e : Nat) : Int) by omega]
      rfl
    · rw [covL_lt h]
      refine Ev.step (f := fun k => some (acc ++ [].map toS)) (fun k => ?_) (Ev.now _)
      simp only [four_Cover.l0]
      rw [if_neg (by omega), List.map_nil, List.append_nil]
theorem cover_ev (a e : Int) (a0 : 0 ≤ a) (a1 : a ≤ 4294967295) (e0 : 0 ≤ e) (e1 : e ≤ 4294967295) : Ev (fun k => four_Cover.f k a e) (covS a e) := by
  unfold four_Cover.f covS
  rw [wu64c a a0 (by omega), wu64c e e0 (by omega)]
  by_cases h : a ≤ e
  · have := cover_l0 (e := e.toNat) (by omega) _ a.toNat [] (Nat.le_refl _) (by omega) (Nat.zero_le _)
    rw [Int.toNat_of_nonneg a0, Int.toNat_of_nonneg e0] at this
    exact this
  · rw [covL_lt (by omega)]
    refine Ev.step (f := fun k => some ([].map toS)) (fun k => ?_) (Ev.now _)
    simp only [four_Cover.l0]
    rw [if_neg (by omega)]
    rfl
theorem c_cover (a e : Int) (a0 : 0 ≤ a) (a1 : a ≤ 4294967295) (e0 : 0 ≤ e) (e1 : e ≤ 4294967295) (w : World) (hG : GW w) :
    Calls Tryd.prog 39 #[.int .u32 a, .int .u32 e] w fun ex w' => ∃ v : Value, ex = .returned v ∧ Kd.R k50 50 w' w.heap.size (fun _ => True) v (covS a e) ∧ Below w.heap.size w w' := by
  obtain ⟨k, h⟩ := (cover_ev a e a0 a1 e0 e1).rounds
  exact four_Cover.calls k a e _ w hG h
end Go.Proofs.YtgnahagnmodpdaaDoor
/-! FourJoin -/
namespace Go.Proofs.YtgnahagnmodpdaaDoor
open Go.RowKit Go.Proofs.YtgnahagnmodpdaaDoorW.PrintWords Go.Proofs.YtgnahagnmodpdaaDoor.X Go.IntWalk Go.Lib Go.Sort
set_option linter.unusedVariables false
set_option linter.unusedSimpArgs false
/-- A prefix as a range. -/
def rngS (x : S50) : Int × Int := (x.f0, x.f0 + sizeV x.f1 - 1)
theorem last_f (x : S50) (h0 : 0 ≤ x.f0) (h1 : x.f0 ≤ 4294967295) (h : isV x.f0 x.f1 = true) : four_last.f x.f0 x.f1 = some (rngS x).2 ∧ x.f0 ≤ (rngS x).2 ∧ (rngS x).2 ≤ 4294967295 := by
  unfold isV at h
  simp only [Bool.and_eq_true, decide_eq_true_eq, beq_iff_eq] at h
  obtain ⟨b0, b1, hd⟩ := h
  unfold four_last.f rngS
  rw [if_pos b0, shr_all b0 b1]
  have es : sizeV x.f1 = ((2 ^ (32 - x.f1).toNat : Nat) : Int) := by unfold sizeV; simp
  rw [es] at hd ⊢
  have ht : (32 - x.f1).toNat ≤ 32 := by omega
  generalize (32 - x.f1).toNat = t at *
  obtain ⟨a, ha⟩ := Int.eq_ofNat_of_zero_le h0
  rw [ha] at hd h1 ⊢
  rw [← Int.natCast_ediv, ← Int.natCast_mul] at hd
  have hd2 : a / 2 ^ t * 2 ^ t = a := Int.ofNat.inj hd
  have hp : 2 ^ t ≤ 2 ^ 32 := Nat.pow_le_pow_right (by decide) ht
  have hq := Nat.two_pow_pos t
  have p32 : (2 : Nat) ^ 32 = 4294967296 := by decide
  have hor : a ||| (2 ^ t - 1) = a + (2 ^ t - 1) := by
    have := Nat.two_pow_add_eq_or_of_lt (i := t) (b := 2 ^ t - 1) (by omega) (a / 2 ^ t)
    rw [Nat.mul_comm, hd2] at this
    exact this.symm
  have hle : a + 2 ^ t ≤ 4294967296 := by
    have h3 : a / 2 ^ t < 2 ^ (32 - t) := by
      apply Nat.div_lt_of_lt_mul
      rw [← Nat.pow_add, show t + (32 - t) = 32 by omega, p32]
      omega
    have h4 : (a / 2 ^ t + 1) * 2 ^ t ≤ 2 ^ (32 - t) * 2 ^ t := Nat.mul_le_mul_right _ h3
    rw [← Nat.pow_add, show 32 - t + t = 32 by omega, p32, Nat.add_mul, hd2, Nat.one_mul] at h4
    exact h4
  rw [u32_or_nat a (2 ^ t - 1) (by omega) (by omega), hor]
  refine ⟨by congr 1; omega, by omega, by omega⟩
set_option maxHeartbeats 1000000 in
set_option maxRecDepth 100000 in
theorem clone_walk (A : Option Addr) (c : Nat) (l : List S50) (w : World) (hr : Kd.C k50 w A l.length l) (hn : l.length ≤ 8796093022208) :
    Calls Tryd.prog 60 #[.slice A l.length c] w fun e w' => ∃ v, e = .returned v ∧ Kd.R k50 50 w' w.heap.size (fun _ => True) v l ∧ Below w.heap.size w w' := by
  cases A with
  | none =>
    obtain rfl : l = [] := by
      rcases Nat.eq_zero_or_pos l.length with h | h
      · exact List.eq_nil_of_length_eq_zero h
      · obtain ⟨ad, e, _⟩ := hr.2.2 h
        cases e
    refine (c_clone_nil 0 c w).mono ?_
    rintro e w' ⟨rfl, rfl⟩
    exact ⟨_, rfl, Kd.R_nil _ _ _ _ _, Below.refl _ _⟩
  | some ad =>
    have HR := Aside0.mk hr
    generalize hm : l.length = m at *
    have HM := Aside0.mk hm
    clear hr hm
    have q68 : ∀ (w : World) (a : Option Addr) (n c n' c' : Nat), (binOp .eql 68 (.slice a n c) (.slice none n' c')).run Tryd.prog w = .ok (.bool a.isNone) w := fun w a n c n' c' => Lib.run_eql_slice_nil w _ _ a n c n' c' Tryd.underlying68
    go_enter Tryd.func60, Tryd.ntmps60
    have B := Below.alloc (Below.refl w.heap.size w) (Nat.le_refl _) (.cells #[] 50)
    have B := Aside0.mk B
    go_wp2_with ((with_reducible refine gate_builtin (b := .append) (xs := #[.tmp 5, .tmp 6]) rfl ?_); at_builtin; refine Kd.R_append_rows k50 (w0 := w) w.heap.size rfl (.tmp 5) (.tmp 6) 68 50 (.agg #[(.int .u32 0), (.int .i64 0)]) 16 rfl Tryd.underlying68 info50 rfl (by decide) (by omega) (.slice (some ⟨w.heap.size, 0, none⟩) 0 0) [] l _ _ _ (fun _ => True) (fun _ => False) rfl rfl ?aO ?aR (fun _ _ h => h) (fun _ h => h.elim) ?aF ?aB ?aS ?aL ?_; (case aO => exact ⟨fun _ _ => trivial, [], World.ownsRow_made w #[] 0 (Nat.le_refl _) (Nat.zero_le _) (by simp), Reps.none _ _⟩); (case aR => exact Kd.C_alloc HR.out _); (case aF => exact fun _ _ => trivial); (case aB => exact B.out); (case aS => exact B.out.size); (case aL => simp; omega); intro v1 w1 hR hB hg hat)
    go_ret
    exact ⟨_, rfl, hR, hB⟩
theorem reps_flat {w : World} {base : Nat} {ok : Nat → Prop} {l : List S50} {inner : List Value} (h : Reps (k50.M w base ok) k50.sz l inner) : inner = l.flatMap encB := by
  have hs : k50.sz = 2 := rfl
  rw [hs] at h
  obtain ⟨hl, hc⟩ := h
  apply List.ext_getElem?
  intro t
  rcases Nat.lt_or_ge t (l.length * 2) with ht | ht
  · rw [flat_get l t ht]
    have hj : t / 2 < l.length := by omega
    have h1 := hc (t / 2) l[t / 2] (List.getElem?_eq_getElem hj)
    have h2 := k50_openM h1
    have h3 : ((inner.drop (t / 2 * 2)).take 2)[t % 2]? = inner[t]? := by
      rw [List.getElem?_take, if_pos (by omega), List.getElem?_drop, show t / 2 * 2 + t % 2 = t by omega]
    rw [← h3, h2, getElem!_pos l (t / 2) hj]
    obtain h | h : t % 2 = 0 ∨ t % 2 = 1 := by omega
    · rw [h]; rfl
    · rw [h]; rfl
  · rw [List.getElem?_eq_none (by omega), List.getElem?_eq_none (by rw [flat_len]; omega)]
theorem sort_walk (v : Value) (l : List S50) (w0 w : World) (hR : Kd.R k50 50 w w0.heap.size (fun _ => True) v l) (hn : l.length ≤ 8796093022208) (hB : Below w0.heap.size w0 w) :
    Calls Tryd.prog 61 #[v, .func (.func 62) #[] #[]] w fun e w' => e = .returned (.tuple #[]) ∧ ∃ (D : List S50) (A : Option Addr) (c : Nat), v = .slice A l.length c ∧ (∀ ad, A = some ad → ∃ g, ad = ⟨g, 0, none⟩) ∧ Kd.C k50 w' A l.length D ∧ Below w0.heap.size w0 w' ∧ D.Perm l ∧ AscS D := by
  obtain ⟨_, inner, ho, hr⟩ := hR
  obtain rfl := reps_flat hr
  by_cases hv : v = .slice none 0 0
  · subst hv
    have hl : l = [] := by
      rcases ho.2 with ⟨_, h⟩ | ⟨g, cap, cur, e0, _⟩
      · exact List.eq_nil_of_length_eq_zero h
      · cases e0
    subst hl
    refine (c_sort_none 0 _ w).mono ?_
    rintro e w' ⟨rfl, rfl⟩
    exact ⟨rfl, [], none, 0, rfl, (fun _ h => by cases h), ⟨rfl, by decide, fun h => absurd h (by decide)⟩, hB, List.Perm.refl _, List.Pairwise.nil⟩
  · obtain ⟨g, cap, rfl, hg, hlt, hc, hl, hH⟩ := holdsK_own ho hv
    have hs := c_sort g 0 cap l.toArray w hH hlt (by simp; omega)
    rw [List.size_toArray] at hs
    refine hs.mono ?_
    rintro e w' ⟨rfl, d', q, os, hp, hso, rfl⟩
    obtain ⟨h1, h2, h3, h4⟩ := sorted_post (q := q) (os := os) hB hg hlt rfl (by omega) hH (by rw [List.size_toArray]; exact hp) (by rw [List.size_toArray]; exact hso)
    exact ⟨rfl, d'.toList, _, cap, rfl, fun _ h => ⟨g, (Option.some.inj h).symm⟩, h1, h2, h3, h4⟩
/-- What a list that is joined must be for the walk: addresses, and prefixes. -/
def rgL (l : List S50) : Prop := ∀ x ∈ l, 0 ≤ x.f0 ∧ x.f0 ≤ 4294967295
def vL (l : List S50) : Prop := ∀ x ∈ l, isV x.f0 x.f1 = true
/-- Where the loop over the sorted prefixes stands. -/
def OutOk (acc : List (Int × Int)) (rest : List S50) : Prop := ∃ hi : Int, 0 ≤ hi ∧ hi ≤ 4294967296 ∧ ((covR acc).length : Int) ≤ hi ∧ ∀ x ∈ rest, hi ≤ x.f0
def JR (w2 : World) (D : List S50) (v i8 : Value) (W : World) : Prop := ∃ (i : Nat) (acc : List (Int × Int)), i8 = .int .i64 i ∧ i ≤ D.length ∧ Kd.R k50 50 W w2.heap.size (fun _ => True) v ((covR acc).map toS) ∧ Below w2.heap.size w2 W ∧ sweepL (D.map rngS) = acc ++ sweepL ((D.drop i).map rngS) ∧ OutOk acc (D.drop i)
def IR (W1 : World) (D : List S50) (acc : List (Int × Int)) (a : Int) (i : Nat) (i8 t10 : Value) (W : World) : Prop := ∃ (j : Nat) (t : Int), i8 = .int .i64 j ∧ t10 = .int .u64 t ∧ i < j ∧ j ≤ D.length ∧ a ≤ t ∧ t ≤ 4294967295 ∧ Below W1.heap.size W1 W ∧ sweepL (D.map rngS) = acc ++ sweep a t ((D.drop j).map rngS)
theorem drop_at {D : List S50} {n i : Nat} (hn : D.length = n) (hi : i < n) : D.drop i = rd_T50 D (i : Int) :: D.drop (i + 1) := by
  subst hn
  rw [List.drop_eq_getElem_cons hi]
  unfold rd_T50
  rw [Int.toNat_natCast, List.getD_eq_getElem?_getD, List.getElem?_eq_getElem hi]
  rfl
theorem covR_snoc (acc : List (Int × Int)) (a t : Int) : covR (acc ++ [(a, t)]) = covR acc ++ covL a.toNat t.toNat := by simp [covR]
theorem step_out {acc : List (Int × Int)} {rest rest' : List S50} {x : S50} {t : Int} (hO : OutOk acc rest) (hx : x ∈ rest) (h0 : 0 ≤ x.f0) (h1 : x.f0 ≤ t) (h2 : t ≤ 4294967295) (hz : ∀ z ∈ rest', t + 1 ≤ z.f0) : OutOk (acc ++ [(x.f0, t)]) rest' := by
  obtain ⟨hi, a, b, c, d⟩ := hO
  have hd := d x hx
  have hl := cov_len (e := t.toNat) (by omega) x.f0.toNat
  refine ⟨t + 1, by omega, by omega, ?_, hz⟩
  rw [covR_snoc, List.length_append]
  omega
theorem sized_out {acc : List (Int × Int)} {rest : List S50} {a t : Int} (hO : OutOk acc rest) (h0 : 0 ≤ a) (h2 : t ≤ 4294967295) : (((covR acc).map toS).length + (covS a t).length) * 16 ≤ 140737488355328 := by
  obtain ⟨hi, p, b, c, d⟩ := hO
  have hl := cov_len (e := t.toNat) (by omega) a.toNat
  unfold covS
  rw [List.length_map, List.length_map]
  omega
theorem asc_drop {D : List S50} (h : AscS D) {n j : Nat} (hn : D.length = n) (hj : j < n) {y : S50} (hy : y = rd_T50 D (j : Int)) : ∀ z ∈ D.drop j, y.f0 ≤ z.f0 := by
  have hd := drop_at hn hj
  rw [← hy] at hd
  intro z hz
  have hs : AscS (D.drop j) := List.Pairwise.sublist (List.drop_sublist j D) h
  rw [hd] at hz hs
  rcases List.mem_cons.1 hz with rfl | hz
  · exact Int.le_refl _
  · exact (List.pairwise_cons.1 hs).1 z hz
theorem asc_map {D : List S50} (h : AscS D) : Asc (D.map rngS) := by
  unfold Asc
  rw [List.pairwise_map]
  exact h
theorem c_last (x : S50) (h0 : 0 ≤ x.f0) (h1 : x.f0 ≤ 4294967295) (h : isV x.f0 x.f1 = true) (w : World) : Calls Tryd.prog 64 #[.agg #[.int .u32 x.f0, .int .i64 x.f1]] w fun e w' => e = .returned (.int .u32 (rngS x).2) ∧ Below w.heap.size w w' :=
  four_last.calls x.f0 x.f1 _ w (last_f x h0 h1 h).1
set_option maxHeartbeats 4000000 in
set_option maxRecDepth 100000 in
theorem join_walk (A : Option Addr) (c : Nat) (l : List S50) (w : World) (hr : Kd.C k50 w A l.length l) (hc : l.length ≤ c) (hG : GW w) (hrg : rgL l) (hv : vL l) (hn : l.length ≤ 8796093022208)
    (hidx : ∀ w, Kd.C k50 w A l.length l → Calls Tryd.prog 58 #[.slice A l.length c, .func (.func 59) #[] #[]] w fun e w' => e = .returned (.int .i64 (-1)) ∧ Below w.heap.size w w') :
    Calls Tryd.prog 40 #[.slice A l.length c] w fun e w' => ∃ v, e = .returned (.tuple #[v, .int .i64 0, .int .i64 0]) ∧ Kd.R k50 50 w' w.heap.size (fun _ => True) v ((covR (joinR [] (l.map rngS))).map toS) ∧ Below w.heap.size w w' := by
  have HG := Aside0.mk hG
  have HI := Aside0.mk (hidx w hr)
  have HR := Aside0.mk hr
  have HRG := Aside0.mk hrg
  have HV := Aside0.mk hv
  clear hidx hr hG hrg hv
  go_enter Tryd.func40, Tryd.ntmps40
  go_wp2_with fail
  refine HI.out.mono ?_
  rintro e w1 ⟨rfl, hb⟩
  clear HI
  have B := Aside0.mk hb
  clear hb
  go_wp2_with fail
  refine (clone_walk A c l _ (Kd.C_below HR.out B.out) hn).mono ?_
  rintro e w2 ⟨v, rfl, hR, hb⟩
  have hR := Aside0.mk (Kd.R_lower hR B.out.size)
  have B := Aside0.mk (below_step B.out hb)
  clear hb
  go_wp2_with fail
  refine (sort_walk v l w w2 hR.out hn B.out).mono ?_
  rintro e w3 ⟨rfl, D, A', c', rfl, hlit, hC, hb, hp, ha⟩
  have HLIT := Aside0.mk hlit
  clear hlit
  clear hR
  have B := Aside0.mk hb
  have HD := Aside0.mk (And.intro hC (And.intro hp ha))
  clear hb hC hp ha
  go_wp2_with fail
  have hDl : D.length = l.length := HD.out.2.1.length_eq
  generalize hm : l.length = n at *
  have HDL := Aside0.mk hDl
  clear hDl hm hc HR
  go_loopw [7, 8] (fun s7 s8 W => JR w3 D s7 s8 W) (fun s7 s8 _ => n - (intOf s8).toNat)
  case atStart => exact ⟨0, [], rfl, Nat.zero_le _, Kd.R_nil _ _ _ _ _, Below.refl _ _, rfl, 0, by decide, by decide, Int.le_refl _, fun x hx => (HRG.out x (HD.out.2.1.subset (List.mem_of_mem_drop hx))).1⟩
  case round =>
    obtain ⟨i, acc, rfl, hi, hR, hB, hs, hO⟩ := hrel
    have HRr := Aside0.mk hR
    have HBr := Aside0.mk hB
    have HS := Aside0.mk hs
    have HO := Aside0.mk hO
    clear hR hB hs hO
    rw [HDL.out] at hi
    by_cases hlt : i < n
    · have hltz : (i : Int) < (n : Int) := by omega
      obtain ⟨ad, hA, c0, c1⟩ := at_T50 (Kd.C_below HD.out.1 HBr.out) (i : Int) (by omega) hltz
      obtain ⟨g, hg⟩ := HLIT.out ad hA
      subst hg
      subst hA
      rw [Addr.add_lit, Int.toNat_natCast] at c0 c1
      have hgl := World.block_lt_of_cell? wr _ c0
      simp only [Nat.zero_add] at c0 c1 hgl
      have hx : rd_T50 D (i : Int) ∈ D := by
        unfold rd_T50
        rw [Int.toNat_natCast, List.getD_eq_getElem?_getD, List.getElem?_eq_getElem (by rw [HDL.out]; exact hlt)]
        exact List.getElem_mem _
      have HX := Aside0.mk (And.intro (HRG.out _ (HD.out.2.1.subset hx)) (HV.out _ (HD.out.2.1.subset hx)))
      obtain ⟨x, ex⟩ : ∃ x, x = rd_T50 D (i : Int) := ⟨_, rfl⟩
      rw [← ex] at c0 c1 HX
      have EX := Aside0.mk ex
      clear ex hx
      have HL := c_last x HX.out.1.1 HX.out.1.2 HX.out.2
      obtain ⟨_, hx1, hx2⟩ := last_f x HX.out.1.1 HX.out.1.2 HX.out.2
      have hx0 := HX.out.1.1
      obtain ⟨t0, et0⟩ : ∃ t, t = (rngS x).2 := ⟨_, rfl⟩
      rw [← et0] at HL hx1 hx2
      have HL := Aside0.mk HL
      have ET0 := Aside0.mk et0
      clear et0
      go_wp2_with fail
      refine wp_region_ext (by kernel_rfl) (by kernel_rfl) ?_
      repeat (go_big_quiet_step (with_reducible exact ext_of (HL.out _)))
      refine wpQuiet_nil ?_
      rintro W1 ⟨⟨_, hb⟩, rfl⟩
      have HB1 := Aside0.mk hb
      clear hb c0 c1 hgl
      go_wp2_with fail
      go_loopw [8, 10] (fun s8 s10 W => IR W1 D acc x.f0 i s8 s10 W) (fun s8 s10 _ => n - (intOf s8).toNat)
      case atStart =>
        refine ⟨i + 1, t0, by simp, rfl, by omega, by rw [HDL.out]; omega, hx1, hx2, Below.refl _ _, ?_⟩
        rw [HS.out, drop_at HDL.out hlt, ← EX.out, List.map_cons]
        show acc ++ sweep (rngS x).1 (rngS x).2 _ = _
        rw [← ET0.out]
        rfl
      case round =>
        obtain ⟨j, t, rfl, rfl, hij, hj, hat, ht, hBi, hsi⟩ := hrel
        rw [HDL.out] at hj
        have HBi := Aside0.mk hBi
        have HSi := Aside0.mk hsi
        clear hBi hsi
        by_cases hjn : j < n
        · have hjz : (j : Int) < (n : Int) := by omega
          obtain ⟨ad, hA, c0, c1⟩ := at_T50 (Kd.C_below (Kd.C_below HD.out.1 (below_step HBr.out HB1.out)) HBi.out) (j : Int) (by omega) hjz
          obtain rfl := (Option.some.inj hA).symm
          clear hA
          rw [Addr.add_lit, Int.toNat_natCast] at c0 c1
          have hgl := World.block_lt_of_cell? wr _ c0
          simp only [Nat.zero_add] at c0 c1 hgl
          have hy : rd_T50 D (j : Int) ∈ D := by
            unfold rd_T50
            rw [Int.toNat_natCast, List.getD_eq_getElem?_getD, List.getElem?_eq_getElem (by rw [HDL.out]; exact hjn)]
            exact List.getElem_mem _
          have HY := Aside0.mk (And.intro (HRG.out _ (HD.out.2.1.subset hy)) (HV.out _ (HD.out.2.1.subset hy)))
          obtain ⟨y, ey⟩ : ∃ y, y = rd_T50 D (j : Int) := ⟨_, rfl⟩
          rw [← ey] at c0 c1 HY
          have EY := Aside0.mk ey
          clear ey hy
          have HLy := c_last y HY.out.1.1 HY.out.1.2 HY.out.2
          obtain ⟨_, hy1, hy2⟩ := last_f y HY.out.1.1 HY.out.1.2 HY.out.2
          have hy0 := HY.out.1.1
          obtain ⟨t1, et1⟩ : ∃ t, t = (rngS y).2 := ⟨_, rfl⟩
          rw [← et1] at HLy hy1 hy2
          have HLy := Aside0.mk HLy
          have ET1 := Aside0.mk et1
          clear et1
          by_cases hle : y.f0 ≤ t + 1
          · go_wp2_with fail
            refine (HLy.out _).mono ?_
            rintro e W2 ⟨rfl, hb⟩
            have HBj := Aside0.mk (below_step HBi.out hb)
            clear hb c0 c1 hgl HLy
            go_wp2_with fail
            refine ⟨⟨j + 1, max t t1, by simp, rfl, by omega, by rw [HDL.out]; omega, by omega, by omega, HBj.out, ?_⟩, by simp [intOf]; omega⟩
            rw [HSi.out, drop_at HDL.out hjn, ← EY.out, List.map_cons, sweep, if_pos (by show y.f0 ≤ t + 1; exact hle), ← ET1.out]
          · clear HLy
            go_wp2_with fail
            clear c0 c1 hgl
            refine (c_cover x.f0 t hx0 (by omega) (by omega) ht _ (HG.out.keep (below_step B.out (below_step (below_step HBr.out HB1.out) HBi.out)))).mono ?_
            rintro e W2 ⟨v2, rfl, hRc, hb⟩
            have HO2 := Aside0.mk (Kd.R_below (Kd.R_below (Kd.R_below HRr.out HB1.out) HBi.out) hb)
            have HB2 := Aside0.mk (below_step (below_step (below_step HBr.out HB1.out) HBi.out) hb)
            obtain ⟨Ac, cc, rfl, _, hCc⟩ := Kd.R_reads hRc
            have HC2 := Aside0.mk hCc
            have HSZ := Aside0.mk (sized_out HO.out (t := t) hx0 ht)
            clear hRc hCc hb
            go_wp2_with ((with_reducible refine gate_builtin (b := .append) (xs := #[.tmp 62, .tmp 66]) rfl ?_); at_builtin; refine Kd.R_append_rows k50 (w0 := w3) w3.heap.size rfl (.tmp 62) (.tmp 66) 68 50 (.agg #[(.int .u32 0), (.int .i64 0)]) 16 rfl Tryd.underlying68 info50 rfl (by decide) (by omega) _ ((covR acc).map toS) (covS x.f0 t) _ _ _ (fun _ => True) (fun _ => False) rfl rfl ?aO ?aR (fun _ _ h => h) (fun _ h => h.elim) ?aF ?aB ?aS ?aL ?_; (case aO => exact HO2.out); (case aR => exact HC2.out); (case aF => exact fun _ _ => trivial); (case aB => exact HB2.out); (case aS => exact HB2.out.size); (case aL => exact HSZ.out); intro v1 w4 hR4 hB4 hg4 hat4)
            have hxm : x ∈ D.drop i := by rw [drop_at HDL.out hlt, ← EX.out]; exact List.mem_cons_self
            refine ⟨⟨j, acc ++ [(x.f0, t)], rfl, by rw [HDL.out]; omega, by rw [covR_snoc, List.map_append]; exact hR4, hB4, ?_, step_out HO.out hxm hx0 hat ht ?_⟩, by simp [intOf]; omega⟩
            · rw [HSi.out, drop_at HDL.out hjn, ← EY.out, List.map_cons, sweep, if_neg (by show ¬ y.f0 ≤ t + 1; omega), List.append_assoc]
              rfl
            · intro z hz
              have := asc_drop HD.out.2.2 HDL.out hjn EY.out z hz
              omega
        · have hjz : ¬ (j : Int) < (n : Int) := by omega
          go_wp2_with fail
          refine (c_cover x.f0 t hx0 (by omega) (by omega) ht _ (HG.out.keep (below_step B.out (below_step (below_step HBr.out HB1.out) HBi.out)))).mono ?_
          rintro e W2 ⟨v2, rfl, hRc, hb⟩
          have HO2 := Aside0.mk (Kd.R_below (Kd.R_below (Kd.R_below HRr.out HB1.out) HBi.out) hb)
          have HB2 := Aside0.mk (below_step (below_step (below_step HBr.out HB1.out) HBi.out) hb)
          obtain ⟨Ac, cc, rfl, _, hCc⟩ := Kd.R_reads hRc
          have HC2 := Aside0.mk hCc
          have HSZ := Aside0.mk (sized_out HO.out (t := t) hx0 ht)
          clear hRc hCc hb
          go_wp2_with ((with_reducible refine gate_builtin (b := .append) (xs := #[.tmp 62, .tmp 66]) rfl ?_); at_builtin; refine Kd.R_append_rows k50 (w0 := w3) w3.heap.size rfl (.tmp 62) (.tmp 66) 68 50 (.agg #[(.int .u32 0), (.int .i64 0)]) 16 rfl Tryd.underlying68 info50 rfl (by decide) (by omega) _ ((covR acc).map toS) (covS x.f0 t) _ _ _ (fun _ => True) (fun _ => False) rfl rfl ?aO ?aR (fun _ _ h => h) (fun _ h => h.elim) ?aF ?aB ?aS ?aL ?_; (case aO => exact HO2.out); (case aR => exact HC2.out); (case aF => exact fun _ _ => trivial); (case aB => exact HB2.out); (case aS => exact HB2.out.size); (case aL => exact HSZ.out); intro v1 w4 hR4 hB4 hg4 hat4)
          have hxm : x ∈ D.drop i := by rw [drop_at HDL.out hlt, ← EX.out]; exact List.mem_cons_self
          refine ⟨⟨j, acc ++ [(x.f0, t)], rfl, by rw [HDL.out]; omega, by rw [covR_snoc, List.map_append]; exact hR4, hB4, ?_, step_out HO.out hxm hx0 hat ht ?_⟩, by simp [intOf]; omega⟩
          · rw [HSi.out, List.drop_of_length_le (by rw [HDL.out]; omega)]
            simp [sweep, sweepL]
          · rw [List.drop_of_length_le (by rw [HDL.out]; omega)]
            exact fun z hz => absurd hz (by simp)
    · have hiz : ¬ (i : Int) < (n : Int) := by omega
      go_wp2_with fail
      go_ret3
      have hend : joinR [] (l.map rngS) = acc := by
        have h := HS.out
        rw [List.drop_of_length_le (by rw [HDL.out]; omega)] at h
        rw [← sweep_join (l.map rngS) (D.map rngS) (fun r hr => by
          obtain ⟨z, hz, rfl⟩ := List.mem_map.1 hr
          have := last_f z (HRG.out z hz).1 (HRG.out z hz).2 (HV.out z hz)
          exact this.2.1) (asc_map HD.out.2.2) (HD.out.2.1.map rngS), h]
        simp [sweepL]
      rw [hend]
      exact ⟨_, rfl, Kd.R_lower HRr.out B.out.size, below_step B.out HBr.out⟩
end Go.Proofs.YtgnahagnmodpdaaDoor
/-! FourJoinF -/
namespace Go.Proofs.YtgnahagnmodpdaaDoor
open Go.RowKit Go.Proofs.YtgnahagnmodpdaaDoorW.PrintWords Go.Proofs.YtgnahagnmodpdaaDoor.X Go.IntWalk Go.Lib Go.Sort
set_option linter.unusedVariables false
set_option linter.unusedSimpArgs false
/-- The place of the first that is no prefix; -1: all are. -/
def badI (l : List S50) : Int := Lib.idxBy (fun _ y => !isB y) l default
theorem badI_neg {l : List S50} (h : ¬ 0 ≤ badI l) : badI l = -1 ∧ ∀ x ∈ l, isB x = true := by
  have e : decide (0 ≤ badI l) = l.any fun y => !isB y := Lib.idxBy_nonneg_iff (fun _ y => !isB y) l default
  rw [decide_eq_false h] at e
  have ha : ∀ x ∈ l, isB x = true := by
    intro x hx
    have := List.any_eq_false.1 e.symm x hx
    simpa using this
  refine ⟨?_, ha⟩
  unfold badI
  have := Lib.idxBy_miss (fun _ y => !isB y) l l.length default (fun j hj => by
    rw [getElem!_pos l j hj, ha _ (List.getElem_mem hj)]
    rfl)
  rwa [List.take_length] at this
theorem spot_none {w : World} {a : Addr} {v : Value} (h : w.cell? a = some v) : a = ⟨a.block, a.off, none⟩ := by
  unfold World.cell? at h
  obtain ⟨b, o, s⟩ := a
  cases s with
  | none => rfl
  | some s =>
    revert h
    cases w.heap[b]? with
    | none => intro h; cases h
    | some ob => cases ob <;> intro h <;> simp at h
theorem c_idx (A : Option Addr) (c : Nat) (l : List S50) (w : World) (hr : Kd.C k50 w A l.length l) :
    Calls Tryd.prog 58 #[.slice A l.length c, .func (.func 59) #[] #[]] w fun e w' => e = .returned (.int .i64 (badI l)) ∧ Below w.heap.size w w' := by
  cases l with
  | nil =>
    refine (c_index_zero A c _ w).mono ?_
    rintro e w' ⟨rfl, rfl⟩
    exact ⟨rfl, Below.refl _ _⟩
  | cons y l =>
    obtain ⟨ad, rfl, c0, _⟩ := at_T50 hr 0 (by decide) (by simp)
    have hs := spot_none c0
    obtain ⟨b, off, sp⟩ := ad
    have hsp : sp = none := by
      have := congrArg Addr.spot hs
      simpa [Addr.add] using this
    subst hsp
    refine c_index b off c (y :: l) w hr.2.1 (World.block_lt_of_cell? w _ c0) ?_
    intro j hj i v hi
    obtain ⟨ad, e, c1, c2⟩ := at_T50 hr (j : Int) (by omega) (by omega)
    obtain rfl := (Option.some.inj e).symm
    have hx : rd_T50 (y :: l) (j : Int) = (y :: l)[j]! := by
      unfold rd_T50
      rw [Int.toNat_natCast, List.getD_eq_getElem?_getD, List.getElem?_eq_getElem hj, getElem!_pos _ j hj]
      rfl
    rw [hx, Addr.add_lit, Int.toNat_natCast] at c1 c2
    match i, hi with
    | 0, hi => rw [← Option.some.inj hi]; exact c1
    | 1, hi => rw [← Option.some.inj hi]; exact c2
    | i + 2, hi => cases hi
def joinV (l : List S50) : List S50 × Int × Int := if 0 ≤ badI l then ([], badI l, 204) else ((covR (joinR [] (l.map rngS))).map toS, 0, 0)
set_option maxHeartbeats 1000000 in
set_option maxRecDepth 100000 in
theorem join_bad (A : Option Addr) (c : Nat) (l : List S50) (w : World) (hr : Kd.C k50 w A l.length l) (hb : 0 ≤ badI l) :
    Calls Tryd.prog 40 #[.slice A l.length c] w fun e w' => e = .returned (.tuple #[.slice none 0 0, .int .i64 (badI l), .int .i64 204]) ∧ Below w.heap.size w w' := by
  have HI := Aside0.mk (c_idx A c l w hr)
  generalize badI l = b at *
  clear hr
  go_enter Tryd.func40, Tryd.ntmps40
  go_wp2_with fail
  refine HI.out.mono ?_
  rintro e w1 ⟨rfl, hb1⟩
  clear HI
  go_wp2_with fail
  go_ret3
  exact ⟨rfl, hb1⟩
/-- Addresses in range? -/
def rgB (l : List S50) : Bool := l.all fun x => decide (0 ≤ x.f0) && decide (x.f0 ≤ 4294967295)
theorem rgB_rgL {l : List S50} (h : rgB l = true) : rgL l := by
  intro x hx
  have := List.all_eq_true.1 h x hx
  simpa using this
def four_Join.f (l : List S50) : Option (List S50 × Int × Int) := if rgB l = true ∧ l.length ≤ 8796093022208 then some (joinV l) else none
theorem four_Join.calls (A2 : Option Addr) (c2 : Nat) (l2 : List S50) (r1 : List S50) (r2 r3 : Int) (w : World) (hr2 : Kd.C k50 w A2 l2.length l2) (hc2 : l2.length ≤ c2) (hG : GW w) (h : four_Join.f l2 = some (r1, r2, r3)) :
    Calls Tryd.prog 40 #[.slice A2 l2.length c2] w fun e w' => ∃ v0_ : Value, e = .returned (.tuple #[v0_, .int .i64 r2, .int .i64 r3]) ∧ Kd.R k50 50 w' w.heap.size (fun _ => True) v0_ r1 ∧ Below w.heap.size w w' := by
  unfold four_Join.f at h
  by_cases hs : rgB l2 = true ∧ l2.length ≤ 8796093022208
  · rw [if_pos hs] at h
    have h := Option.some.inj h
    unfold joinV at h
    by_cases hb : 0 ≤ badI l2
    · rw [if_pos hb] at h
      obtain ⟨e1, e2⟩ := Prod.mk.inj h
      obtain ⟨e2, e3⟩ := Prod.mk.inj e2
      subst e1
      subst e2
      subst e3
      refine (join_bad A2 c2 l2 w hr2 hb).mono ?_
      rintro e w' ⟨rfl, hb⟩
      exact ⟨_, rfl, Kd.R_nil _ _ _ _ _, hb⟩
    · rw [if_neg hb] at h
      obtain ⟨e1, e2⟩ := Prod.mk.inj h
      obtain ⟨e2, e3⟩ := Prod.mk.inj e2
      subst e1
      subst e2
      subst e3
      obtain ⟨e, ha⟩ := badI_neg hb
      have hrg := rgB_rgL hs.1
      refine join_walk A2 c2 l2 w hr2 hc2 hG hrg (fun x hx => ?_) hs.2 (fun w hr => ?_)
      · have h1 := is_f x.f0 x.f1 (hrg x hx).1 (hrg x hx).2
        rw [isB_f x, ha x hx] at h1
        exact (Option.some.inj h1).symm
      · have := c_idx A2 c2 l2 w hr
        rw [e] at this
        exact this
  · rw [if_neg hs] at h
    cases h
end Go.Proofs.YtgnahagnmodpdaaDoor
/-! FourS -/
namespace Go.Proofs.YtgnahagnmodpdaaDoor
open Go.RowKit Go.Proofs.YtgnahagnmodpdaaDoorW.PrintWords Go.Proofs.YtgnahagnmodpdaaDoor.X Go.IntWalk
set_option linter.unusedVariables false
set_option linter.unusedSimpArgs false
theorem wsucc (j : Nat) (h : j < 1099511627776) : wrap64 ((j : Int) + 1) = ((j + 1 : Nat) : Int) := by rw [wrap64_in _ (by omega)]; omega
end Go.Proofs.YtgnahagnmodpdaaDoor
/-! FourP2 -/
namespace Go.Proofs.YtgnahagnmodpdaaDoor
open Go.RowKit Go.Proofs.YtgnahagnmodpdaaDoorW.PrintWords Go.Proofs.YtgnahagnmodpdaaDoor.X Go.IntWalk
set_option linter.unusedVariables false
set_option linter.unusedSimpArgs false
def isDec (c : UInt8) : Bool := decide (48 ≤ (c.toNat : Int)) && decide ((c.toNat : Int) ≤ 57)
def lastV (l : List UInt8) : List UInt8 := (partsV l).getLastD []
def endsV (l : List UInt8) : Bool := if lastV l = [] then false else if (lastV l).all isDec then true else (numberV (lastV l)).2.2 == 0
theorem parts_last (s : ByteArray) : rdOf ByteArray.empty ((partsV s.data.toList).map BA) (((partsV s.data.toList).length - 1 : Nat) : Int) = BA (lastV s.data.toList) := by
  have hpos : 0 < (partsV s.data.toList).length := List.length_pos_iff.2 (partsV_ne _)
  rw [rd_map _ _ (by omega)]
  unfold lastV
  rw [List.getLastD_eq_getLast?, List.getLast?_eq_getElem?, List.getElem?_eq_getElem (by omega)]
  rfl
theorem lastV_len (l : List UInt8) : (lastV l).length ≤ l.length := by
  unfold lastV
  rw [List.getLastD_eq_getLast?]
  cases h : (partsV l).getLast? with
  | none => simp
  | some x => exact partsV_part l x (List.mem_of_getLast? h)
theorem isDec_tab : ∀ b : Fin 256, [48, 49, 50, 51, 52, 53, 54, 55, 56, 57].contains (UInt8.ofNat b.val) = isDec (UInt8.ofNat b.val) := by decide +kernel
theorem isDec_is (c : UInt8) : ([48, 49, 50, 51, 52, 53, 54, 55, 56, 57] : List UInt8).contains c = isDec c := by
  have := isDec_tab ⟨c.toNat, c.toNat_lt⟩
  simpa using this
theorem dropWhile_nil {p : UInt8 → Bool} : ∀ {l : List UInt8}, l.dropWhile p = [] ↔ ∀ x ∈ l, p x = true
  | [] => by simp
  | b :: l => by
    by_cases hb : p b = true
    · rw [List.dropWhile_cons_of_pos hb, dropWhile_nil]
      simp [hb]
    · rw [List.dropWhile_cons_of_neg hb]
      simp [hb]
theorem dropWhile_head {p : UInt8 → Bool} : ∀ {l r : List UInt8} {b : UInt8}, l.dropWhile p = b :: r → p b = false ∧ ∀ x ∈ b :: r, x ∈ l
  | [], _, _, h => by simp at h
  | c :: l, r, b, h => by
    by_cases hb : p c = true
    · rw [List.dropWhile_cons_of_pos hb] at h
      obtain ⟨h1, h2⟩ := dropWhile_head h
      exact ⟨h1, fun x hx => List.mem_cons_of_mem _ (h2 x hx)⟩
    · rw [List.dropWhile_cons_of_neg hb] at h
      injection h with h1 h2
      subst h1 h2
      exact ⟨by simpa using hb, fun x hx => hx⟩
theorem trim_all (l : List UInt8) : Lib.trimS l [48, 49, 50, 51, 52, 53, 54, 55, 56, 57] = [] ↔ l.all isDec = true := by
  have e : (fun c : UInt8 => ([48, 49, 50, 51, 52, 53, 54, 55, 56, 57] : List UInt8).contains c) = isDec := funext isDec_is
  unfold Lib.trimS Lib.trimLeftS Lib.trimRightS
  rw [e, dropWhile_nil]
  simp only [List.mem_reverse, List.all_eq_true]
  constructor
  · intro h x hx
    cases hr : l.reverse.dropWhile isDec with
    | nil => exact dropWhile_nil.1 hr x (by simpa using hx)
    | cons b r =>
      obtain ⟨h1, h2⟩ := dropWhile_head hr
      rw [h b (by rw [hr]; simp)] at h1
      cases h1
  · intro h x hx
    cases hr : l.reverse.dropWhile isDec with
    | nil => rw [hr] at hx; cases hx
    | cons b r =>
      obtain ⟨h1, h2⟩ := dropWhile_head hr
      rw [hr] at hx
      exact h x (by simpa using h2 x hx)
theorem four_ends (s : ByteArray) (hs : s.size ≤ 4294967280) : Ev (fun k => four_Ends.f k s) (endsV s.data.toList) := by
  have hz := size_len s
  have hpos : 0 < (partsV s.data.toList).length := List.length_pos_iff.2 (partsV_ne _)
  have hple := partsL_len (splitC 46 s.data.toList)
  have hsl := splitC_len 46 s.data.toList
  have hpl : (partsV s.data.toList).length ≤ s.data.toList.length + 1 := by unfold partsV; omega
  have w1 : wrap64 (((partsV s.data.toList).length : Int) - 1) = (((partsV s.data.toList).length - 1 : Nat) : Int) := by rw [wrap64_in _ (by omega)]; omega
  have hlast := parts_last s
  have hll := lastV_len s.data.toList
  have htr : strings_Trim.f (BA (lastV s.data.toList)) (⟨#[48, 49, 50, 51, 52, 53, 54, 55, 56, 57]⟩ : ByteArray) = some (BA (Lib.trimS (lastV s.data.toList) [48, 49, 50, 51, 52, 53, 54, 55, 56, 57])) := by
    unfold strings_Trim.f
    rw [if_pos ⟨by rw [ba_size]; omega, by decide, by decide⟩]
    rfl
  unfold endsV
  have hn := number_ev (BA (lastV s.data.toList)) (by rw [ba_size]; omega)
  rw [ba_list] at hn
  have key : ∀ k, four_Ends.f k s = if lastV s.data.toList = [] then some false else if (lastV s.data.toList).all isDec = true then some true else (four_Number.f k (BA (lastV s.data.toList))).bind fun t => some (t.2.2 == 0) := by
    intro k
    unfold four_Ends.f
    rw [parts_f s hs]
    simp only [Option.bind_some, List.length_map]
    rw [w1, if_pos (by omega), if_pos (by omega), hlast, toList_data, ba_list, htr]
    simp only [Option.bind_some]
    rw [toList_data, ba_list]
    by_cases h0 : lastV s.data.toList = []
    · rw [if_pos h0, if_pos h0]
    · rw [if_neg h0, if_neg h0]
      by_cases ha : (lastV s.data.toList).all isDec = true
      · rw [if_pos ((trim_all _).2 ha), if_pos ha]
      · rw [if_neg (mt (trim_all _).1 ha), if_neg ha]
  refine Ev.congr key ?_
  by_cases h0 : lastV s.data.toList = []
  · simp only [if_pos h0]
    exact Ev.now _
  · by_cases ha : (lastV s.data.toList).all isDec = true
    · simp only [if_neg h0, if_pos ha]
      exact Ev.now _
    · simp only [if_neg h0, if_neg ha]
      exact Ev.bind hn (Ev.now _)
theorem awake_ev : Ev (fun k => posternlaw20_awake.f k) true := by
  have h1 : four_Parse.f (⟨#[49, 57, 50, 46, 48, 120, 48, 48, 65, 56, 48, 48, 48, 49]⟩ : ByteArray) = some (3232235521, 0, 0) := by
    unfold four_Parse.f
    rw [if_pos (by decide)]
    exact congrArg some (by decide +kernel)
  have h2 : four_Print.f 3232235521 = some (BA [49, 57, 50, 46, 49, 54, 56, 46, 48, 46, 49]) := by
    unfold four_Print.f
    rw [if_pos (by decide)]
    congr 2
    unfold printV oct4
    simp only [List.map_cons, List.map_nil]
    rw [itoa_small (by decide) (by decide), itoa_small (by decide) (by decide), itoa_small (by decide) (by decide), itoa_small (by decide) (by decide)]
    decide +kernel
  have h3 := four_ends (⟨#[49, 46, 50]⟩ : ByteArray) (by decide)
  rw [show endsV (⟨#[49, 46, 50]⟩ : ByteArray).data.toList = true by decide +kernel] at h3
  refine Ev.congr (f := fun k => (four_Ends.f k (⟨#[49, 46, 50]⟩ : ByteArray)).bind fun t => some t) (fun k => ?_) (Ev.bind h3 (Ev.now _))
  unfold posternlaw20_awake.f
  rw [h1]
  simp only [Option.bind_some]
  simp only [if_true]
  rw [h2]
  simp only [Option.bind_some]
  rw [toList_data, ba_list, if_pos rfl]
end Go.Proofs.YtgnahagnmodpdaaDoor
/-! X1 -/
namespace Go.Proofs.YtgnahagnmodpdaaDoor.X
open Go.RowKit Go.Proofs.YtgnahagnmodpdaaDoorW.PrintWords Go.Proofs.YtgnahagnmodpdaaDoorW.PrintLast Go.Proofs.YtgnahagnmodpdaaDoorW.PrintMore
attribute [local go_sem] max2_int min2_int max_two min_two max_three min_three max_four min_four
set_option linter.unusedVariables false
set_option linter.unusedSimpArgs false
theorem eqA50 (d : Nat) (w : World) (x0 y0 : Int) (x1 y1 : Int) :
    (Op.equalIn (d + 2) 50 (.agg #[.int .u32 x0, .int .i64 x1]) (.agg #[.int .u32 y0, .int .i64 y1])).run Tryd.prog w = .ok (x0 == y0 && (x1 == y1)) w := by
  refine eqA_of Tryd.underlying50 (by kernel_rfl) ?_
  refine eqf_cons (by rfl) (by go_simp; rfl) (by go_simp; rfl) (by go_simp) ?_
  exact eqf_last (by rfl) (by go_simp; rfl) (by go_simp; rfl) (by go_simp)
end Go.Proofs.YtgnahagnmodpdaaDoor.X
/-! X15 -/
namespace Go.Proofs.YtgnahagnmodpdaaDoor.X
open Go.RowKit Go.Proofs.YtgnahagnmodpdaaDoorW.PrintWords Go.Proofs.YtgnahagnmodpdaaDoorW.PrintLast Go.Proofs.YtgnahagnmodpdaaDoorW.PrintMore
attribute [local go_sem] max2_int min2_int max_two min_two max_three min_three max_four min_four
set_option linter.unusedVariables false
set_option linter.unusedSimpArgs false
attribute [local go_sem high] eqA50
mutual
def posternlaw20_FourApart.l0 : Nat → Int → List (S50) → List (S50) → Int → List (S50) → Int → Int → Option (Bool)
  | 0, _, _, _, _, _, _, _ => none
  | k + 1, x1, x2, x7, x8, x40, x41, x42 => if x42 < x41 then (if 0 ≤ x42 then (if x42 < (x40.length : Int) then (if ((rd_T50 x40 x42).f1) < 0 then (posternlaw20_FourApart.j1 k x1 x2 x7 x8 x42 x40 x41 x42 true ((rd_T50 x40 x42).f0) ((rd_T50 x40 x42).f1)) else (if ((rd_T50 x40 x42).f1) > 32 then (posternlaw20_FourApart.j1 k x1 x2 x7 x8 x42 x40 x41 x42 true ((rd_T50 x40 x42).f0) ((rd_T50 x40 x42).f1)) else (if (IntKind.u64.wrap ((rd_T50 x40 x42).f0)) = x8 then ((four_Within.f ((rd_T50 x40 x42).f0) ((rd_T50 x40 x42).f1) ((rd_T50 x40 x42).f0)).bind fun t341 => (posternlaw20_FourApart.j1 k x1 x2 x7 x8 x42 x40 x41 x42 (!t341) ((rd_T50 x40 x42).f0) ((rd_T50 x40 x42).f1))) else (posternlaw20_FourApart.j1 k x1 x2 x7 x8 x42 x40 x41 x42 true ((rd_T50 x40 x42).f0) ((rd_T50 x40 x42).f1))))) else (none)) else (none)) else (if x8 = (IntKind.u64.wrap ((IntKind.u64.wrap (x1)) + 1)) then ((four_Join.f x7).bind fun bt344 => (if bt344.2.2 = 0 then (posternlaw20_FourApart.j2 k x2 x7 bt344.1 ((bt344.1.length : Int) != (x7.length : Int))) else (posternlaw20_FourApart.j2 k x2 x7 bt344.1 true))) else (some false))
def posternlaw20_FourApart.j1 : Nat → Int → List (S50) → List (S50) → Int → Int → List (S50) → Int → Int → Bool → Int → Int → Option (Bool)
  | 0, _, _, _, _, _, _, _, _, _, _, _ => none
  | k + 1, x1, x2, x7, x8, x9, x40, x41, x42, x68, x341000, x341001 => if x68 = true then (some false) else (if 0 ≤ (IntKind.u64.wrap (wrap64 (32 - x341001))) then (if x9 > 0 then (if 0 ≤ (wrap64 (x9 - 1)) then (if (wrap64 (x9 - 1)) < (x7.length : Int) then (if ((rd_T50 x7 (wrap64 (x9 - 1))).f1) = x341001 then (if (IntKind.u64.wrap (2 * (shl .u64 1 (IntKind.u64.wrap (wrap64 (32 - x341001)))))) = 0 then (none) else (if (Int.tmod (IntKind.u64.wrap ((rd_T50 x7 (wrap64 (x9 - 1))).f0)) (IntKind.u64.wrap (2 * (shl .u64 1 (IntKind.u64.wrap (wrap64 (32 - x341001))))))) = 0 then (some false) else (posternlaw20_FourApart.l0 k x1 x2 x7 (IntKind.u64.wrap (x8 + (shl .u64 1 (IntKind.u64.wrap (wrap64 (32 - x341001)))))) x40 x41 (wrap64 (x42 + 1))))) else (posternlaw20_FourApart.l0 k x1 x2 x7 (IntKind.u64.wrap (x8 + (shl .u64 1 (IntKind.u64.wrap (wrap64 (32 - x341001)))))) x40 x41 (wrap64 (x42 + 1)))) else (none)) else (none)) else (posternlaw20_FourApart.l0 k x1 x2 x7 (IntKind.u64.wrap (x8 + (shl .u64 1 (IntKind.u64.wrap (wrap64 (32 - x341001)))))) x40 x41 (wrap64 (x42 + 1)))) else (none))
def posternlaw20_FourApart.j2 : Nat → List (S50) → List (S50) → List (S50) → Bool → Option (Bool)
  | 0, _, _, _, _ => none
  | k + 1, x2, x7, x12, x123 => if x123 = true then (some false) else (posternlaw20_FourApart.l1 k x2 x7 x12 (x12.length : Int) 0)
def posternlaw20_FourApart.l1 : Nat → List (S50) → List (S50) → List (S50) → Int → Int → Option (Bool)
  | 0, _, _, _, _, _ => none
  | k + 1, x2, x7, x12, x125, x126 => if x126 < x125 then (if 0 ≤ x126 then (if x126 < (x12.length : Int) then (if x126 < (x7.length : Int) then (if (!(((rd_T50 x12 x126).f0) == ((rd_T50 x7 x126).f0)) || (!(((rd_T50 x12 x126).f1) == ((rd_T50 x7 x126).f1)))) = true then (some false) else (posternlaw20_FourApart.l1 k x2 x7 x12 x125 (wrap64 (x126 + 1)))) else (none)) else (none)) else (none)) else ((four_Join.f x2).bind fun bt351 => (if bt351.2.2 = 0 then (posternlaw20_FourApart.l2 k bt351.1 x2 (x2.length : Int) 0) else (some ((bt351.1.length : Int) == 0))))
def posternlaw20_FourApart.l2 : Nat → List (S50) → List (S50) → Int → Int → Option (Bool)
  | 0, _, _, _, _ => none
  | k + 1, x16, x150, x151, x152 => if x152 < x151 then (if 0 ≤ x152 then (if x152 < (x150.length : Int) then (if 0 ≤ (IntKind.u64.wrap (wrap64 (32 - ((rd_T50 x150 x152).f1)))) then ((some (([(rd_T50 x150 x152).f0, (((rd_T50 x150 x152).f0) + ((IntKind.u64.wrap ((shl .u64 1 (IntKind.u64.wrap (wrap64 (32 - ((rd_T50 x150 x152).f1))))) - 1)) % 4294967296)) % 4294967296] : List Int) : List Int)).bind fun y358 => (posternlaw20_FourApart.l3 k x16 x150 x151 x152 y358 (y358.length : Int) 0)) else (none)) else (none)) else (none)) else (some true)
def posternlaw20_FourApart.l3 : Nat → List (S50) → List (S50) → Int → Int → List Int → Int → Int → Option (Bool)
  | 0, _, _, _, _, _, _, _ => none
  | k + 1, x16, x150, x151, x152, x168, x169, x170 => if x170 < x169 then (if 0 ≤ x170 then (if x170 < (x168.length : Int) then (posternlaw20_FourApart.l4 k x16 (rd x168 x170) 0 x150 x151 x152 x168 x169 x170 x16 (x16.length : Int) 0) else (none)) else (none)) else (posternlaw20_FourApart.l2 k x16 x150 x151 (wrap64 (x152 + 1)))
def posternlaw20_FourApart.l4 : Nat → List (S50) → Int → Int → List (S50) → Int → Int → List Int → Int → Int → List (S50) → Int → Int → Option (Bool)
  | 0, _, _, _, _, _, _, _, _, _, _, _, _ => none
  | k + 1, x16, x21, x22, x150, x151, x152, x168, x169, x170, x174, x175, x176 => if x176 < x175 then (if 0 ≤ x176 then (if x176 < (x174.length : Int) then ((four_Within.f ((rd_T50 x174 x176).f0) ((rd_T50 x174 x176).f1) x21).bind fun t364 => (if t364 = true then (posternlaw20_FourApart.l4 k x16 x21 (wrap64 (x22 + 1)) x150 x151 x152 x168 x169 x170 x174 x175 (wrap64 (x176 + 1))) else (posternlaw20_FourApart.l4 k x16 x21 x22 x150 x151 x152 x168 x169 x170 x174 x175 (wrap64 (x176 + 1))))) else (none)) else (none)) else (if x22 = 1 then (posternlaw20_FourApart.l3 k x16 x150 x151 x152 x168 x169 (wrap64 (x170 + 1))) else (some false))
end
def posternlaw20_FourApart.f (k : Nat) (a0 : Int) (a1 : Int) (l2 : List (S50)) : Option (Bool) := (posternlaw20_awake.f k).bind fun t332 => (if t332 = true then (if a0 > a1 then ((four_Cover.f k a0 a1).bind fun t333 => (some ((t333.length : Int) == 0))) else ((four_Cover.f k a0 a1).bind fun t336 => (posternlaw20_FourApart.l0 k a1 l2 t336 (IntKind.u64.wrap (a0)) t336 (t336.length : Int) 0))) else (some false))
set_option maxHeartbeats 8000000 in
set_option maxRecDepth 100000 in
theorem posternlaw20_FourApart.calls (k : Nat) (a0 : Int) (a1 : Int) (A2 : Option Addr) (c2 : Nat) (l2 : List (S50)) (r : Bool) (w : World) (hr2 : Kd.C k50 w A2 l2.length l2) (hc2 : l2.length ≤ c2) (hG : GW w) (h : posternlaw20_FourApart.f k a0 a1 l2 = some r) :
    Calls Tryd.prog 10 #[.int .u32 a0, .int .u32 a1, .slice A2 l2.length c2] w fun e w' => e = .returned (.bool r) ∧ Below w.heap.size w w' := by
  have hu50 := Tryd.underlying50
  have HR2 := Aside0.mk hr2
  have HC2 := Aside0.mk hc2
  clear hr2 hc2
  have HG := Aside0.mk hG
  clear hG
  have HB := Aside0.mk (Below.refl w.heap.size w)
  have H : ((posternlaw20_awake.f k).bind fun t332 => (if t332 = true then (if a0 > a1 then ((four_Cover.f k a0 a1).bind fun t333 => (some ((t333.length : Int) == 0))) else ((four_Cover.f k a0 a1).bind fun t336 => (posternlaw20_FourApart.l0 k a1 l2 t336 (IntKind.u64.wrap (a0)) t336 (t336.length : Int) 0))) else (some false))) = some r := h
  clear h
  replace H := Option.bind_eq_some_iff.mp H
  obtain ⟨t332, A40, H⟩ := H
  replace H : (if t332 = true then (if a0 > a1 then ((four_Cover.f k a0 a1).bind fun t333 => (some ((t333.length : Int) == 0))) else ((four_Cover.f k a0 a1).bind fun t336 => (posternlaw20_FourApart.l0 k a1 l2 t336 (IntKind.u64.wrap (a0)) t336 (t336.length : Int) 0))) else (some false)) = some r := H
  have A4 := Aside0.mk A40
  clear A40
  by_cases c5 : t332 = true
  · subst c5
    have H1 : (if a0 > a1 then ((four_Cover.f k a0 a1).bind fun t333 => (some ((t333.length : Int) == 0))) else ((four_Cover.f k a0 a1).bind fun t336 => (posternlaw20_FourApart.l0 k a1 l2 t336 (IntKind.u64.wrap (a0)) t336 (t336.length : Int) 0))) = some r := by rw [if_pos rfl] at H; exact H
    clear H
    have H := H1
    clear H1
    by_cases c6 : a0 > a1
    · rw [if_pos c6] at H
      have c6b0 : decide (a1 < a0) = true := decide_eq_true c6
      clear c6
      replace H := Option.bind_eq_some_iff.mp H
      obtain ⟨t333, A70, H⟩ := H
      replace H : (some ((t333.length : Int) == 0)) = some r := H
      have A7 := Aside0.mk A70
      clear A70
      obtain rfl := Option.some.inj H
      go_enter Tryd.func10, Tryd.ntmps10
      go_wp2_with (first | (go_at_call 11; (with_reducible refine (posternlaw20_awake.calls k  true _ (GW.keep HG.out (by repeat (first | (with_reducible first | exact HB.out | apply below_alloc | apply pw_below_drewN | apply below_drew1) | exact HB.out | exact Below.refl _ _))) A4.out).mono ?_); rintro e w8 ⟨rfl, hb⟩; have n0_ := Aside0.mk (below_step (by repeat (first | (with_reducible first | exact HB.out | apply below_alloc | apply pw_below_drewN | apply below_drew1) | exact HB.out)) hb); clear HB; have HB := n0_; clear n0_; (try clear hb); (try clear hb2); (try clear hk); (try clear hi)) | (go_at_call 39; (with_reducible refine (four_Cover.calls k a0 a1 t333 _ (GW.keep HG.out (by repeat (first | (with_reducible first | exact HB.out | apply below_alloc | apply pw_below_drewN | apply below_drew1) | exact HB.out | exact Below.refl _ _))) A7.out).mono ?_); rintro e w9 ⟨v334, rfl, ho0, hb⟩; have n0_ := Aside0.mk (Kd.R_lower ho0 (below_size (by repeat (first | (with_reducible first | exact HB.out | apply below_alloc | apply pw_below_drewN | apply below_drew1) | exact HB.out)))); have n1_ := Aside0.mk (below_step (by repeat (first | (with_reducible first | exact HB.out | apply below_alloc | apply pw_below_drewN | apply below_drew1) | exact HB.out)) hb); clear HB; have HO335 := n0_; have HB := n1_; clear n0_ n1_; (try clear hb); (try clear hb2); (try clear hk); (try clear hi); (try clear ho0); obtain ⟨Ao10, co10, eo10⟩ := Kd.R_slice HO335.out; subst eo10))
      repeat (go_quiet (first | (go_at_call 11; (with_reducible refine (posternlaw20_awake.calls k  true _ (GW.keep HG.out (by repeat (first | (with_reducible first | exact HB.out | apply below_alloc | apply pw_below_drewN | apply below_drew1) | exact HB.out | exact Below.refl _ _))) A4.out).mono ?_); rintro e w8 ⟨rfl, hb⟩; have n0_ := Aside0.mk (below_step (by repeat (first | (with_reducible first | exact HB.out | apply below_alloc | apply pw_below_drewN | apply below_drew1) | exact HB.out)) hb); clear HB; have HB := n0_; clear n0_; (try clear hb); (try clear hb2); (try clear hk); (try clear hi)) | (go_at_call 39; (with_reducible refine (four_Cover.calls k a0 a1 t333 _ (GW.keep HG.out (by repeat (first | (with_reducible first | exact HB.out | apply below_alloc | apply pw_below_drewN | apply below_drew1) | exact HB.out | exact Below.refl _ _))) A7.out).mono ?_); rintro e w9 ⟨v334, rfl, ho0, hb⟩; have n0_ := Aside0.mk (Kd.R_lower ho0 (below_size (by repeat (first | (with_reducible first | exact HB.out | apply below_alloc | apply pw_below_drewN | apply below_drew1) | exact HB.out)))); have n1_ := Aside0.mk (below_step (by repeat (first | (with_reducible first | exact HB.out | apply below_alloc | apply pw_below_drewN | apply below_drew1) | exact HB.out)) hb); clear HB; have HO335 := n0_; have HB := n1_; clear n0_ n1_; (try clear hb); (try clear hb2); (try clear hk); (try clear hi); (try clear ho0); obtain ⟨Ao10, co10, eo10⟩ := Kd.R_slice HO335.out; subst eo10)); try go_wp2_with (first | (go_at_call 11; (with_reducible refine (posternlaw20_awake.calls k  true _ (GW.keep HG.out (by repeat (first | (with_reducible first | exact HB.out | apply below_alloc | apply pw_below_drewN | apply below_drew1) | exact HB.out | exact Below.refl _ _))) A4.out).mono ?_); rintro e w8 ⟨rfl, hb⟩; have n0_ := Aside0.mk (below_step (by repeat (first | (with_reducible first | exact HB.out | apply below_alloc | apply pw_below_drewN | apply below_drew1) | exact HB.out)) hb); clear HB; have HB := n0_; clear n0_; (try clear hb); (try clear hb2); (try clear hk); (try clear hi)) | (go_at_call 39; (with_reducible refine (four_Cover.calls k a0 a1 t333 _ (GW.keep HG.out (by repeat (first | (with_reducible first | exact HB.out | apply below_alloc | apply pw_below_drewN | apply below_drew1) | exact HB.out | exact Below.refl _ _))) A7.out).mono ?_); rintro e w9 ⟨v334, rfl, ho0, hb⟩; have n0_ := Aside0.mk (Kd.R_lower ho0 (below_size (by repeat (first | (with_reducible first | exact HB.out | apply below_alloc | apply pw_below_drewN | apply below_drew1) | exact HB.out)))); have n1_ := Aside0.mk (below_step (by repeat (first | (with_reducible first | exact HB.out | apply below_alloc | apply pw_below_drewN | apply below_drew1) | exact HB.out)) hb); clear HB; have HO335 := n0_; have HB := n1_; clear n0_ n1_; (try clear hb); (try clear hb2); (try clear hk); (try clear hi); (try clear ho0); obtain ⟨Ao10, co10, eo10⟩ := Kd.R_slice HO335.out; subst eo10)))
      go_ret
      exact ⟨by first | rfl | (simp [errW_none, errW_some] <;> rfl) | (simp [*, errW_none, errW_some] <;> rfl), by repeat (first | (with_reducible first | exact HB.out | apply below_alloc | apply pw_below_drewN | apply below_drew1) | exact HB.out)⟩
    · rw [if_neg c6] at H
      have c6b0 : decide (a1 < a0) = false := decide_eq_false c6
      clear c6
      replace H := Option.bind_eq_some_iff.mp H
      obtain ⟨t336, A110, H⟩ := H
      replace H : (posternlaw20_FourApart.l0 k a1 l2 t336 (IntKind.u64.wrap (a0)) t336 (t336.length : Int) 0) = some r := H
      have A11 := Aside0.mk A110
      clear A110
      have H' := Aside0.mk H
      clear H
      go_enter Tryd.func10, Tryd.ntmps10
      go_wp2_with (first | (go_at_call 11; (with_reducible refine (posternlaw20_awake.calls k  true _ (GW.keep HG.out (by repeat (first | (with_reducible first | exact HB.out | apply below_alloc | apply pw_below_drewN | apply below_drew1) | exact HB.out | exact Below.refl _ _))) A4.out).mono ?_); rintro e w12 ⟨rfl, hb⟩; have n0_ := Aside0.mk (below_step (by repeat (first | (with_reducible first | exact HB.out | apply below_alloc | apply pw_below_drewN | apply below_drew1) | exact HB.out)) hb); clear HB; have HB := n0_; clear n0_; (try clear hb); (try clear hb2); (try clear hk); (try clear hi)) | (go_at_call 39; (with_reducible refine (four_Cover.calls k a0 a1 t336 _ (GW.keep HG.out (by repeat (first | (with_reducible first | exact HB.out | apply below_alloc | apply pw_below_drewN | apply below_drew1) | exact HB.out | exact Below.refl _ _))) A11.out).mono ?_); rintro e w13 ⟨v337, rfl, ho0, hb⟩; have n0_ := Aside0.mk (Kd.R_lower ho0 (below_size (by repeat (first | (with_reducible first | exact HB.out | apply below_alloc | apply pw_below_drewN | apply below_drew1) | exact HB.out)))); have n1_ := Aside0.mk (below_step (by repeat (first | (with_reducible first | exact HB.out | apply below_alloc | apply pw_below_drewN | apply below_drew1) | exact HB.out)) hb); clear HB; have HO338 := n0_; have HB := n1_; clear n0_ n1_; (try clear hb); (try clear hb2); (try clear hk); (try clear hi); (try clear ho0); obtain ⟨Ao14, co14, eo14⟩ := Kd.R_slice HO338.out; subst eo14))
      repeat (go_quiet (first | (go_at_call 11; (with_reducible refine (posternlaw20_awake.calls k  true _ (GW.keep HG.out (by repeat (first | (with_reducible first | exact HB.out | apply below_alloc | apply pw_below_drewN | apply below_drew1) | exact HB.out | exact Below.refl _ _))) A4.out).mono ?_); rintro e w12 ⟨rfl, hb⟩; have n0_ := Aside0.mk (below_step (by repeat (first | (with_reducible first | exact HB.out | apply below_alloc | apply pw_below_drewN | apply below_drew1) | exact HB.out)) hb); clear HB; have HB := n0_; clear n0_; (try clear hb); (try clear hb2); (try clear hk); (try clear hi)) | (go_at_call 39; (with_reducible refine (four_Cover.calls k a0 a1 t336 _ (GW.keep HG.out (by repeat (first | (with_reducible first | exact HB.out | apply below_alloc | apply pw_below_drewN | apply below_drew1) | exact HB.out | exact Below.refl _ _))) A11.out).mono ?_); rintro e w13 ⟨v337, rfl, ho0, hb⟩; have n0_ := Aside0.mk (Kd.R_lower ho0 (below_size (by repeat (first | (with_reducible first | exact HB.out | apply below_alloc | apply pw_below_drewN | apply below_drew1) | exact HB.out)))); have n1_ := Aside0.mk (below_step (by repeat (first | (with_reducible first | exact HB.out | apply below_alloc | apply pw_below_drewN | apply below_drew1) | exact HB.out)) hb); clear HB; have HO338 := n0_; have HB := n1_; clear n0_ n1_; (try clear hb); (try clear hb2); (try clear hk); (try clear hi); (try clear ho0); obtain ⟨Ao14, co14, eo14⟩ := Kd.R_slice HO338.out; subst eo14)); try go_wp2_with (first | (go_at_call 11; (with_reducible refine (posternlaw20_awake.calls k  true _ (GW.keep HG.out (by repeat (first | (with_reducible first | exact HB.out | apply below_alloc | apply pw_below_drewN | apply below_drew1) | exact HB.out | exact Below.refl _ _))) A4.out).mono ?_); rintro e w12 ⟨rfl, hb⟩; have n0_ := Aside0.mk (below_step (by repeat (first | (with_reducible first | exact HB.out | apply below_alloc | apply pw_below_drewN | apply below_drew1) | exact HB.out)) hb); clear HB; have HB := n0_; clear n0_; (try clear hb); (try clear hb2); (try clear hk); (try clear hi)) | (go_at_call 39; (with_reducible refine (four_Cover.calls k a0 a1 t336 _ (GW.keep HG.out (by repeat (first | (with_reducible first | exact HB.out | apply below_alloc | apply pw_below_drewN | apply below_drew1) | exact HB.out | exact Below.refl _ _))) A11.out).mono ?_); rintro e w13 ⟨v337, rfl, ho0, hb⟩; have n0_ := Aside0.mk (Kd.R_lower ho0 (below_size (by repeat (first | (with_reducible first | exact HB.out | apply below_alloc | apply pw_below_drewN | apply below_drew1) | exact HB.out)))); have n1_ := Aside0.mk (below_step (by repeat (first | (with_reducible first | exact HB.out | apply below_alloc | apply pw_below_drewN | apply below_drew1) | exact HB.out)) hb); clear HB; have HO338 := n0_; have HB := n1_; clear n0_ n1_; (try clear hb); (try clear hb2); (try clear hk); (try clear hi); (try clear ho0); obtain ⟨Ao14, co14, eo14⟩ := Kd.R_slice HO338.out; subst eo14)))
      go_loopg [8, 42] k (fun kq v8 v42 w' => ∃ (x8_1 : Int) (x42_1 : Int), v8 = .int .u64 x8_1 ∧ v42 = .int .i64 x42_1 ∧ Aside0 (posternlaw20_FourApart.l0 kq a1 l2 t336 x8_1 t336 (t336.length : Int) x42_1 = some r) ∧ Aside0 (kq ≤ k) ∧ Aside0 (Kd.R k50 50 w' w.heap.size (fun _ => True) (.slice Ao14 t336.length co14) t336) ∧ Aside0 (Kd.R k50 50 w' w.heap.size (fun _ => True) (.slice Ao14 t336.length co14) t336) ∧ Aside0 (Below w.heap.size w w'))
      case atStart => exact ⟨(IntKind.u64.wrap (a0)), (0), (by first | rfl | (simp; done) | (simp [*]; done)), (by first | rfl | (simp; done) | (simp [*]; done)), H', ⟨Nat.le_refl _⟩, ⟨by (with_reducible repeat (first | apply Kd.R_alloc | apply Kd.R_drewN | apply Kd.R_drew)); exact HO338.out⟩, ⟨by (with_reducible repeat (first | apply Kd.R_alloc | apply Kd.R_drewN | apply Kd.R_drew)); exact HO338.out⟩, ⟨by repeat (first | (with_reducible first | exact HB.out | apply below_alloc | apply pw_below_drewN | apply below_drew1) | exact HB.out)⟩⟩
      case round =>
        clear H'
        try clear c1
        try clear c2
        try clear p2
        try clear c5
        try clear c6
        try clear c6b0
        try clear c10
        obtain ⟨x8_1, x42_1, rfl, rfl, HA, HK1, HO_7, HO_40, HB⟩ := hrel
        cases gk with
        | zero => exact absurd HA.out (by simp [posternlaw20_FourApart.l0])
        | succ k1 =>
          have H := HA.out
          clear HA
          simp only [posternlaw20_FourApart.l0] at H
          by_cases c15 : x42_1 < (t336.length : Int)
          · rw [if_pos c15] at H
            have c15b0 : decide (x42_1 < (t336.length : Int)) = true := decide_eq_true c15
            clear c15
            by_cases c16 : 0 ≤ x42_1
            · rw [if_pos c16] at H
              have c16b0 : decide (0 ≤ x42_1) = true := decide_eq_true c16
              clear c16
              by_cases c17 : x42_1 < (t336.length : Int)
              · rw [if_pos c17] at H
                have c17b0 : decide (x42_1 < (t336.length : Int)) = true := decide_eq_true c17
                clear c17
                have HC18 := Aside0.mk H
                clear H
                have p339 : 0 ≤ (x42_1 : Int) := of_decide_eq_true (by first | (with_reducible assumption) | assumption)
                have q339 : x42_1 < (t336.length : Int) := of_decide_eq_true (by first | (with_reducible assumption) | assumption)
                obtain ⟨ad339, e339, hx339_0, hx339_1⟩ := at_T50 (Kd.R_reads' HO_40.out).2.2 x42_1 p339 q339
                cases e339
                replace p339 := eq_true p339
                replace q339 := eq_true q339
                go_upto_region 10 with (first | ((with_reducible refine gate_dst (N := 10) rfl ?_); (try (refine gate_guard (by rfl) ?_; dsimp only)); refine box_event ?hg (N := 10) ?hd (cs := #[.int .u32 0, .int .i64 0]) (t := 50) ?hr ?_; (case hd => rfl); (case hg => rfl); (case hr => first | (go_simp; done) | (go_simp; rfl)); intro gb340 hg w19 hbox hb; have n0_ := Aside0.mk (Kd.R_below (Kd.R_elderB (by (with_reducible repeat (first | apply Kd.R_alloc | apply Kd.R_drewN | apply Kd.R_drew)); exact HO_7.out) gb340 (Nat.le_of_eq hg.symm)) hb); have n1_ := Aside0.mk (Kd.R_below (Kd.R_elderB (by (with_reducible repeat (first | apply Kd.R_alloc | apply Kd.R_drewN | apply Kd.R_drew)); exact HO_40.out) gb340 (Nat.le_of_eq hg.symm)) hb); have n2_ := Aside0.mk (below_step (by repeat (first | (with_reducible first | exact HB.out | apply below_alloc | apply pw_below_drewN | apply below_drew1) | exact HB.out)) hb); have n3_ := Aside0.mk (hbox); have n4_ := Aside0.mk ((by rw [hg]; exact (below_size (by repeat (first | (with_reducible first | exact HB.out | apply below_alloc | apply pw_below_drewN | apply below_drew1) | exact HB.out))) : w.heap.size ≤ gb340)); have n5_ := Aside0.mk ((by rw [hg]; exact (below_size (by repeat (first | (with_reducible first | exact HB.out | apply below_alloc | apply pw_below_drewN | apply below_drew1) | exact HB.out))) : w.heap.size ≤ gb340)); clear HO_7; clear HO_40; clear HB; have HO_7 := n0_; have HO_40 := n1_; have HB := n2_; have BK340 := n3_; have GW340 := n4_; have GE340 := n5_; clear n0_ n1_ n2_ n3_ n4_ n5_; clear hb hbox hg; have hcz20_0 : w19.cell? ⟨gb340, 0, none⟩ = some (.int .u32 0) := (blk_cell BK340.out 0).trans rfl; have hcz20_1 : w19.cell? ⟨gb340, 1, none⟩ = some (.int .i64 0) := (blk_cell BK340.out 1).trans rfl; have hfz20_0 := blk_frozen BK340.out 0; have hfz20_1 := blk_frozen BK340.out 1))
                repeat (go_quiet (first | ((with_reducible refine gate_dst (N := 10) rfl ?_); (try (refine gate_guard (by rfl) ?_; dsimp only)); refine box_event ?hg (N := 10) ?hd (cs := #[.int .u32 0, .int .i64 0]) (t := 50) ?hr ?_; (case hd => rfl); (case hg => rfl); (case hr => first | (go_simp; done) | (go_simp; rfl)); intro gb340 hg w19 hbox hb; have n0_ := Aside0.mk (Kd.R_below (Kd.R_elderB (by (with_reducible repeat (first | apply Kd.R_alloc | apply Kd.R_drewN | apply Kd.R_drew)); exact HO_7.out) gb340 (Nat.le_of_eq hg.symm)) hb); have n1_ := Aside0.mk (Kd.R_below (Kd.R_elderB (by (with_reducible repeat (first | apply Kd.R_alloc | apply Kd.R_drewN | apply Kd.R_drew)); exact HO_40.out) gb340 (Nat.le_of_eq hg.symm)) hb); have n2_ := Aside0.mk (below_step (by repeat (first | (with_reducible first | exact HB.out | apply below_alloc | apply pw_below_drewN | apply below_drew1) | exact HB.out)) hb); have n3_ := Aside0.mk (hbox); have n4_ := Aside0.mk ((by rw [hg]; exact (below_size (by repeat (first | (with_reducible first | exact HB.out | apply below_alloc | apply pw_below_drewN | apply below_drew1) | exact HB.out))) : w.heap.size ≤ gb340)); have n5_ := Aside0.mk ((by rw [hg]; exact (below_size (by repeat (first | (with_reducible first | exact HB.out | apply below_alloc | apply pw_below_drewN | apply below_drew1) | exact HB.out))) : w.heap.size ≤ gb340)); clear HO_7; clear HO_40; clear HB; have HO_7 := n0_; have HO_40 := n1_; have HB := n2_; have BK340 := n3_; have GW340 := n4_; have GE340 := n5_; clear n0_ n1_ n2_ n3_ n4_ n5_; clear hb hbox hg; have hcz20_0 : w19.cell? ⟨gb340, 0, none⟩ = some (.int .u32 0) := (blk_cell BK340.out 0).trans rfl; have hcz20_1 : w19.cell? ⟨gb340, 1, none⟩ = some (.int .i64 0) := (blk_cell BK340.out 1).trans rfl; have hfz20_0 := blk_frozen BK340.out 0; have hfz20_1 := blk_frozen BK340.out 1)); go_upto_region 10 with (first | ((with_reducible refine gate_dst (N := 10) rfl ?_); (try (refine gate_guard (by rfl) ?_; dsimp only)); refine box_event ?hg (N := 10) ?hd (cs := #[.int .u32 0, .int .i64 0]) (t := 50) ?hr ?_; (case hd => rfl); (case hg => rfl); (case hr => first | (go_simp; done) | (go_simp; rfl)); intro gb340 hg w19 hbox hb; have n0_ := Aside0.mk (Kd.R_below (Kd.R_elderB (by (with_reducible repeat (first | apply Kd.R_alloc | apply Kd.R_drewN | apply Kd.R_drew)); exact HO_7.out) gb340 (Nat.le_of_eq hg.symm)) hb); have n1_ := Aside0.mk (Kd.R_below (Kd.R_elderB (by (with_reducible repeat (first | apply Kd.R_alloc | apply Kd.R_drewN | apply Kd.R_drew)); exact HO_40.out) gb340 (Nat.le_of_eq hg.symm)) hb); have n2_ := Aside0.mk (below_step (by repeat (first | (with_reducible first | exact HB.out | apply below_alloc | apply pw_below_drewN | apply below_drew1) | exact HB.out)) hb); have n3_ := Aside0.mk (hbox); have n4_ := Aside0.mk ((by rw [hg]; exact (below_size (by repeat (first | (with_reducible first | exact HB.out | apply below_alloc | apply pw_below_drewN | apply below_drew1) | exact HB.out))) : w.heap.size ≤ gb340)); have n5_ := Aside0.mk ((by rw [hg]; exact (below_size (by repeat (first | (with_reducible first | exact HB.out | apply below_alloc | apply pw_below_drewN | apply below_drew1) | exact HB.out))) : w.heap.size ≤ gb340)); clear HO_7; clear HO_40; clear HB; have HO_7 := n0_; have HO_40 := n1_; have HB := n2_; have BK340 := n3_; have GW340 := n4_; have GE340 := n5_; clear n0_ n1_ n2_ n3_ n4_ n5_; clear hb hbox hg; have hcz20_0 : w19.cell? ⟨gb340, 0, none⟩ = some (.int .u32 0) := (blk_cell BK340.out 0).trans rfl; have hcz20_1 : w19.cell? ⟨gb340, 1, none⟩ = some (.int .i64 0) := (blk_cell BK340.out 1).trans rfl; have hfz20_0 := blk_frozen BK340.out 0; have hfz20_1 := blk_frozen BK340.out 1)))
                (try simp only [Act.put, List.setIfInBounds_toArray, List.set_cons_zero, List.set_cons_succ])
                go_cut [68] (fun v68 wc => ∃ (kq : Nat) (x68_17 : Bool), v68 = .bool x68_17 ∧ Aside0 (posternlaw20_FourApart.j1 kq a1 l2 t336 x8_1 x42_1 t336 (t336.length : Int) x42_1 x68_17 ((rd_T50 t336 x42_1).f0) ((rd_T50 t336 x42_1).f1) = some r) ∧ Aside0 (kq ≤ k1) ∧ Aside0 (Kd.R k50 50 wc w.heap.size (fun k_ => k_ ≠ gb340) (.slice (some ad339) t336.length co14) t336) ∧ Aside0 (Kd.R k50 50 wc w.heap.size (fun k_ => k_ ≠ gb340) (.slice (some ad339) t336.length co14) t336) ∧ Aside0 (wc.heap[gb340]? = some (.cells #[.int .u32 ((rd_T50 t336 x42_1).f0), .int .i64 ((rd_T50 t336 x42_1).f1)] 50 (0, 0))) ∧ Aside0 (Below w.heap.size w wc))
                case first =>
                  have H := HC18.out
                  clear HC18
                  by_cases c21 : ((rd_T50 t336 x42_1).f1) < 0
                  · rw [if_pos c21] at H
                    have c21b0 : decide (((rd_T50 t336 x42_1).f1) < 0) = true := decide_eq_true c21
                    clear c21
                    (first | rw [c21b0] | (simp only [i64_w, i32_w]; rw [c21b0]) | skip)
                    have H' := Aside0.mk H
                    clear H
                    have hcz22_0 : w19.cell? ⟨gb340, 0, none⟩ = some (.int .u32 0) := (blk_cell BK340.out 0).trans rfl
                    have hcz22_1 : w19.cell? ⟨gb340, 1, none⟩ = some (.int .i64 0) := (blk_cell BK340.out 1).trans rfl
                    have hfz22_0 := blk_frozen BK340.out 0
                    have hfz22_1 := blk_frozen BK340.out 1
                    go_wp2
                    repeat (go_quiet (fail); try go_wp2)
                    go_meet
                    case rel => exact ⟨_, (true), (by first | rfl | (simp; done) | (simp [*]; done)), H', ⟨by have := HK1.out; first | omega | exact Nat.le_refl _⟩, ⟨by (with_reducible repeat (first | apply Kd.R_alloc | apply Kd.R_drewN | apply Kd.R_drew)); exact Kd.R_mono (Kd.R_far (p := ⟨gb340, 1, none⟩) (Kd.R_far (p := ⟨gb340, 0, none⟩) (Kd.R_mono HO_7.out (fun k_ hk => (⟨hk, hk.2⟩ : _ ∧ k_ ≠ gb340))) (fun _ hk => hk.2) (.int .u32 ((rd_T50 t336 x42_1).f0))) (fun _ hk => hk.2) (.int .i64 ((rd_T50 t336 x42_1).f1))) (fun _ hk => hk.1.2)⟩, ⟨by (with_reducible repeat (first | apply Kd.R_alloc | apply Kd.R_drewN | apply Kd.R_drew)); exact Kd.R_mono (Kd.R_far (p := ⟨gb340, 1, none⟩) (Kd.R_far (p := ⟨gb340, 0, none⟩) (Kd.R_mono HO_40.out (fun k_ hk => (⟨hk, hk.2⟩ : _ ∧ k_ ≠ gb340))) (fun _ hk => hk.2) (.int .u32 ((rd_T50 t336 x42_1).f0))) (fun _ hk => hk.2) (.int .i64 ((rd_T50 t336 x42_1).f1))) (fun _ hk => hk.1.2)⟩, ⟨by (with_reducible repeat (first | refine blk_drewN ?_ _ | refine blk_drew ?_ | refine blk_alloc ?_ _)); refine blk_put (cs := #[.int .u32 ((rd_T50 t336 x42_1).f0), .int .i64 0]) ?_ 1 _ rfl; (with_reducible repeat (first | refine blk_drewN ?_ _ | refine blk_drew ?_ | refine blk_alloc ?_ _)); refine blk_put (cs := #[.int .u32 0, .int .i64 0]) ?_ 0 _ rfl; (with_reducible repeat (first | refine blk_drewN ?_ _ | refine blk_drew ?_ | refine blk_alloc ?_ _)); exact BK340.out⟩, ⟨by repeat (first | (with_reducible first | exact HB.out | apply below_alloc | apply pw_below_drewN | apply below_drew1 | refine below_set ?_ GE340.out) | exact HB.out)⟩⟩
                  · rw [if_neg c21] at H
                    have c21b0 : decide (((rd_T50 t336 x42_1).f1) < 0) = false := decide_eq_false c21
                    clear c21
                    (first | rw [c21b0] | (simp only [i64_w, i32_w]; rw [c21b0]) | skip)
                    by_cases c23 : ((rd_T50 t336 x42_1).f1) > 32
                    · rw [if_pos c23] at H
                      have c23b0 : decide (32 < ((rd_T50 t336 x42_1).f1)) = true := decide_eq_true c23
                      clear c23
                      have H' := Aside0.mk H
                      clear H
                      have hcz24_0 : w19.cell? ⟨gb340, 0, none⟩ = some (.int .u32 0) := (blk_cell BK340.out 0).trans rfl
                      have hcz24_1 : w19.cell? ⟨gb340, 1, none⟩ = some (.int .i64 0) := (blk_cell BK340.out 1).trans rfl
                      have hfz24_0 := blk_frozen BK340.out 0
                      have hfz24_1 := blk_frozen BK340.out 1
                      go_wp2
                      repeat (go_quiet (fail); try go_wp2)
                      go_meet
                      case rel => exact ⟨_, (true), (by first | rfl | (simp; done) | (simp [*]; done)), H', ⟨by have := HK1.out; first | omega | exact Nat.le_refl _⟩, ⟨by (with_reducible repeat (first | apply Kd.R_alloc | apply Kd.R_drewN | apply Kd.R_drew)); exact Kd.R_mono (Kd.R_far (p := ⟨gb340, 1, none⟩) (Kd.R_far (p := ⟨gb340, 0, none⟩) (Kd.R_mono HO_7.out (fun k_ hk => (⟨hk, hk.2⟩ : _ ∧ k_ ≠ gb340))) (fun _ hk => hk.2) (.int .u32 ((rd_T50 t336 x42_1).f0))) (fun _ hk => hk.2) (.int .i64 ((rd_T50 t336 x42_1).f1))) (fun _ hk => hk.1.2)⟩, ⟨by (with_reducible repeat (first | apply Kd.R_alloc | apply Kd.R_drewN | apply Kd.R_drew)); exact Kd.R_mono (Kd.R_far (p := ⟨gb340, 1, none⟩) (Kd.R_far (p := ⟨gb340, 0, none⟩) (Kd.R_mono HO_40.out (fun k_ hk => (⟨hk, hk.2⟩ : _ ∧ k_ ≠ gb340))) (fun _ hk => hk.2) (.int .u32 ((rd_T50 t336 x42_1).f0))) (fun _ hk => hk.2) (.int .i64 ((rd_T50 t336 x42_1).f1))) (fun _ hk => hk.1.2)⟩, ⟨by (with_reducible repeat (first | refine blk_drewN ?_ _ | refine blk_drew ?_ | refine blk_alloc ?_ _)); refine blk_put (cs := #[.int .u32 ((rd_T50 t336 x42_1).f0), .int .i64 0]) ?_ 1 _ rfl; (with_reducible repeat (first | refine blk_drewN ?_ _ | refine blk_drew ?_ | refine blk_alloc ?_ _)); refine blk_put (cs := #[.int .u32 0, .int .i64 0]) ?_ 0 _ rfl; (with_reducible repeat (first | refine blk_drewN ?_ _ | refine blk_drew ?_ | refine blk_alloc ?_ _)); exact BK340.out⟩, ⟨by repeat (first | (with_reducible first | exact HB.out | apply below_alloc | apply pw_below_drewN | apply below_drew1 | refine below_set ?_ GE340.out) | exact HB.out)⟩⟩
                    · rw [if_neg c23] at H
                      have c23b0 : decide (32 < ((rd_T50 t336 x42_1).f1)) = false := decide_eq_false c23
                      clear c23
                      by_cases c25 : (IntKind.u64.wrap ((rd_T50 t336 x42_1).f0)) = x8_1
                      · rw [if_pos c25] at H
                        have c25b0 : ((IntKind.u64.wrap ((rd_T50 t336 x42_1).f0)) == x8_1) = true := beq_iff_eq.mpr c25
                        have c25b1 : ((IntKind.u64.wrap ((rd_T50 t336 x42_1).f0)) != x8_1) = false := bne_eq_false_iff_eq.mpr c25
                        clear c25
                        replace H := Option.bind_eq_some_iff.mp H
                        obtain ⟨t341, A260, H⟩ := H
                        replace H : (posternlaw20_FourApart.j1 k1 a1 l2 t336 x8_1 x42_1 t336 (t336.length : Int) x42_1 (!t341) ((rd_T50 t336 x42_1).f0) ((rd_T50 t336 x42_1).f1)) = some r := H
                        have A26 := Aside0.mk A260
                        clear A260
                        have H' := Aside0.mk H
                        clear H
                        have hcz27_0 : w19.cell? ⟨gb340, 0, none⟩ = some (.int .u32 0) := (blk_cell BK340.out 0).trans rfl
                        have hcz27_1 : w19.cell? ⟨gb340, 1, none⟩ = some (.int .i64 0) := (blk_cell BK340.out 1).trans rfl
                        have hfz27_0 := blk_frozen BK340.out 0
                        have hfz27_1 := blk_frozen BK340.out 1
                        go_wp2_with (first | (go_at_call 37; (with_reducible refine (four_Within.calls ((rd_T50 t336 x42_1).f0) ((rd_T50 t336 x42_1).f1) ((rd_T50 t336 x42_1).f0) t341 _ A26.out).mono ?_); rintro e w28 ⟨rfl, hb⟩; have n0_ := Aside0.mk (Kd.R_below (by (with_reducible repeat (first | apply Kd.R_alloc | apply Kd.R_drewN | apply Kd.R_drew)); exact (Kd.R_mono (Kd.R_far (p := ⟨gb340, 1, none⟩) (Kd.R_far (p := ⟨gb340, 0, none⟩) (Kd.R_mono HO_7.out (fun k_ hk => (⟨hk, hk.2⟩ : _ ∧ k_ ≠ gb340))) (fun _ hk => hk.2) (.int .u32 ((rd_T50 t336 x42_1).f0))) (fun _ hk => hk.2) (.int .i64 ((rd_T50 t336 x42_1).f1))) (fun _ h_ => h_.1))) hb); have n1_ := Aside0.mk (Kd.R_below (by (with_reducible repeat (first | apply Kd.R_alloc | apply Kd.R_drewN | apply Kd.R_drew)); exact (Kd.R_mono (Kd.R_far (p := ⟨gb340, 1, none⟩) (Kd.R_far (p := ⟨gb340, 0, none⟩) (Kd.R_mono HO_40.out (fun k_ hk => (⟨hk, hk.2⟩ : _ ∧ k_ ≠ gb340))) (fun _ hk => hk.2) (.int .u32 ((rd_T50 t336 x42_1).f0))) (fun _ hk => hk.2) (.int .i64 ((rd_T50 t336 x42_1).f1))) (fun _ h_ => h_.1))) hb); have n2_ := Aside0.mk (blk_below (g := gb340) (o := .cells #[.int .u32 ((rd_T50 t336 x42_1).f0), .int .i64 ((rd_T50 t336 x42_1).f1)] 50 (0, 0)) (by (with_reducible repeat (first | refine blk_drewN ?_ _ | refine blk_drew ?_ | refine blk_alloc ?_ _)); refine blk_put (cs := #[.int .u32 ((rd_T50 t336 x42_1).f0), .int .i64 0]) ?_ 1 _ rfl; (with_reducible repeat (first | refine blk_drewN ?_ _ | refine blk_drew ?_ | refine blk_alloc ?_ _)); refine blk_put (cs := #[.int .u32 0, .int .i64 0]) ?_ 0 _ rfl; (with_reducible repeat (first | refine blk_drewN ?_ _ | refine blk_drew ?_ | refine blk_alloc ?_ _)); exact BK340.out) hb); have n3_ := Aside0.mk (below_step (by repeat (first | (with_reducible first | exact HB.out | apply below_alloc | apply pw_below_drewN | apply below_drew1 | refine below_set ?_ GE340.out) | exact HB.out)) hb); clear HO_7; clear HO_40; clear BK340; clear HB; have HO_7 := n0_; have HO_40 := n1_; have BK340 := n2_; have HB := n3_; clear n0_ n1_ n2_ n3_; (try clear hb); (try clear hb2); (try clear hk); (try clear hi)))
                        repeat (go_quiet (first | (go_at_call 37; (with_reducible refine (four_Within.calls ((rd_T50 t336 x42_1).f0) ((rd_T50 t336 x42_1).f1) ((rd_T50 t336 x42_1).f0) t341 _ A26.out).mono ?_); rintro e w28 ⟨rfl, hb⟩; have n0_ := Aside0.mk (Kd.R_below (by (with_reducible repeat (first | apply Kd.R_alloc | apply Kd.R_drewN | apply Kd.R_drew)); exact (Kd.R_mono (Kd.R_far (p := ⟨gb340, 1, none⟩) (Kd.R_far (p := ⟨gb340, 0, none⟩) (Kd.R_mono HO_7.out (fun k_ hk => (⟨hk, hk.2⟩ : _ ∧ k_ ≠ gb340))) (fun _ hk => hk.2) (.int .u32 ((rd_T50 t336 x42_1).f0))) (fun _ hk => hk.2) (.int .i64 ((rd_T50 t336 x42_1).f1))) (fun _ h_ => h_.1))) hb); have n1_ := Aside0.mk (Kd.R_below (by (with_reducible repeat (first | apply Kd.R_alloc | apply Kd.R_drewN | apply Kd.R_drew)); exact (Kd.R_mono (Kd.R_far (p := ⟨gb340, 1, none⟩) (Kd.R_far (p := ⟨gb340, 0, none⟩) (Kd.R_mono HO_40.out (fun k_ hk => (⟨hk, hk.2⟩ : _ ∧ k_ ≠ gb340))) (fun _ hk => hk.2) (.int .u32 ((rd_T50 t336 x42_1).f0))) (fun _ hk => hk.2) (.int .i64 ((rd_T50 t336 x42_1).f1))) (fun _ h_ => h_.1))) hb); have n2_ := Aside0.mk (blk_below (g := gb340) (o := .cells #[.int .u32 ((rd_T50 t336 x42_1).f0), .int .i64 ((rd_T50 t336 x42_1).f1)] 50 (0, 0)) (by (with_reducible repeat (first | refine blk_drewN ?_ _ | refine blk_drew ?_ | refine blk_alloc ?_ _)); refine blk_put (cs := #[.int .u32 ((rd_T50 t336 x42_1).f0), .int .i64 0]) ?_ 1 _ rfl; (with_reducible repeat (first | refine blk_drewN ?_ _ | refine blk_drew ?_ | refine blk_alloc ?_ _)); refine blk_put (cs := #[.int .u32 0, .int .i64 0]) ?_ 0 _ rfl; (with_reducible repeat (first | refine blk_drewN ?_ _ | refine blk_drew ?_ | refine blk_alloc ?_ _)); exact BK340.out) hb); have n3_ := Aside0.mk (below_step (by repeat (first | (with_reducible first | exact HB.out | apply below_alloc | apply pw_below_drewN | apply below_drew1 | refine below_set ?_ GE340.out) | exact HB.out)) hb); clear HO_7; clear HO_40; clear BK340; clear HB; have HO_7 := n0_; have HO_40 := n1_; have BK340 := n2_; have HB := n3_; clear n0_ n1_ n2_ n3_; (try clear hb); (try clear hb2); (try clear hk); (try clear hi))); try go_wp2_with (first | (go_at_call 37; (with_reducible refine (four_Within.calls ((rd_T50 t336 x42_1).f0) ((rd_T50 t336 x42_1).f1) ((rd_T50 t336 x42_1).f0) t341 _ A26.out).mono ?_); rintro e w28 ⟨rfl, hb⟩; have n0_ := Aside0.mk (Kd.R_below (by (with_reducible repeat (first | apply Kd.R_alloc | apply Kd.R_drewN | apply Kd.R_drew)); exact (Kd.R_mono (Kd.R_far (p := ⟨gb340, 1, none⟩) (Kd.R_far (p := ⟨gb340, 0, none⟩) (Kd.R_mono HO_7.out (fun k_ hk => (⟨hk, hk.2⟩ : _ ∧ k_ ≠ gb340))) (fun _ hk => hk.2) (.int .u32 ((rd_T50 t336 x42_1).f0))) (fun _ hk => hk.2) (.int .i64 ((rd_T50 t336 x42_1).f1))) (fun _ h_ => h_.1))) hb); have n1_ := Aside0.mk (Kd.R_below (by (with_reducible repeat (first | apply Kd.R_alloc | apply Kd.R_drewN | apply Kd.R_drew)); exact (Kd.R_mono (Kd.R_far (p := ⟨gb340, 1, none⟩) (Kd.R_far (p := ⟨gb340, 0, none⟩) (Kd.R_mono HO_40.out (fun k_ hk => (⟨hk, hk.2⟩ : _ ∧ k_ ≠ gb340))) (fun _ hk => hk.2) (.int .u32 ((rd_T50 t336 x42_1).f0))) (fun _ hk => hk.2) (.int .i64 ((rd_T50 t336 x42_1).f1))) (fun _ h_ => h_.1))) hb); have n2_ := Aside0.mk (blk_below (g := gb340) (o := .cells #[.int .u32 ((rd_T50 t336 x42_1).f0), .int .i64 ((rd_T50 t336 x42_1).f1)] 50 (0, 0)) (by (with_reducible repeat (first | refine blk_drewN ?_ _ | refine blk_drew ?_ | refine blk_alloc ?_ _)); refine blk_put (cs := #[.int .u32 ((rd_T50 t336 x42_1).f0), .int .i64 0]) ?_ 1 _ rfl; (with_reducible repeat (first | refine blk_drewN ?_ _ | refine blk_drew ?_ | refine blk_alloc ?_ _)); refine blk_put (cs := #[.int .u32 0, .int .i64 0]) ?_ 0 _ rfl; (with_reducible repeat (first | refine blk_drewN ?_ _ | refine blk_drew ?_ | refine blk_alloc ?_ _)); exact BK340.out) hb); have n3_ := Aside0.mk (below_step (by repeat (first | (with_reducible first | exact HB.out | apply below_alloc | apply pw_below_drewN | apply below_drew1 | refine below_set ?_ GE340.out) | exact HB.out)) hb); clear HO_7; clear HO_40; clear BK340; clear HB; have HO_7 := n0_; have HO_40 := n1_; have BK340 := n2_; have HB := n3_; clear n0_ n1_ n2_ n3_; (try clear hb); (try clear hb2); (try clear hk); (try clear hi))))
                        go_meet
                        case rel => exact ⟨_, (!t341), (by first | rfl | (simp; done) | (simp [*]; done)), H', ⟨by have := HK1.out; first | omega | exact Nat.le_refl _⟩, ⟨by (with_reducible repeat (first | apply Kd.R_alloc | apply Kd.R_drewN | apply Kd.R_drew)); exact Kd.R_mono HO_7.out (fun _ hk => hk.2)⟩, ⟨by (with_reducible repeat (first | apply Kd.R_alloc | apply Kd.R_drewN | apply Kd.R_drew)); exact Kd.R_mono HO_40.out (fun _ hk => hk.2)⟩, ⟨by (with_reducible repeat (first | refine blk_drewN ?_ _ | refine blk_drew ?_ | refine blk_alloc ?_ _)); exact BK340.out⟩, ⟨by repeat (first | (with_reducible first | exact HB.out | apply below_alloc | apply pw_below_drewN | apply below_drew1 | refine below_set ?_ GE340.out) | exact HB.out)⟩⟩
                      · rw [if_neg c25] at H
                        have c25b0 : ((IntKind.u64.wrap ((rd_T50 t336 x42_1).f0)) == x8_1) = false := beq_eq_false_iff_ne.mpr c25
                        have c25b1 : ((IntKind.u64.wrap ((rd_T50 t336 x42_1).f0)) != x8_1) = true := bne_iff_ne.mpr c25
                        have H' := Aside0.mk H
                        clear H
                        have hcz29_0 : w19.cell? ⟨gb340, 0, none⟩ = some (.int .u32 0) := (blk_cell BK340.out 0).trans rfl
                        have hcz29_1 : w19.cell? ⟨gb340, 1, none⟩ = some (.int .i64 0) := (blk_cell BK340.out 1).trans rfl
                        have hfz29_0 := blk_frozen BK340.out 0
                        have hfz29_1 := blk_frozen BK340.out 1
                        go_wp2
                        repeat (go_quiet (fail); try go_wp2)
                        go_meet
                        case rel => exact ⟨_, (true), (by first | rfl | (simp; done) | (simp [*]; done)), H', ⟨by have := HK1.out; first | omega | exact Nat.le_refl _⟩, ⟨by (with_reducible repeat (first | apply Kd.R_alloc | apply Kd.R_drewN | apply Kd.R_drew)); exact Kd.R_mono (Kd.R_far (p := ⟨gb340, 1, none⟩) (Kd.R_far (p := ⟨gb340, 0, none⟩) (Kd.R_mono HO_7.out (fun k_ hk => (⟨hk, hk.2⟩ : _ ∧ k_ ≠ gb340))) (fun _ hk => hk.2) (.int .u32 ((rd_T50 t336 x42_1).f0))) (fun _ hk => hk.2) (.int .i64 ((rd_T50 t336 x42_1).f1))) (fun _ hk => hk.1.2)⟩, ⟨by (with_reducible repeat (first | apply Kd.R_alloc | apply Kd.R_drewN | apply Kd.R_drew)); exact Kd.R_mono (Kd.R_far (p := ⟨gb340, 1, none⟩) (Kd.R_far (p := ⟨gb340, 0, none⟩) (Kd.R_mono HO_40.out (fun k_ hk => (⟨hk, hk.2⟩ : _ ∧ k_ ≠ gb340))) (fun _ hk => hk.2) (.int .u32 ((rd_T50 t336 x42_1).f0))) (fun _ hk => hk.2) (.int .i64 ((rd_T50 t336 x42_1).f1))) (fun _ hk => hk.1.2)⟩, ⟨by (with_reducible repeat (first | refine blk_drewN ?_ _ | refine blk_drew ?_ | refine blk_alloc ?_ _)); refine blk_put (cs := #[.int .u32 ((rd_T50 t336 x42_1).f0), .int .i64 0]) ?_ 1 _ rfl; (with_reducible repeat (first | refine blk_drewN ?_ _ | refine blk_drew ?_ | refine blk_alloc ?_ _)); refine blk_put (cs := #[.int .u32 0, .int .i64 0]) ?_ 0 _ rfl; (with_reducible repeat (first | refine blk_drewN ?_ _ | refine blk_drew ?_ | refine blk_alloc ?_ _)); exact BK340.out⟩, ⟨by repeat (first | (with_reducible first | exact HB.out | apply below_alloc | apply pw_below_drewN | apply below_drew1 | refine below_set ?_ GE340.out) | exact HB.out)⟩⟩
                case rest =>
                  clear HC18
                  try clear c1
                  try clear c2
                  try clear p2
                  try clear p3
                  try clear q3
                  try clear hx3
                  try clear c5
                  try clear c6
                  try clear c6b0
                  try clear c10
                  try clear c15
                  try clear c15b0
                  try clear c16
                  try clear c16b0
                  try clear c17
                  try clear c17b0
                  try clear c21
                  try clear c21b0
                  try clear c23
                  try clear c23b0
                  try clear c25
                  try clear c25b0
                  try clear c25b1
                  try clear hcz20_0
                  try clear hcz20_1
                  try clear hcz22_0
                  try clear hcz22_1
                  try clear hcz24_0
                  try clear hcz24_1
                  try clear hcz27_0
                  try clear hcz27_1
                  try clear hcz29_0
                  try clear hcz29_1
                  try clear hfz20_0
                  try clear hfz20_1
                  try clear hfz22_0
                  try clear hfz22_1
                  try clear hfz24_0
                  try clear hfz24_1
                  try clear hfz27_0
                  try clear hfz27_1
                  try clear hfz29_0
                  try clear hfz29_1
                  try clear hx339_0
                  try clear hx339_1
                  try clear p2
                  try clear p339
                  try clear q339
                  obtain ⟨kq, x68_17, rfl, HA, HJ17, HO_7, HO_40, BK340, HB⟩ := hcut
                  cases kq with
                  | zero => exact absurd HA.out (by simp [posternlaw20_FourApart.j1])
                  | succ kj17 =>
                    have H := HA.out
                    clear HA
                    simp only [posternlaw20_FourApart.j1] at H
                    by_cases c30 : x68_17 = true
                    · subst c30
                      have H1 : (some false) = some r := by rw [if_pos rfl] at H; exact H
                      clear H
                      have H := H1
                      clear H1
                      obtain rfl := Option.some.inj H
                      go_wp2
                      repeat (go_quiet (fail); try go_wp2)
                      go_ret
                      exact ⟨by first | rfl | (simp [errW_none, errW_some] <;> rfl) | (simp [*, errW_none, errW_some] <;> rfl), by repeat (first | (with_reducible first | exact HB.out | apply below_alloc | apply pw_below_drewN | apply below_drew1 | refine below_set ?_ GE340.out) | exact HB.out)⟩
                    · replace c30 := Bool.eq_false_iff.mpr c30
                      subst c30
                      have H1 : (if 0 ≤ (IntKind.u64.wrap (wrap64 (32 - ((rd_T50 t336 x42_1).f1)))) then (if x42_1 > 0 then (if 0 ≤ (wrap64 (x42_1 - 1)) then (if (wrap64 (x42_1 - 1)) < (t336.length : Int) then (if ((rd_T50 t336 (wrap64 (x42_1 - 1))).f1) = ((rd_T50 t336 x42_1).f1) then (if (IntKind.u64.wrap (2 * (shl .u64 1 (IntKind.u64.wrap (wrap64 (32 - ((rd_T50 t336 x42_1).f1))))))) = 0 then (none) else (if (Int.tmod (IntKind.u64.wrap ((rd_T50 t336 (wrap64 (x42_1 - 1))).f0)) (IntKind.u64.wrap (2 * (shl .u64 1 (IntKind.u64.wrap (wrap64 (32 - ((rd_T50 t336 x42_1).f1)))))))) = 0 then (some false) else (posternlaw20_FourApart.l0 kj17 a1 l2 t336 (IntKind.u64.wrap (x8_1 + (shl .u64 1 (IntKind.u64.wrap (wrap64 (32 - ((rd_T50 t336 x42_1).f1))))))) t336 (t336.length : Int) (wrap64 (x42_1 + 1))))) else (posternlaw20_FourApart.l0 kj17 a1 l2 t336 (IntKind.u64.wrap (x8_1 + (shl .u64 1 (IntKind.u64.wrap (wrap64 (32 - ((rd_T50 t336 x42_1).f1))))))) t336 (t336.length : Int) (wrap64 (x42_1 + 1)))) else (none)) else (none)) else (posternlaw20_FourApart.l0 kj17 a1 l2 t336 (IntKind.u64.wrap (x8_1 + (shl .u64 1 (IntKind.u64.wrap (wrap64 (32 - ((rd_T50 t336 x42_1).f1))))))) t336 (t336.length : Int) (wrap64 (x42_1 + 1)))) else (none)) = some r := by rw [if_neg (show ¬ (false = true) by decide)] at H; exact H
                      clear H
                      have H := H1
                      clear H1
                      obtain ⟨ji31, hji31⟩ : ∃ j_ : Int, (IntKind.u64.wrap (wrap64 (32 - ((rd_T50 t336 x42_1).f1)))) = j_ := ⟨_, rfl⟩
                      replace H : (if 0 ≤ (ji31) then (if x42_1 > 0 then (if 0 ≤ (wrap64 (x42_1 - 1)) then (if (wrap64 (x42_1 - 1)) < (t336.length : Int) then (if ((rd_T50 t336 (wrap64 (x42_1 - 1))).f1) = ((rd_T50 t336 x42_1).f1) then (if (IntKind.u64.wrap (2 * (shl .u64 1 (ji31)))) = 0 then (none) else (if (Int.tmod (IntKind.u64.wrap ((rd_T50 t336 (wrap64 (x42_1 - 1))).f0)) (IntKind.u64.wrap (2 * (shl .u64 1 (ji31))))) = 0 then (some false) else (posternlaw20_FourApart.l0 kj17 a1 l2 t336 (IntKind.u64.wrap (x8_1 + (shl .u64 1 (ji31)))) t336 (t336.length : Int) (wrap64 (x42_1 + 1))))) else (posternlaw20_FourApart.l0 kj17 a1 l2 t336 (IntKind.u64.wrap (x8_1 + (shl .u64 1 (ji31)))) t336 (t336.length : Int) (wrap64 (x42_1 + 1)))) else (none)) else (none)) else (posternlaw20_FourApart.l0 kj17 a1 l2 t336 (IntKind.u64.wrap (x8_1 + (shl .u64 1 (ji31)))) t336 (t336.length : Int) (wrap64 (x42_1 + 1)))) else (none)) = some r := by first | (rw [hji31] at H; exact H) | (simp only [hji31] at H ⊢; exact H)
                      by_cases c32 : 0 ≤ (ji31)
                      · rw [if_pos c32] at H
                        have c32b0 := eq_true c32
                        have c32b1 : decide (0 ≤ (ji31)) = true := decide_eq_true c32
                        clear c32
                        obtain ⟨ji33, hji33⟩ : ∃ j_ : Int, (shl .u64 1 (ji31)) = j_ := ⟨_, rfl⟩
                        replace H : (if x42_1 > 0 then (if 0 ≤ (wrap64 (x42_1 - 1)) then (if (wrap64 (x42_1 - 1)) < (t336.length : Int) then (if ((rd_T50 t336 (wrap64 (x42_1 - 1))).f1) = ((rd_T50 t336 x42_1).f1) then (if (IntKind.u64.wrap (2 * (ji33))) = 0 then (none) else (if (Int.tmod (IntKind.u64.wrap ((rd_T50 t336 (wrap64 (x42_1 - 1))).f0)) (IntKind.u64.wrap (2 * (ji33)))) = 0 then (some false) else (posternlaw20_FourApart.l0 kj17 a1 l2 t336 (IntKind.u64.wrap (x8_1 + (ji33))) t336 (t336.length : Int) (wrap64 (x42_1 + 1))))) else (posternlaw20_FourApart.l0 kj17 a1 l2 t336 (IntKind.u64.wrap (x8_1 + (ji33))) t336 (t336.length : Int) (wrap64 (x42_1 + 1)))) else (none)) else (none)) else (posternlaw20_FourApart.l0 kj17 a1 l2 t336 (IntKind.u64.wrap (x8_1 + (ji33))) t336 (t336.length : Int) (wrap64 (x42_1 + 1)))) = some r := by first | (rw [hji33] at H; exact H) | (simp only [hji33] at H ⊢; exact H)
                        have hji33_ : (IntKind.u64.wrap (1 * 2 ^ min (ji31).toNat 64)) = ji33 := hji33
                        have hji33z : (ji31) ≤ 64 → (IntKind.u64.wrap (1 * 2 ^ (ji31).toNat)) = ji33 := shl_small hji33
                        have hji33u : (IntKind.u64.wrap (2 ^ min (ji31).toNat 64)) = ji33 := by have h_ := hji33_; rw [Int.one_mul] at h_; exact h_
                        have hji33v : (ji31) ≤ 64 → (IntKind.u64.wrap (2 ^ (ji31).toNat)) = ji33 := fun hle_ => by have h_ := hji33z hle_; rw [Int.one_mul] at h_; exact h_
                        by_cases c34 : x42_1 > 0
                        · rw [if_pos c34] at H
                          have c34b0 : decide (0 < x42_1) = true := decide_eq_true c34
                          clear c34
                          obtain ⟨ji35, hji35⟩ : ∃ j_ : Int, (wrap64 (x42_1 - 1)) = j_ := ⟨_, rfl⟩
                          replace H : (if 0 ≤ (ji35) then (if (ji35) < (t336.length : Int) then (if ((rd_T50 t336 (ji35)).f1) = ((rd_T50 t336 x42_1).f1) then (if (IntKind.u64.wrap (2 * (ji33))) = 0 then (none) else (if (Int.tmod (IntKind.u64.wrap ((rd_T50 t336 (ji35)).f0)) (IntKind.u64.wrap (2 * (ji33)))) = 0 then (some false) else (posternlaw20_FourApart.l0 kj17 a1 l2 t336 (IntKind.u64.wrap (x8_1 + (ji33))) t336 (t336.length : Int) (wrap64 (x42_1 + 1))))) else (posternlaw20_FourApart.l0 kj17 a1 l2 t336 (IntKind.u64.wrap (x8_1 + (ji33))) t336 (t336.length : Int) (wrap64 (x42_1 + 1)))) else (none)) else (none)) = some r := by first | (rw [hji35] at H; exact H) | (simp only [hji35] at H ⊢; exact H)
                          have hji35w : (IntKind.i64.wrap (x42_1 - 1)) = ji35 := (i64_w _).trans hji35
                          by_cases c36 : 0 ≤ (ji35)
                          · rw [if_pos c36] at H
                            have c36b0 : decide (0 ≤ (ji35)) = true := decide_eq_true c36
                            clear c36
                            by_cases c37 : (ji35) < (t336.length : Int)
                            · rw [if_pos c37] at H
                              have c37b0 : decide ((ji35) < (t336.length : Int)) = true := decide_eq_true c37
                              clear c37
                              by_cases c38 : ((rd_T50 t336 (ji35)).f1) = ((rd_T50 t336 x42_1).f1)
                              · rw [if_pos c38] at H
                                have c38b0 : (((rd_T50 t336 (ji35)).f1) == ((rd_T50 t336 x42_1).f1)) = true := beq_iff_eq.mpr c38
                                have c38b1 : (((rd_T50 t336 (ji35)).f1) != ((rd_T50 t336 x42_1).f1)) = false := bne_eq_false_iff_eq.mpr c38
                                clear c38
                                by_cases c39 : (IntKind.u64.wrap (2 * (ji33))) = 0
                                · rw [if_pos c39] at H
                                  exact absurd H (by simp)
                                · rw [if_neg c39] at H
                                  have c39b0 : ((IntKind.u64.wrap (2 * (ji33))) == 0) = false := beq_eq_false_iff_ne.mpr c39
                                  have c39b1 : ((IntKind.u64.wrap (2 * (ji33))) != 0) = true := bne_iff_ne.mpr c39
                                  by_cases c40 : (Int.tmod (IntKind.u64.wrap ((rd_T50 t336 (ji35)).f0)) (IntKind.u64.wrap (2 * (ji33)))) = 0
                                  · rw [if_pos c40] at H
                                    have c40b0 : ((Int.tmod (IntKind.u64.wrap ((rd_T50 t336 (ji35)).f0)) (IntKind.u64.wrap (2 * (ji33)))) == 0) = true := beq_iff_eq.mpr c40
                                    have c40b1 : ((Int.tmod (IntKind.u64.wrap ((rd_T50 t336 (ji35)).f0)) (IntKind.u64.wrap (2 * (ji33)))) != 0) = false := bne_eq_false_iff_eq.mpr c40
                                    clear c40
                                    obtain rfl := Option.some.inj H
                                    have hcz41_0 : wc.cell? ⟨gb340, 0, none⟩ = some (.int .u32 ((rd_T50 t336 x42_1).f0)) := (blk_cell BK340.out 0).trans rfl
                                    have hcz41_1 : wc.cell? ⟨gb340, 1, none⟩ = some (.int .i64 ((rd_T50 t336 x42_1).f1)) := (blk_cell BK340.out 1).trans rfl
                                    have hfz41_0 := blk_frozen BK340.out 0
                                    have hfz41_1 := blk_frozen BK340.out 1
                                    have p342 : 0 ≤ ((ji35) : Int) := of_decide_eq_true (by first | (with_reducible assumption) | assumption)
                                    have q342 : (ji35) < (t336.length : Int) := of_decide_eq_true (by first | (with_reducible assumption) | assumption)
                                    obtain ⟨ad342, e342, hx342_0, hx342_1⟩ := at_T50 (Kd.R_reads' HO_7.out).2.2 (ji35) p342 q342
                                    obtain rfl : ad339 = ad342 := (by injection e342)
                                    replace p342 := eq_true p342
                                    replace q342 := eq_true q342
                                    have p343 : 0 ≤ ((ji35) : Int) := of_decide_eq_true (by first | (with_reducible assumption) | assumption)
                                    have q343 : (ji35) < (t336.length : Int) := of_decide_eq_true (by first | (with_reducible assumption) | assumption)
                                    obtain ⟨ad343, e343, hx343_0, hx343_1⟩ := at_T50 (Kd.R_reads' HO_7.out).2.2 (ji35) p343 q343
                                    obtain rfl : ad339 = ad343 := (by injection e343)
                                    replace p343 := eq_true p343
                                    replace q343 := eq_true q343
                                    go_wp2
                                    repeat (go_quiet (fail); try go_wp2)
                                    go_ret
                                    exact ⟨by first | rfl | (simp [errW_none, errW_some] <;> rfl) | (simp only [← hji31, ← hji33, ← hji35]; first | rfl | (simp [errW_none, errW_some] <;> rfl)) | (simp [*, errW_none, errW_some] <;> rfl), by repeat (first | (with_reducible first | exact HB.out | apply below_alloc | apply pw_below_drewN | apply below_drew1 | refine below_set ?_ GE340.out) | exact HB.out)⟩
                                  · rw [if_neg c40] at H
                                    have c40b0 : ((Int.tmod (IntKind.u64.wrap ((rd_T50 t336 (ji35)).f0)) (IntKind.u64.wrap (2 * (ji33)))) == 0) = false := beq_eq_false_iff_ne.mpr c40
                                    have c40b1 : ((Int.tmod (IntKind.u64.wrap ((rd_T50 t336 (ji35)).f0)) (IntKind.u64.wrap (2 * (ji33)))) != 0) = true := bne_iff_ne.mpr c40
                                    have H' := Aside0.mk H
                                    clear H
                                    have hcz42_0 : wc.cell? ⟨gb340, 0, none⟩ = some (.int .u32 ((rd_T50 t336 x42_1).f0)) := (blk_cell BK340.out 0).trans rfl
                                    have hcz42_1 : wc.cell? ⟨gb340, 1, none⟩ = some (.int .i64 ((rd_T50 t336 x42_1).f1)) := (blk_cell BK340.out 1).trans rfl
                                    have hfz42_0 := blk_frozen BK340.out 0
                                    have hfz42_1 := blk_frozen BK340.out 1
                                    have p342 : 0 ≤ ((ji35) : Int) := of_decide_eq_true (by first | (with_reducible assumption) | assumption)
                                    have q342 : (ji35) < (t336.length : Int) := of_decide_eq_true (by first | (with_reducible assumption) | assumption)
                                    obtain ⟨ad342, e342, hx342_0, hx342_1⟩ := at_T50 (Kd.R_reads' HO_7.out).2.2 (ji35) p342 q342
                                    obtain rfl : ad339 = ad342 := (by injection e342)
                                    replace p342 := eq_true p342
                                    replace q342 := eq_true q342
                                    have p343 : 0 ≤ ((ji35) : Int) := of_decide_eq_true (by first | (with_reducible assumption) | assumption)
                                    have q343 : (ji35) < (t336.length : Int) := of_decide_eq_true (by first | (with_reducible assumption) | assumption)
                                    obtain ⟨ad343, e343, hx343_0, hx343_1⟩ := at_T50 (Kd.R_reads' HO_7.out).2.2 (ji35) p343 q343
                                    obtain rfl : ad339 = ad343 := (by injection e343)
                                    replace p343 := eq_true p343
                                    replace q343 := eq_true q343
                                    go_wp2
                                    repeat (go_quiet (fail); try go_wp2)
                                    go_roundg kj17
                                    case measure => have := HK1.out; have := HJ17.out; omega
                                    case rel => exact ⟨(IntKind.u64.wrap (x8_1 + (ji33))), (wrap64 (x42_1 + 1)), (by first | rfl | (simp; done) | (simp only [← hji33] <;> (first | rfl | simp)) | (simp [*]; done)), (by first | rfl | (simp; done) | (simp [*]; done)), H', ⟨by have := HK1.out; have := HJ17.out; omega⟩, ⟨by (with_reducible repeat (first | apply Kd.R_alloc | apply Kd.R_drewN | apply Kd.R_drew)); exact Kd.R_mono HO_7.out (fun _ hk => trivial)⟩, ⟨by (with_reducible repeat (first | apply Kd.R_alloc | apply Kd.R_drewN | apply Kd.R_drew)); exact Kd.R_mono HO_40.out (fun _ hk => trivial)⟩, ⟨by repeat (first | (with_reducible first | exact HB.out | apply below_alloc | apply pw_below_drewN | apply below_drew1 | refine below_set ?_ GE340.out) | exact HB.out)⟩⟩
                              · rw [if_neg c38] at H
                                have c38b0 : (((rd_T50 t336 (ji35)).f1) == ((rd_T50 t336 x42_1).f1)) = false := beq_eq_false_iff_ne.mpr c38
                                have c38b1 : (((rd_T50 t336 (ji35)).f1) != ((rd_T50 t336 x42_1).f1)) = true := bne_iff_ne.mpr c38
                                have H' := Aside0.mk H
                                clear H
                                have hcz43_0 : wc.cell? ⟨gb340, 0, none⟩ = some (.int .u32 ((rd_T50 t336 x42_1).f0)) := (blk_cell BK340.out 0).trans rfl
                                have hcz43_1 : wc.cell? ⟨gb340, 1, none⟩ = some (.int .i64 ((rd_T50 t336 x42_1).f1)) := (blk_cell BK340.out 1).trans rfl
                                have hfz43_0 := blk_frozen BK340.out 0
                                have hfz43_1 := blk_frozen BK340.out 1
                                have p342 : 0 ≤ ((ji35) : Int) := of_decide_eq_true (by first | (with_reducible assumption) | assumption)
                                have q342 : (ji35) < (t336.length : Int) := of_decide_eq_true (by first | (with_reducible assumption) | assumption)
                                obtain ⟨ad342, e342, hx342_0, hx342_1⟩ := at_T50 (Kd.R_reads' HO_7.out).2.2 (ji35) p342 q342
                                obtain rfl : ad339 = ad342 := (by injection e342)
                                replace p342 := eq_true p342
                                replace q342 := eq_true q342
                                go_wp2
                                repeat (go_quiet (fail); try go_wp2)
                                go_roundg kj17
                                case measure => have := HK1.out; have := HJ17.out; omega
                                case rel => exact ⟨(IntKind.u64.wrap (x8_1 + (ji33))), (wrap64 (x42_1 + 1)), (by first | rfl | (simp; done) | (simp only [← hji33] <;> (first | rfl | simp)) | (simp [*]; done)), (by first | rfl | (simp; done) | (simp [*]; done)), H', ⟨by have := HK1.out; have := HJ17.out; omega⟩, ⟨by (with_reducible repeat (first | apply Kd.R_alloc | apply Kd.R_drewN | apply Kd.R_drew)); exact Kd.R_mono HO_7.out (fun _ hk => trivial)⟩, ⟨by (with_reducible repeat (first | apply Kd.R_alloc | apply Kd.R_drewN | apply Kd.R_drew)); exact Kd.R_mono HO_40.out (fun _ hk => trivial)⟩, ⟨by repeat (first | (with_reducible first | exact HB.out | apply below_alloc | apply pw_below_drewN | apply below_drew1 | refine below_set ?_ GE340.out) | exact HB.out)⟩⟩
                            · rw [if_neg c37] at H
                              exact absurd H (by simp)
                          · rw [if_neg c36] at H
                            exact absurd H (by simp)
                        · rw [if_neg c34] at H
                          have c34b0 : decide (0 < x42_1) = false := decide_eq_false c34
                          clear c34
                          have H' := Aside0.mk H
                          clear H
                          have hcz44_0 : wc.cell? ⟨gb340, 0, none⟩ = some (.int .u32 ((rd_T50 t336 x42_1).f0)) := (blk_cell BK340.out 0).trans rfl
                          have hcz44_1 : wc.cell? ⟨gb340, 1, none⟩ = some (.int .i64 ((rd_T50 t336 x42_1).f1)) := (blk_cell BK340.out 1).trans rfl
                          have hfz44_0 := blk_frozen BK340.out 0
                          have hfz44_1 := blk_frozen BK340.out 1
                          go_wp2
                          repeat (go_quiet (fail); try go_wp2)
                          go_roundg kj17
                          case measure => have := HK1.out; have := HJ17.out; omega
                          case rel => exact ⟨(IntKind.u64.wrap (x8_1 + (ji33))), (wrap64 (x42_1 + 1)), (by first | rfl | (simp; done) | (simp only [← hji33] <;> (first | rfl | simp)) | (simp [*]; done)), (by first | rfl | (simp; done) | (simp [*]; done)), H', ⟨by have := HK1.out; have := HJ17.out; omega⟩, ⟨by (with_reducible repeat (first | apply Kd.R_alloc | apply Kd.R_drewN | apply Kd.R_drew)); exact Kd.R_mono HO_7.out (fun _ hk => trivial)⟩, ⟨by (with_reducible repeat (first | apply Kd.R_alloc | apply Kd.R_drewN | apply Kd.R_drew)); exact Kd.R_mono HO_40.out (fun _ hk => trivial)⟩, ⟨by repeat (first | (with_reducible first | exact HB.out | apply below_alloc | apply pw_below_drewN | apply below_drew1 | refine below_set ?_ GE340.out) | exact HB.out)⟩⟩
                      · rw [if_neg c32] at H
                        exact absurd H (by simp)
              · rw [if_neg c17] at H
                exact absurd H (by simp)
            · rw [if_neg c16] at H
              exact absurd H (by simp)
          · rw [if_neg c15] at H
            have c15b0 : decide (x42_1 < (t336.length : Int)) = false := decide_eq_false c15
            clear c15
            by_cases c45 : x8_1 = (IntKind.u64.wrap ((IntKind.u64.wrap (a1)) + 1))
            · rw [if_pos c45] at H
              have c45b0 : (x8_1 == (IntKind.u64.wrap ((IntKind.u64.wrap (a1)) + 1))) = true := beq_iff_eq.mpr c45
              have c45b1 : (x8_1 != (IntKind.u64.wrap ((IntKind.u64.wrap (a1)) + 1))) = false := bne_eq_false_iff_eq.mpr c45
              clear c45
              replace H := Option.bind_eq_some_iff.mp H
              obtain ⟨⟨t344, t345, t346⟩, A460, H⟩ := H
              replace H : (if t346 = 0 then (posternlaw20_FourApart.j2 k1 l2 t336 t344 ((t344.length : Int) != (t336.length : Int))) else (posternlaw20_FourApart.j2 k1 l2 t336 t344 true)) = some r := H
              have A46 := Aside0.mk A460
              clear A460
              have HC47 := Aside0.mk H
              clear H
              go_upto_region 20 with (first | (go_at_call 40; (with_reducible refine (four_Join.calls _ _ t336 t344 t345 t346 _ ?side1 ?side2 (GW.keep HG.out (by repeat (first | (with_reducible first | exact HB.out | apply below_alloc | apply pw_below_drewN | apply below_drew1) | exact HB.out | exact Below.refl _ _))) A46.out).mono ?_); (case side1 => repeat (first | exact (Kd.R_reads' HO_7.out).2.2 | (with_reducible refine Kd.C_alloc ?_ _) | (with_reducible refine Kd.C_drewN ?_ _) | (with_reducible refine Kd.C_drew ?_))); (case side2 => exact (Kd.R_reads' HO_7.out).2.1); rintro e w48 ⟨v347, rfl, ho0, hb⟩; have n0_ := Aside0.mk (Kd.R_elder' (by (with_reducible repeat (first | apply Kd.R_alloc | apply Kd.R_drewN | apply Kd.R_drew)); exact HO_7.out) (Kd.R_base ho0) hb); have n1_ := Aside0.mk (Kd.R_elder' (by (with_reducible repeat (first | apply Kd.R_alloc | apply Kd.R_drewN | apply Kd.R_drew)); exact HO_40.out) (Kd.R_base ho0) hb); have n2_ := Aside0.mk (Kd.R_lower (Kd.R_new' (Kd.R_new' ho0 (Kd.R_lt (by (with_reducible repeat (first | apply Kd.R_alloc | apply Kd.R_drewN | apply Kd.R_drew)); exact HO_7.out))) (Kd.R_lt (by (with_reducible repeat (first | apply Kd.R_alloc | apply Kd.R_drewN | apply Kd.R_drew)); exact HO_40.out))) (below_size (by repeat (first | (with_reducible first | exact HB.out | apply below_alloc | apply pw_below_drewN | apply below_drew1) | exact HB.out)))); have n3_ := Aside0.mk (below_step (by repeat (first | (with_reducible first | exact HB.out | apply below_alloc | apply pw_below_drewN | apply below_drew1) | exact HB.out)) hb); clear HO_7; clear HO_40; clear HB; have HO_7 := n0_; have HO_40 := n1_; have HO348 := n2_; have HB := n3_; clear n0_ n1_ n2_ n3_; (try clear hb); (try clear hb2); (try clear hk); (try clear hi); (try clear ho0)))
              repeat (go_quiet (first | (go_at_call 40; (with_reducible refine (four_Join.calls _ _ t336 t344 t345 t346 _ ?side1 ?side2 (GW.keep HG.out (by repeat (first | (with_reducible first | exact HB.out | apply below_alloc | apply pw_below_drewN | apply below_drew1) | exact HB.out | exact Below.refl _ _))) A46.out).mono ?_); (case side1 => repeat (first | exact (Kd.R_reads' HO_7.out).2.2 | (with_reducible refine Kd.C_alloc ?_ _) | (with_reducible refine Kd.C_drewN ?_ _) | (with_reducible refine Kd.C_drew ?_))); (case side2 => exact (Kd.R_reads' HO_7.out).2.1); rintro e w48 ⟨v347, rfl, ho0, hb⟩; have n0_ := Aside0.mk (Kd.R_elder' (by (with_reducible repeat (first | apply Kd.R_alloc | apply Kd.R_drewN | apply Kd.R_drew)); exact HO_7.out) (Kd.R_base ho0) hb); have n1_ := Aside0.mk (Kd.R_elder' (by (with_reducible repeat (first | apply Kd.R_alloc | apply Kd.R_drewN | apply Kd.R_drew)); exact HO_40.out) (Kd.R_base ho0) hb); have n2_ := Aside0.mk (Kd.R_lower (Kd.R_new' (Kd.R_new' ho0 (Kd.R_lt (by (with_reducible repeat (first | apply Kd.R_alloc | apply Kd.R_drewN | apply Kd.R_drew)); exact HO_7.out))) (Kd.R_lt (by (with_reducible repeat (first | apply Kd.R_alloc | apply Kd.R_drewN | apply Kd.R_drew)); exact HO_40.out))) (below_size (by repeat (first | (with_reducible first | exact HB.out | apply below_alloc | apply pw_below_drewN | apply below_drew1) | exact HB.out)))); have n3_ := Aside0.mk (below_step (by repeat (first | (with_reducible first | exact HB.out | apply below_alloc | apply pw_below_drewN | apply below_drew1) | exact HB.out)) hb); clear HO_7; clear HO_40; clear HB; have HO_7 := n0_; have HO_40 := n1_; have HO348 := n2_; have HB := n3_; clear n0_ n1_ n2_ n3_; (try clear hb); (try clear hb2); (try clear hk); (try clear hi); (try clear ho0))); go_upto_region 20 with (first | (go_at_call 40; (with_reducible refine (four_Join.calls _ _ t336 t344 t345 t346 _ ?side1 ?side2 (GW.keep HG.out (by repeat (first | (with_reducible first | exact HB.out | apply below_alloc | apply pw_below_drewN | apply below_drew1) | exact HB.out | exact Below.refl _ _))) A46.out).mono ?_); (case side1 => repeat (first | exact (Kd.R_reads' HO_7.out).2.2 | (with_reducible refine Kd.C_alloc ?_ _) | (with_reducible refine Kd.C_drewN ?_ _) | (with_reducible refine Kd.C_drew ?_))); (case side2 => exact (Kd.R_reads' HO_7.out).2.1); rintro e w48 ⟨v347, rfl, ho0, hb⟩; have n0_ := Aside0.mk (Kd.R_elder' (by (with_reducible repeat (first | apply Kd.R_alloc | apply Kd.R_drewN | apply Kd.R_drew)); exact HO_7.out) (Kd.R_base ho0) hb); have n1_ := Aside0.mk (Kd.R_elder' (by (with_reducible repeat (first | apply Kd.R_alloc | apply Kd.R_drewN | apply Kd.R_drew)); exact HO_40.out) (Kd.R_base ho0) hb); have n2_ := Aside0.mk (Kd.R_lower (Kd.R_new' (Kd.R_new' ho0 (Kd.R_lt (by (with_reducible repeat (first | apply Kd.R_alloc | apply Kd.R_drewN | apply Kd.R_drew)); exact HO_7.out))) (Kd.R_lt (by (with_reducible repeat (first | apply Kd.R_alloc | apply Kd.R_drewN | apply Kd.R_drew)); exact HO_40.out))) (below_size (by repeat (first | (with_reducible first | exact HB.out | apply below_alloc | apply pw_below_drewN | apply below_drew1) | exact HB.out)))); have n3_ := Aside0.mk (below_step (by repeat (first | (with_reducible first | exact HB.out | apply below_alloc | apply pw_below_drewN | apply below_drew1) | exact HB.out)) hb); clear HO_7; clear HO_40; clear HB; have HO_7 := n0_; have HO_40 := n1_; have HO348 := n2_; have HB := n3_; clear n0_ n1_ n2_ n3_; (try clear hb); (try clear hb2); (try clear hk); (try clear hi); (try clear ho0))))
              (try simp only [Act.put, List.setIfInBounds_toArray, List.set_cons_zero, List.set_cons_succ])
              go_cut [123] (fun v123 wc => ∃ (kq : Nat) (x123_46 : Bool), v123 = .bool x123_46 ∧ Aside0 (posternlaw20_FourApart.j2 kq l2 t336 t344 x123_46 = some r) ∧ Aside0 (kq ≤ k1) ∧ Aside0 (Kd.R k50 50 wc w.heap.size (fun k_ => some k_ ≠ (v347 : Value).ownBlock) (.slice Ao14 t336.length co14) t336) ∧ Aside0 (Kd.R k50 50 wc w.heap.size (fun k_ => some k_ ≠ ((.slice Ao14 t336.length co14) : Value).ownBlock) v347 t344) ∧ Aside0 (Below w.heap.size w wc))
              case first =>
                have H := HC47.out
                clear HC47
                by_cases c49 : t346 = 0
                · rw [if_pos c49] at H
                  have c49b0 : (t346 == 0) = true := beq_iff_eq.mpr c49
                  have c49b1 : (t346 != 0) = false := bne_eq_false_iff_eq.mpr c49
                  clear c49
                  (first | rw [c49b0] | (simp only [i64_w, i32_w]; rw [c49b0]) | skip)
                  have H' := Aside0.mk H
                  clear H
                  obtain ⟨Ao50, co50, eo50⟩ := Kd.R_slice HO348.out
                  subst eo50
                  go_wp2
                  repeat (go_quiet (fail); try go_wp2)
                  go_meet
                  case rel => exact ⟨_, (((t344.length : Int) != (t336.length : Int))), (by first | rfl | (simp; done) | (simp [*]; done)), H', ⟨by have := HK1.out; first | omega | exact Nat.le_refl _⟩, ⟨by (with_reducible repeat (first | apply Kd.R_alloc | apply Kd.R_drewN | apply Kd.R_drew)); exact Kd.R_mono HO_7.out (fun _ hk => hk.2)⟩, ⟨by (with_reducible repeat (first | apply Kd.R_alloc | apply Kd.R_drewN | apply Kd.R_drew)); exact Kd.R_mono HO348.out (fun _ hk => hk.1.2)⟩, ⟨by repeat (first | (with_reducible first | exact HB.out | apply below_alloc | apply pw_below_drewN | apply below_drew1) | exact HB.out)⟩⟩
                · rw [if_neg c49] at H
                  have c49b0 : (t346 == 0) = false := beq_eq_false_iff_ne.mpr c49
                  have c49b1 : (t346 != 0) = true := bne_iff_ne.mpr c49
                  (first | rw [c49b0] | (simp only [i64_w, i32_w]; rw [c49b0]) | skip)
                  have H' := Aside0.mk H
                  clear H
                  go_wp2
                  repeat (go_quiet (fail); try go_wp2)
                  go_meet
                  case rel => exact ⟨_, (true), (by first | rfl | (simp; done) | (simp [*]; done)), H', ⟨by have := HK1.out; first | omega | exact Nat.le_refl _⟩, ⟨by (with_reducible repeat (first | apply Kd.R_alloc | apply Kd.R_drewN | apply Kd.R_drew)); exact Kd.R_mono HO_7.out (fun _ hk => hk.2)⟩, ⟨by (with_reducible repeat (first | apply Kd.R_alloc | apply Kd.R_drewN | apply Kd.R_drew)); exact Kd.R_mono HO348.out (fun _ hk => hk.1.2)⟩, ⟨by repeat (first | (with_reducible first | exact HB.out | apply below_alloc | apply pw_below_drewN | apply below_drew1) | exact HB.out)⟩⟩
              case rest =>
                clear HC47
                try clear c1
                try clear c2
                try clear p2
                try clear c3
                try clear p3
                try clear q3
                try clear hx3
                try clear c4
                try clear c5
                try clear c6
                try clear c6b0
                try clear p6
                try clear c10
                try clear c15
                try clear c15b0
                try clear c16
                try clear c16b0
                try clear c17
                try clear c17b0
                try clear c21
                try clear c21b0
                try clear c23
                try clear c23b0
                try clear c25
                try clear c25b0
                try clear c25b1
                try clear c30
                try clear c32
                try clear c32b0
                try clear c32b1
                try clear p33
                try clear q33
                try clear hx33
                try clear c34
                try clear c34b0
                try clear p34
                try clear q34
                try clear hx34
                try clear c36
                try clear c36b0
                try clear c37
                try clear c37b0
                try clear c38
                try clear c38b0
                try clear c38b1
                try clear c39
                try clear c39b0
                try clear c39b1
                try clear c40
                try clear c40b0
                try clear c40b1
                try clear c45
                try clear c45b0
                try clear c45b1
                try clear c49
                try clear c49b0
                try clear c49b1
                try clear hcz20_0
                try clear hcz20_1
                try clear hcz22_0
                try clear hcz22_1
                try clear hcz24_0
                try clear hcz24_1
                try clear hcz27_0
                try clear hcz27_1
                try clear hcz29_0
                try clear hcz29_1
                try clear hcz41_0
                try clear hcz41_1
                try clear hcz42_0
                try clear hcz42_1
                try clear hcz43_0
                try clear hcz43_1
                try clear hcz44_0
                try clear hcz44_1
                try clear hfz20_0
                try clear hfz20_1
                try clear hfz22_0
                try clear hfz22_1
                try clear hfz24_0
                try clear hfz24_1
                try clear hfz27_0
                try clear hfz27_1
                try clear hfz29_0
                try clear hfz29_1
                try clear hfz41_0
                try clear hfz41_1
                try clear hfz42_0
                try clear hfz42_1
                try clear hfz43_0
                try clear hfz43_1
                try clear hfz44_0
                try clear hfz44_1
                try clear hx339_0
                try clear hx339_1
                try clear hx342_0
                try clear hx342_1
                try clear hx343_0
                try clear hx343_1
                try clear p2
                try clear p3
                try clear p339
                try clear p342
                try clear p343
                try clear q3
                try clear q339
                try clear q342
                try clear q343
                obtain ⟨kq, x123_46, rfl, HA, HJ46, HO_7, HO_12, HB⟩ := hcut
                cases kq with
                | zero => exact absurd HA.out (by simp [posternlaw20_FourApart.j2])
                | succ kj46 =>
                  have H := HA.out
                  clear HA
                  simp only [posternlaw20_FourApart.j2] at H
                  by_cases c51 : x123_46 = true
                  · subst c51
                    have H1 : (some false) = some r := by rw [if_pos rfl] at H; exact H
                    clear H
                    have H := H1
                    clear H1
                    obtain rfl := Option.some.inj H
                    go_wp2
                    repeat (go_quiet (fail); try go_wp2)
                    go_ret
                    exact ⟨by first | rfl | (simp [errW_none, errW_some] <;> rfl) | (simp [*, errW_none, errW_some] <;> rfl), by repeat (first | (with_reducible first | exact HB.out | apply below_alloc | apply pw_below_drewN | apply below_drew1) | exact HB.out)⟩
                  · replace c51 := Bool.eq_false_iff.mpr c51
                    subst c51
                    have H1 : (posternlaw20_FourApart.l1 kj46 l2 t336 t344 (t344.length : Int) 0) = some r := by rw [if_neg (show ¬ (false = true) by decide)] at H; exact H
                    clear H
                    have H := H1
                    clear H1
                    have H' := Aside0.mk H
                    clear H
                    obtain ⟨Ao52, co52, eo52⟩ := Kd.R_slice HO_12.out
                    subst eo52
                    go_wp2
                    repeat (go_quiet (fail); try go_wp2)
                    go_loopg [126] kj46 (fun kq v126 w' => ∃ (x126_3 : Int), v126 = .int .i64 x126_3 ∧ Aside0 (posternlaw20_FourApart.l1 kq l2 t336 t344 (t344.length : Int) x126_3 = some r) ∧ Aside0 (kq ≤ kj46) ∧ Aside0 (Kd.R k50 50 w' w.heap.size (fun k_ => some k_ ≠ ((.slice Ao52 t344.length co52) : Value).ownBlock) (.slice Ao14 t336.length co14) t336) ∧ Aside0 (Kd.R k50 50 w' w.heap.size (fun k_ => some k_ ≠ ((.slice Ao14 t336.length co14) : Value).ownBlock) (.slice Ao52 t344.length co52) t344) ∧ Aside0 (Below w.heap.size w w'))
                    case atStart => exact ⟨(0), (by first | rfl | (simp; done) | (simp [*]; done)), H', ⟨Nat.le_refl _⟩, ⟨by (with_reducible repeat (first | apply Kd.R_alloc | apply Kd.R_drewN | apply Kd.R_drew)); exact HO_7.out⟩, ⟨by (with_reducible repeat (first | apply Kd.R_alloc | apply Kd.R_drewN | apply Kd.R_drew)); exact HO_12.out⟩, ⟨by repeat (first | (with_reducible first | exact HB.out | apply below_alloc | apply pw_below_drewN | apply below_drew1) | exact HB.out)⟩⟩
                    case round =>
                      clear H'
                      try clear c1
                      try clear c2
                      try clear p2
                      try clear c3
                      try clear p3
                      try clear q3
                      try clear hx3
                      try clear c4
                      try clear c5
                      try clear c6
                      try clear c6b0
                      try clear p6
                      try clear c10
                      try clear c15
                      try clear c15b0
                      try clear c16
                      try clear c16b0
                      try clear c17
                      try clear c17b0
                      try clear c21
                      try clear c21b0
                      try clear c23
                      try clear c23b0
                      try clear c25
                      try clear c25b0
                      try clear c25b1
                      try clear c30
                      try clear c32
                      try clear c32b0
                      try clear c32b1
                      try clear p33
                      try clear q33
                      try clear hx33
                      try clear c34
                      try clear c34b0
                      try clear p34
                      try clear q34
                      try clear hx34
                      try clear c36
                      try clear c36b0
                      try clear c37
                      try clear c37b0
                      try clear c38
                      try clear c38b0
                      try clear c38b1
                      try clear c39
                      try clear c39b0
                      try clear c39b1
                      try clear c40
                      try clear c40b0
                      try clear c40b1
                      try clear c45
                      try clear c45b0
                      try clear c45b1
                      try clear c49
                      try clear c49b0
                      try clear c49b1
                      try clear c51
                      try clear hcz20_0
                      try clear hcz20_1
                      try clear hcz22_0
                      try clear hcz22_1
                      try clear hcz24_0
                      try clear hcz24_1
                      try clear hcz27_0
                      try clear hcz27_1
                      try clear hcz29_0
                      try clear hcz29_1
                      try clear hcz41_0
                      try clear hcz41_1
                      try clear hcz42_0
                      try clear hcz42_1
                      try clear hcz43_0
                      try clear hcz43_1
                      try clear hcz44_0
                      try clear hcz44_1
                      try clear hfz20_0
                      try clear hfz20_1
                      try clear hfz22_0
                      try clear hfz22_1
                      try clear hfz24_0
                      try clear hfz24_1
                      try clear hfz27_0
                      try clear hfz27_1
                      try clear hfz29_0
                      try clear hfz29_1
                      try clear hfz41_0
                      try clear hfz41_1
                      try clear hfz42_0
                      try clear hfz42_1
                      try clear hfz43_0
                      try clear hfz43_1
                      try clear hfz44_0
                      try clear hfz44_1
                      try clear hx339_0
                      try clear hx339_1
                      try clear hx342_0
                      try clear hx342_1
                      try clear hx343_0
                      try clear hx343_1
                      try clear p2
                      try clear p3
                      try clear p33
                      try clear p339
                      try clear p34
                      try clear p342
                      try clear p343
                      try clear p6
                      try clear q3
                      try clear q33
                      try clear q339
                      try clear q34
                      try clear q342
                      try clear q343
                      obtain ⟨x126_3, rfl, HA, HK3, HO_7, HO_12, HB⟩ := hrel
                      cases gk with
                      | zero => exact absurd HA.out (by simp [posternlaw20_FourApart.l1])
                      | succ k3 =>
                        have H := HA.out
                        clear HA
                        simp only [posternlaw20_FourApart.l1] at H
                        by_cases c53 : x126_3 < (t344.length : Int)
                        · rw [if_pos c53] at H
                          have c53b0 : decide (x126_3 < (t344.length : Int)) = true := decide_eq_true c53
                          clear c53
                          by_cases c54 : 0 ≤ x126_3
                          · rw [if_pos c54] at H
                            have c54b0 : decide (0 ≤ x126_3) = true := decide_eq_true c54
                            clear c54
                            by_cases c55 : x126_3 < (t344.length : Int)
                            · rw [if_pos c55] at H
                              have c55b0 : decide (x126_3 < (t344.length : Int)) = true := decide_eq_true c55
                              clear c55
                              by_cases c56 : x126_3 < (t336.length : Int)
                              · rw [if_pos c56] at H
                                have c56b0 : decide (x126_3 < (t336.length : Int)) = true := decide_eq_true c56
                                clear c56
                                by_cases c57 : (!(((rd_T50 t344 x126_3).f0) == ((rd_T50 t336 x126_3).f0)) || (!(((rd_T50 t344 x126_3).f1) == ((rd_T50 t336 x126_3).f1)))) = true
                                · rw [if_pos c57] at H
                                  have c57b0 : (!(((rd_T50 t344 x126_3).f0) == ((rd_T50 t336 x126_3).f0)) || (!(((rd_T50 t344 x126_3).f1) == ((rd_T50 t336 x126_3).f1)))) = true := c57
                                  clear c57
                                  obtain rfl := Option.some.inj H
                                  have p349 : 0 ≤ (x126_3 : Int) := of_decide_eq_true (by first | (with_reducible assumption) | assumption)
                                  have q349 : x126_3 < (t344.length : Int) := of_decide_eq_true (by first | (with_reducible assumption) | assumption)
                                  obtain ⟨ad349, e349, hx349_0, hx349_1⟩ := at_T50 (Kd.R_reads' HO_12.out).2.2 x126_3 p349 q349
                                  cases e349
                                  replace p349 := eq_true p349
                                  replace q349 := eq_true q349
                                  have p350 : 0 ≤ (x126_3 : Int) := of_decide_eq_true (by first | (with_reducible assumption) | assumption)
                                  have q350 : x126_3 < (t336.length : Int) := of_decide_eq_true (by first | (with_reducible assumption) | assumption)
                                  obtain ⟨ad350, e350, hx350_0, hx350_1⟩ := at_T50 (Kd.R_reads' HO_7.out).2.2 x126_3 p350 q350
                                  cases e350
                                  replace p350 := eq_true p350
                                  replace q350 := eq_true q350
                                  go_wp2
                                  repeat (go_quiet (fail); try go_wp2)
                                  go_ret
                                  exact ⟨by first | rfl | (simp [errW_none, errW_some] <;> rfl) | (simp [*, errW_none, errW_some] <;> rfl), by repeat (first | (with_reducible first | exact HB.out | apply below_alloc | apply pw_below_drewN | apply below_drew1) | exact HB.out)⟩
                                · rw [if_neg c57] at H
                                  have c57b0 : (!(((rd_T50 t344 x126_3).f0) == ((rd_T50 t336 x126_3).f0)) || (!(((rd_T50 t344 x126_3).f1) == ((rd_T50 t336 x126_3).f1)))) = false := by simpa using c57
                                  clear c57
                                  have H' := Aside0.mk H
                                  clear H
                                  have p349 : 0 ≤ (x126_3 : Int) := of_decide_eq_true (by first | (with_reducible assumption) | assumption)
                                  have q349 : x126_3 < (t344.length : Int) := of_decide_eq_true (by first | (with_reducible assumption) | assumption)
                                  obtain ⟨ad349, e349, hx349_0, hx349_1⟩ := at_T50 (Kd.R_reads' HO_12.out).2.2 x126_3 p349 q349
                                  cases e349
                                  replace p349 := eq_true p349
                                  replace q349 := eq_true q349
                                  have p350 : 0 ≤ (x126_3 : Int) := of_decide_eq_true (by first | (with_reducible assumption) | assumption)
                                  have q350 : x126_3 < (t336.length : Int) := of_decide_eq_true (by first | (with_reducible assumption) | assumption)
                                  obtain ⟨ad350, e350, hx350_0, hx350_1⟩ := at_T50 (Kd.R_reads' HO_7.out).2.2 x126_3 p350 q350
                                  cases e350
                                  replace p350 := eq_true p350
                                  replace q350 := eq_true q350
                                  go_wp2
                                  repeat (go_quiet (fail); try go_wp2)
                                  go_roundg k3
                                  case measure => have := HK1.out; have := HJ46.out; have := HK3.out; omega
                                  case rel => exact ⟨(wrap64 (x126_3 + 1)), (by first | rfl | (simp; done) | (simp [*]; done)), H', ⟨by have := HK1.out; have := HJ46.out; have := HK3.out; omega⟩, ⟨by (with_reducible repeat (first | apply Kd.R_alloc | apply Kd.R_drewN | apply Kd.R_drew)); exact HO_7.out⟩, ⟨by (with_reducible repeat (first | apply Kd.R_alloc | apply Kd.R_drewN | apply Kd.R_drew)); exact HO_12.out⟩, ⟨by repeat (first | (with_reducible first | exact HB.out | apply below_alloc | apply pw_below_drewN | apply below_drew1) | exact HB.out)⟩⟩
                              · rw [if_neg c56] at H
                                exact absurd H (by simp)
                            · rw [if_neg c55] at H
                              exact absurd H (by simp)
                          · rw [if_neg c54] at H
                            exact absurd H (by simp)
                        · rw [if_neg c53] at H
                          have c53b0 : decide (x126_3 < (t344.length : Int)) = false := decide_eq_false c53
                          clear c53
                          replace H := Option.bind_eq_some_iff.mp H
                          obtain ⟨⟨t351, t352, t353⟩, A580, H⟩ := H
                          replace H : (if t353 = 0 then (posternlaw20_FourApart.l2 k3 t351 l2 (l2.length : Int) 0) else (some ((t351.length : Int) == 0))) = some r := H
                          have A58 := Aside0.mk A580
                          clear A580
                          by_cases c59 : t353 = 0
                          · rw [if_pos c59] at H
                            have c59b0 : (t353 == 0) = true := beq_iff_eq.mpr c59
                            have c59b1 : (t353 != 0) = false := bne_eq_false_iff_eq.mpr c59
                            clear c59
                            have H' := Aside0.mk H
                            clear H
                            go_wp2_with (first | (go_at_call 40; (with_reducible refine (four_Join.calls _ _ l2 t351 t352 t353 _ ?side1 ?side2 (GW.keep HG.out (by repeat (first | (with_reducible first | exact HB.out | apply below_alloc | apply pw_below_drewN | apply below_drew1) | exact HB.out | exact Below.refl _ _))) A58.out).mono ?_); (case side1 => repeat (first | exact (Kd.C_below HR2.out HB.out) | (with_reducible refine Kd.C_alloc ?_ _) | (with_reducible refine Kd.C_drewN ?_ _) | (with_reducible refine Kd.C_drew ?_))); (case side2 => exact HC2.out); rintro e w60 ⟨v354, rfl, ho0, hb⟩; have n0_ := Aside0.mk (Kd.R_elder' (by (with_reducible repeat (first | apply Kd.R_alloc | apply Kd.R_drewN | apply Kd.R_drew)); exact HO_7.out) (Kd.R_base ho0) hb); have n1_ := Aside0.mk (Kd.R_elder' (by (with_reducible repeat (first | apply Kd.R_alloc | apply Kd.R_drewN | apply Kd.R_drew)); exact HO_12.out) (Kd.R_base ho0) hb); have n2_ := Aside0.mk (Kd.R_lower (Kd.R_new' (Kd.R_new' ho0 (Kd.R_lt (by (with_reducible repeat (first | apply Kd.R_alloc | apply Kd.R_drewN | apply Kd.R_drew)); exact HO_7.out))) (Kd.R_lt (by (with_reducible repeat (first | apply Kd.R_alloc | apply Kd.R_drewN | apply Kd.R_drew)); exact HO_12.out))) (below_size (by repeat (first | (with_reducible first | exact HB.out | apply below_alloc | apply pw_below_drewN | apply below_drew1) | exact HB.out)))); have n3_ := Aside0.mk (below_step (by repeat (first | (with_reducible first | exact HB.out | apply below_alloc | apply pw_below_drewN | apply below_drew1) | exact HB.out)) hb); clear HO_7; clear HO_12; clear HB; have HO_7 := n0_; have HO_12 := n1_; have HO355 := n2_; have HB := n3_; clear n0_ n1_ n2_ n3_; (try clear hb); (try clear hb2); (try clear hk); (try clear hi); (try clear ho0)))
                            repeat (go_quiet (first | (go_at_call 40; (with_reducible refine (four_Join.calls _ _ l2 t351 t352 t353 _ ?side1 ?side2 (GW.keep HG.out (by repeat (first | (with_reducible first | exact HB.out | apply below_alloc | apply pw_below_drewN | apply below_drew1) | exact HB.out | exact Below.refl _ _))) A58.out).mono ?_); (case side1 => repeat (first | exact (Kd.C_below HR2.out HB.out) | (with_reducible refine Kd.C_alloc ?_ _) | (with_reducible refine Kd.C_drewN ?_ _) | (with_reducible refine Kd.C_drew ?_))); (case side2 => exact HC2.out); rintro e w60 ⟨v354, rfl, ho0, hb⟩; have n0_ := Aside0.mk (Kd.R_elder' (by (with_reducible repeat (first | apply Kd.R_alloc | apply Kd.R_drewN | apply Kd.R_drew)); exact HO_7.out) (Kd.R_base ho0) hb); have n1_ := Aside0.mk (Kd.R_elder' (by (with_reducible repeat (first | apply Kd.R_alloc | apply Kd.R_drewN | apply Kd.R_drew)); exact HO_12.out) (Kd.R_base ho0) hb); have n2_ := Aside0.mk (Kd.R_lower (Kd.R_new' (Kd.R_new' ho0 (Kd.R_lt (by (with_reducible repeat (first | apply Kd.R_alloc | apply Kd.R_drewN | apply Kd.R_drew)); exact HO_7.out))) (Kd.R_lt (by (with_reducible repeat (first | apply Kd.R_alloc | apply Kd.R_drewN | apply Kd.R_drew)); exact HO_12.out))) (below_size (by repeat (first | (with_reducible first | exact HB.out | apply below_alloc | apply pw_below_drewN | apply below_drew1) | exact HB.out)))); have n3_ := Aside0.mk (below_step (by repeat (first | (with_reducible first | exact HB.out | apply below_alloc | apply pw_below_drewN | apply below_drew1) | exact HB.out)) hb); clear HO_7; clear HO_12; clear HB; have HO_7 := n0_; have HO_12 := n1_; have HO355 := n2_; have HB := n3_; clear n0_ n1_ n2_ n3_; (try clear hb); (try clear hb2); (try clear hk); (try clear hi); (try clear ho0))); try go_wp2_with (first | (go_at_call 40; (with_reducible refine (four_Join.calls _ _ l2 t351 t352 t353 _ ?side1 ?side2 (GW.keep HG.out (by repeat (first | (with_reducible first | exact HB.out | apply below_alloc | apply pw_below_drewN | apply below_drew1) | exact HB.out | exact Below.refl _ _))) A58.out).mono ?_); (case side1 => repeat (first | exact (Kd.C_below HR2.out HB.out) | (with_reducible refine Kd.C_alloc ?_ _) | (with_reducible refine Kd.C_drewN ?_ _) | (with_reducible refine Kd.C_drew ?_))); (case side2 => exact HC2.out); rintro e w60 ⟨v354, rfl, ho0, hb⟩; have n0_ := Aside0.mk (Kd.R_elder' (by (with_reducible repeat (first | apply Kd.R_alloc | apply Kd.R_drewN | apply Kd.R_drew)); exact HO_7.out) (Kd.R_base ho0) hb); have n1_ := Aside0.mk (Kd.R_elder' (by (with_reducible repeat (first | apply Kd.R_alloc | apply Kd.R_drewN | apply Kd.R_drew)); exact HO_12.out) (Kd.R_base ho0) hb); have n2_ := Aside0.mk (Kd.R_lower (Kd.R_new' (Kd.R_new' ho0 (Kd.R_lt (by (with_reducible repeat (first | apply Kd.R_alloc | apply Kd.R_drewN | apply Kd.R_drew)); exact HO_7.out))) (Kd.R_lt (by (with_reducible repeat (first | apply Kd.R_alloc | apply Kd.R_drewN | apply Kd.R_drew)); exact HO_12.out))) (below_size (by repeat (first | (with_reducible first | exact HB.out | apply below_alloc | apply pw_below_drewN | apply below_drew1) | exact HB.out)))); have n3_ := Aside0.mk (below_step (by repeat (first | (with_reducible first | exact HB.out | apply below_alloc | apply pw_below_drewN | apply below_drew1) | exact HB.out)) hb); clear HO_7; clear HO_12; clear HB; have HO_7 := n0_; have HO_12 := n1_; have HO355 := n2_; have HB := n3_; clear n0_ n1_ n2_ n3_; (try clear hb); (try clear hb2); (try clear hk); (try clear hi); (try clear ho0))))
                            go_loopg [152] k3 (fun kq v152 w' => ∃ (x152_4 : Int), v152 = .int .i64 x152_4 ∧ Aside0 (posternlaw20_FourApart.l2 kq t351 l2 (l2.length : Int) x152_4 = some r) ∧ Aside0 (kq ≤ k3) ∧ Aside0 (Kd.R k50 50 w' w.heap.size (fun _ => True) v354 t351) ∧ Aside0 (Below w.heap.size w w'))
                            case atStart => exact ⟨(0), (by first | rfl | (simp; done) | (simp [*]; done)), H', ⟨Nat.le_refl _⟩, ⟨by (with_reducible repeat (first | apply Kd.R_alloc | apply Kd.R_drewN | apply Kd.R_drew)); exact Kd.R_mono HO355.out (fun _ hk => trivial)⟩, ⟨by repeat (first | (with_reducible first | exact HB.out | apply below_alloc | apply pw_below_drewN | apply below_drew1) | exact HB.out)⟩⟩
                            case round =>
                              clear H'
                              try clear c1
                              try clear c2
                              try clear p2
                              try clear c3
                              try clear p3
                              try clear q3
                              try clear hx3
                              try clear c4
                              try clear c5
                              try clear c6
                              try clear c6b0
                              try clear p6
                              try clear c10
                              try clear c15
                              try clear c15b0
                              try clear c16
                              try clear c16b0
                              try clear c17
                              try clear c17b0
                              try clear c21
                              try clear c21b0
                              try clear c23
                              try clear c23b0
                              try clear c25
                              try clear c25b0
                              try clear c25b1
                              try clear c30
                              try clear c32
                              try clear c32b0
                              try clear c32b1
                              try clear p33
                              try clear q33
                              try clear hx33
                              try clear c34
                              try clear c34b0
                              try clear p34
                              try clear q34
                              try clear hx34
                              try clear p35
                              try clear q35
                              try clear hx35
                              try clear c36
                              try clear c36b0
                              try clear c37
                              try clear c37b0
                              try clear c38
                              try clear c38b0
                              try clear c38b1
                              try clear c39
                              try clear c39b0
                              try clear c39b1
                              try clear c40
                              try clear c40b0
                              try clear c40b1
                              try clear c45
                              try clear c45b0
                              try clear c45b1
                              try clear c49
                              try clear c49b0
                              try clear c49b1
                              try clear c51
                              try clear c53
                              try clear c53b0
                              try clear c54
                              try clear c54b0
                              try clear c55
                              try clear c55b0
                              try clear c56
                              try clear c56b0
                              try clear c57
                              try clear c57b0
                              try clear c59
                              try clear c59b0
                              try clear c59b1
                              try clear hcz20_0
                              try clear hcz20_1
                              try clear hcz22_0
                              try clear hcz22_1
                              try clear hcz24_0
                              try clear hcz24_1
                              try clear hcz27_0
                              try clear hcz27_1
                              try clear hcz29_0
                              try clear hcz29_1
                              try clear hcz41_0
                              try clear hcz41_1
                              try clear hcz42_0
                              try clear hcz42_1
                              try clear hcz43_0
                              try clear hcz43_1
                              try clear hcz44_0
                              try clear hcz44_1
                              try clear hfz20_0
                              try clear hfz20_1
                              try clear hfz22_0
                              try clear hfz22_1
                              try clear hfz24_0
                              try clear hfz24_1
                              try clear hfz27_0
                              try clear hfz27_1
                              try clear hfz29_0
                              try clear hfz29_1
                              try clear hfz41_0
                              try clear hfz41_1
                              try clear hfz42_0
                              try clear hfz42_1
                              try clear hfz43_0
                              try clear hfz43_1
                              try clear hfz44_0
                              try clear hfz44_1
                              try clear hx339_0
                              try clear hx339_1
                              try clear hx342_0
                              try clear hx342_1
                              try clear hx343_0
                              try clear hx343_1
                              try clear hx349_0
                              try clear hx349_1
                              try clear hx350_0
                              try clear hx350_1
                              try clear p2
                              try clear p3
                              try clear p33
                              try clear p339
                              try clear p34
                              try clear p342
                              try clear p343
                              try clear p349
                              try clear p350
                              try clear p6
                              try clear q3
                              try clear q33
                              try clear q339
                              try clear q34
                              try clear q342
                              try clear q343
                              try clear q349
                              try clear q350
                              obtain ⟨x152_4, rfl, HA, HK4, HO_16, HB⟩ := hrel
                              cases gk with
                              | zero => exact absurd HA.out (by simp [posternlaw20_FourApart.l2])
                              | succ k4 =>
                                have H := HA.out
                                clear HA
                                simp only [posternlaw20_FourApart.l2] at H
                                by_cases c61 : x152_4 < (l2.length : Int)
                                · rw [if_pos c61] at H
                                  have c61b0 : decide (x152_4 < (l2.length : Int)) = true := decide_eq_true c61
                                  clear c61
                                  by_cases c62 : 0 ≤ x152_4
                                  · rw [if_pos c62] at H
                                    have c62b0 : decide (0 ≤ x152_4) = true := decide_eq_true c62
                                    clear c62
                                    by_cases c63 : x152_4 < (l2.length : Int)
                                    · rw [if_pos c63] at H
                                      have c63b0 : decide (x152_4 < (l2.length : Int)) = true := decide_eq_true c63
                                      clear c63
                                      obtain ⟨ji64, hji64⟩ : ∃ j_ : Int, (IntKind.u64.wrap (wrap64 (32 - ((rd_T50 l2 x152_4).f1)))) = j_ := ⟨_, rfl⟩
                                      replace H : (if 0 ≤ (ji64) then ((some (([(rd_T50 l2 x152_4).f0, (((rd_T50 l2 x152_4).f0) + ((IntKind.u64.wrap ((shl .u64 1 (ji64)) - 1)) % 4294967296)) % 4294967296] : List Int) : List Int)).bind fun y358 => (posternlaw20_FourApart.l3 k4 t351 l2 (l2.length : Int) x152_4 y358 (y358.length : Int) 0)) else (none)) = some r := by first | (rw [hji64] at H; exact H) | (simp only [hji64] at H ⊢; exact H)
                                      by_cases c65 : 0 ≤ (ji64)
                                      · rw [if_pos c65] at H
                                        have c65b0 := eq_true c65
                                        have c65b1 : decide (0 ≤ (ji64)) = true := decide_eq_true c65
                                        clear c65
                                        obtain ⟨ji66, hji66⟩ : ∃ j_ : Int, (shl .u64 1 (ji64)) = j_ := ⟨_, rfl⟩
                                        replace H : ((some (([(rd_T50 l2 x152_4).f0, (((rd_T50 l2 x152_4).f0) + ((IntKind.u64.wrap ((ji66) - 1)) % 4294967296)) % 4294967296] : List Int) : List Int)).bind fun y358 => (posternlaw20_FourApart.l3 k4 t351 l2 (l2.length : Int) x152_4 y358 (y358.length : Int) 0)) = some r := by first | (rw [hji66] at H; exact H) | (simp only [hji66] at H ⊢; exact H)
                                        have hji66_ : (IntKind.u64.wrap (1 * 2 ^ min (ji64).toNat 64)) = ji66 := hji66
                                        have hji66z : (ji64) ≤ 64 → (IntKind.u64.wrap (1 * 2 ^ (ji64).toNat)) = ji66 := shl_small hji66
                                        have hji66u : (IntKind.u64.wrap (2 ^ min (ji64).toNat 64)) = ji66 := by have h_ := hji66_; rw [Int.one_mul] at h_; exact h_
                                        have hji66v : (ji64) ≤ 64 → (IntKind.u64.wrap (2 ^ (ji64).toNat)) = ji66 := fun hle_ => by have h_ := hji66z hle_; rw [Int.one_mul] at h_; exact h_
                                        obtain ⟨y358, hy358⟩ : ∃ y_ : List Int, y_ = (([(rd_T50 l2 x152_4).f0, (((rd_T50 l2 x152_4).f0) + ((IntKind.u64.wrap ((ji66) - 1)) % 4294967296)) % 4294967296] : List Int)) := ⟨_, rfl⟩
                                        replace H : (posternlaw20_FourApart.l3 k4 t351 l2 (l2.length : Int) x152_4 y358 (y358.length : Int) 0) = some r := by first | (rw [hy358]; with_reducible exact H) | (have H2_ := (Option.bind_some _ _).symm.trans H; rw [hy358]; with_reducible exact H2_) | (have H2_ := (Option.bind_some _ _).symm.trans H; with_reducible exact H2_) | with_reducible exact H | (rw [hy358]; exact H) | exact H
                                        have Ny358 := Aside0.mk hy358
                                        clear hy358
                                        have H' := Aside0.mk H
                                        clear H
                                        have p356 : 0 ≤ (x152_4 : Int) := of_decide_eq_true (by first | (with_reducible assumption) | assumption)
                                        have q356 : x152_4 < (l2.length : Int) := of_decide_eq_true (by first | (with_reducible assumption) | assumption)
                                        obtain ⟨ad356, e356, hx356_0, hx356_1⟩ := at_T50 HR2.out x152_4 p356 q356
                                        cases e356
                                        replace hx356_0 := (HB.out.cell (World.block_lt_of_cell? w _ hx356_0)).trans hx356_0
                                        replace hx356_1 := (HB.out.cell (World.block_lt_of_cell? w _ hx356_1)).trans hx356_1
                                        replace p356 := eq_true p356
                                        replace q356 := eq_true q356
                                        go_wp2_with (first | ((with_reducible refine gate_dst (N := 19) rfl ?_); (try (refine gate_guard (by rfl) ?_; dsimp only)); refine box_event ?hg (N := 19) ?hd (cs := #[.int .u32 0, .int .i64 0]) (t := 50) ?hr ?_; (case hd => rfl); (case hg => rfl); (case hr => first | (go_simp; done) | (go_simp; rfl)); intro gb357 hg w67 hbox hb; have n0_ := Aside0.mk (Kd.R_below (Kd.R_elderB (by (with_reducible repeat (first | apply Kd.R_alloc | apply Kd.R_drewN | apply Kd.R_drew)); exact HO_16.out) gb357 (Nat.le_of_eq hg.symm)) hb); have n1_ := Aside0.mk (below_step (by repeat (first | (with_reducible first | exact HB.out | apply below_alloc | apply pw_below_drewN | apply below_drew1) | exact HB.out)) hb); have n2_ := Aside0.mk (hbox); have n3_ := Aside0.mk ((by rw [hg]; exact (below_size (by repeat (first | (with_reducible first | exact HB.out | apply below_alloc | apply pw_below_drewN | apply below_drew1) | exact HB.out))) : w.heap.size ≤ gb357)); have n4_ := Aside0.mk ((by rw [hg]; exact (below_size (by repeat (first | (with_reducible first | exact HB.out | apply below_alloc | apply pw_below_drewN | apply below_drew1) | exact HB.out))) : w.heap.size ≤ gb357)); clear HO_16; clear HB; have HO_16 := n0_; have HB := n1_; have BK357 := n2_; have GW357 := n3_; have GE357 := n4_; clear n0_ n1_ n2_ n3_ n4_; clear hb hbox hg; have hcz68_0 : w67.cell? ⟨gb357, 0, none⟩ = some (.int .u32 0) := (blk_cell BK357.out 0).trans rfl; have hcz68_1 : w67.cell? ⟨gb357, 1, none⟩ = some (.int .i64 0) := (blk_cell BK357.out 1).trans rfl; have hfz68_0 := blk_frozen BK357.out 0; have hfz68_1 := blk_frozen BK357.out 1) | ((with_reducible refine gate_dst (N := 168) rfl ?_); (try (refine gate_guard (by rfl) ?_; dsimp only)); refine Kd.R_lit (Kd.int .u32) _ 22 ?hg (N := 168) ?hd (xs := ([(rd_T50 l2 x152_4).f0, (((rd_T50 l2 x152_4).f0) + ((IntKind.u64.wrap ((ji66) - 1)) % 4294967296)) % 4294967296] : List Int)) (inner := [.int .u32 ((rd_T50 l2 x152_4).f0), .int .u32 ((((rd_T50 l2 x152_4).f0) + ((IntKind.u64.wrap ((ji66) - 1)) % 4294967296)) % 4294967296)]) (ok := fun _ => True) (okp := fun _ => True) ?hr ?hp (fun _ hk => hk) trivial (Below.refl _ _) (Nat.le_refl _) (by simp) ?_; (case hd => rfl); (case hg => rfl); (case hr => first | (go_simp; done) | (go_simp; rfl)); (case hp => exact (Reps.one (show Kd.M (Kd.int .u32) _ _ _ ((rd_T50 l2 x152_4).f0) [.int .u32 ((rd_T50 l2 x152_4).f0)] from rfl) (Reps.one (show Kd.M (Kd.int .u32) _ _ _ ((((rd_T50 l2 x152_4).f0) + ((IntKind.u64.wrap ((ji66) - 1)) % 4294967296)) % 4294967296) [.int .u32 ((((rd_T50 l2 x152_4).f0) + ((IntKind.u64.wrap ((ji66) - 1)) % 4294967296)) % 4294967296)] from rfl) (Reps.none _ _)))); intro v359 w69 ho70 hb hg_ hnew_; clear hg_ hnew_; (first | rw [← Ny358.out] at ho70 | (simp only [Int.reduceToNat] at ho70; rw [← Ny358.out] at ho70)); have n0_ := Aside0.mk (Kd.R_below (by (with_reducible repeat (first | apply Kd.R_alloc | apply Kd.R_drewN | apply Kd.R_drew)); exact (Kd.R_mono (Kd.R_far (p := ⟨gb357, 1, none⟩) (Kd.R_far (p := ⟨gb357, 0, none⟩) (Kd.R_mono HO_16.out (fun k_ hk => (⟨hk, hk.2⟩ : _ ∧ k_ ≠ gb357))) (fun _ hk => hk.2) (.int .u32 ((rd_T50 l2 x152_4).f0))) (fun _ hk => hk.2) (.int .i64 ((rd_T50 l2 x152_4).f1))) (fun _ h_ => h_.1))) hb); have n1_ := Aside0.mk (Kd.R_lower ho70 (below_size (by repeat (first | (with_reducible first | exact HB.out | apply below_alloc | apply pw_below_drewN | apply below_drew1 | refine below_set ?_ GE357.out) | exact HB.out)))); have n2_ := Aside0.mk (blk_below (g := gb357) (o := .cells #[.int .u32 ((rd_T50 l2 x152_4).f0), .int .i64 ((rd_T50 l2 x152_4).f1)] 50 (0, 0)) (by (with_reducible repeat (first | refine blk_drewN ?_ _ | refine blk_drew ?_ | refine blk_alloc ?_ _)); refine blk_put (cs := #[.int .u32 ((rd_T50 l2 x152_4).f0), .int .i64 0]) ?_ 1 _ rfl; (with_reducible repeat (first | refine blk_drewN ?_ _ | refine blk_drew ?_ | refine blk_alloc ?_ _)); refine blk_put (cs := #[.int .u32 0, .int .i64 0]) ?_ 0 _ rfl; (with_reducible repeat (first | refine blk_drewN ?_ _ | refine blk_drew ?_ | refine blk_alloc ?_ _)); exact BK357.out) hb); have n3_ := Aside0.mk (below_step (by repeat (first | (with_reducible first | exact HB.out | apply below_alloc | apply pw_below_drewN | apply below_drew1 | refine below_set ?_ GE357.out) | exact HB.out)) hb); clear HO_16; clear BK357; clear HB; have HO_16 := n0_; have HO360 := n1_; have BK357 := n2_; have HB := n3_; clear n0_ n1_ n2_ n3_; clear hb ho70; obtain ⟨Ao71, co71, eo71⟩ := Kd.R_slice HO360.out; subst eo71))
                                        repeat (go_quiet (first | ((with_reducible refine gate_dst (N := 19) rfl ?_); (try (refine gate_guard (by rfl) ?_; dsimp only)); refine box_event ?hg (N := 19) ?hd (cs := #[.int .u32 0, .int .i64 0]) (t := 50) ?hr ?_; (case hd => rfl); (case hg => rfl); (case hr => first | (go_simp; done) | (go_simp; rfl)); intro gb357 hg w67 hbox hb; have n0_ := Aside0.mk (Kd.R_below (Kd.R_elderB (by (with_reducible repeat (first | apply Kd.R_alloc | apply Kd.R_drewN | apply Kd.R_drew)); exact HO_16.out) gb357 (Nat.le_of_eq hg.symm)) hb); have n1_ := Aside0.mk (below_step (by repeat (first | (with_reducible first | exact HB.out | apply below_alloc | apply pw_below_drewN | apply below_drew1) | exact HB.out)) hb); have n2_ := Aside0.mk (hbox); have n3_ := Aside0.mk ((by rw [hg]; exact (below_size (by repeat (first | (with_reducible first | exact HB.out | apply below_alloc | apply pw_below_drewN | apply below_drew1) | exact HB.out))) : w.heap.size ≤ gb357)); have n4_ := Aside0.mk ((by rw [hg]; exact (below_size (by repeat (first | (with_reducible first | exact HB.out | apply below_alloc | apply pw_below_drewN | apply below_drew1) | exact HB.out))) : w.heap.size ≤ gb357)); clear HO_16; clear HB; have HO_16 := n0_; have HB := n1_; have BK357 := n2_; have GW357 := n3_; have GE357 := n4_; clear n0_ n1_ n2_ n3_ n4_; clear hb hbox hg; have hcz68_0 : w67.cell? ⟨gb357, 0, none⟩ = some (.int .u32 0) := (blk_cell BK357.out 0).trans rfl; have hcz68_1 : w67.cell? ⟨gb357, 1, none⟩ = some (.int .i64 0) := (blk_cell BK357.out 1).trans rfl; have hfz68_0 := blk_frozen BK357.out 0; have hfz68_1 := blk_frozen BK357.out 1) | ((with_reducible refine gate_dst (N := 168) rfl ?_); (try (refine gate_guard (by rfl) ?_; dsimp only)); refine Kd.R_lit (Kd.int .u32) _ 22 ?hg (N := 168) ?hd (xs := ([(rd_T50 l2 x152_4).f0, (((rd_T50 l2 x152_4).f0) + ((IntKind.u64.wrap ((ji66) - 1)) % 4294967296)) % 4294967296] : List Int)) (inner := [.int .u32 ((rd_T50 l2 x152_4).f0), .int .u32 ((((rd_T50 l2 x152_4).f0) + ((IntKind.u64.wrap ((ji66) - 1)) % 4294967296)) % 4294967296)]) (ok := fun _ => True) (okp := fun _ => True) ?hr ?hp (fun _ hk => hk) trivial (Below.refl _ _) (Nat.le_refl _) (by simp) ?_; (case hd => rfl); (case hg => rfl); (case hr => first | (go_simp; done) | (go_simp; rfl)); (case hp => exact (Reps.one (show Kd.M (Kd.int .u32) _ _ _ ((rd_T50 l2 x152_4).f0) [.int .u32 ((rd_T50 l2 x152_4).f0)] from rfl) (Reps.one (show Kd.M (Kd.int .u32) _ _ _ ((((rd_T50 l2 x152_4).f0) + ((IntKind.u64.wrap ((ji66) - 1)) % 4294967296)) % 4294967296) [.int .u32 ((((rd_T50 l2 x152_4).f0) + ((IntKind.u64.wrap ((ji66) - 1)) % 4294967296)) % 4294967296)] from rfl) (Reps.none _ _)))); intro v359 w69 ho70 hb hg_ hnew_; clear hg_ hnew_; (first | rw [← Ny358.out] at ho70 | (simp only [Int.reduceToNat] at ho70; rw [← Ny358.out] at ho70)); have n0_ := Aside0.mk (Kd.R_below (by (with_reducible repeat (first | apply Kd.R_alloc | apply Kd.R_drewN | apply Kd.R_drew)); exact (Kd.R_mono (Kd.R_far (p := ⟨gb357, 1, none⟩) (Kd.R_far (p := ⟨gb357, 0, none⟩) (Kd.R_mono HO_16.out (fun k_ hk => (⟨hk, hk.2⟩ : _ ∧ k_ ≠ gb357))) (fun _ hk => hk.2) (.int .u32 ((rd_T50 l2 x152_4).f0))) (fun _ hk => hk.2) (.int .i64 ((rd_T50 l2 x152_4).f1))) (fun _ h_ => h_.1))) hb); have n1_ := Aside0.mk (Kd.R_lower ho70 (below_size (by repeat (first | (with_reducible first | exact HB.out | apply below_alloc | apply pw_below_drewN | apply below_drew1 | refine below_set ?_ GE357.out) | exact HB.out)))); have n2_ := Aside0.mk (blk_below (g := gb357) (o := .cells #[.int .u32 ((rd_T50 l2 x152_4).f0), .int .i64 ((rd_T50 l2 x152_4).f1)] 50 (0, 0)) (by (with_reducible repeat (first | refine blk_drewN ?_ _ | refine blk_drew ?_ | refine blk_alloc ?_ _)); refine blk_put (cs := #[.int .u32 ((rd_T50 l2 x152_4).f0), .int .i64 0]) ?_ 1 _ rfl; (with_reducible repeat (first | refine blk_drewN ?_ _ | refine blk_drew ?_ | refine blk_alloc ?_ _)); refine blk_put (cs := #[.int .u32 0, .int .i64 0]) ?_ 0 _ rfl; (with_reducible repeat (first | refine blk_drewN ?_ _ | refine blk_drew ?_ | refine blk_alloc ?_ _)); exact BK357.out) hb); have n3_ := Aside0.mk (below_step (by repeat (first | (with_reducible first | exact HB.out | apply below_alloc | apply pw_below_drewN | apply below_drew1 | refine below_set ?_ GE357.out) | exact HB.out)) hb); clear HO_16; clear BK357; clear HB; have HO_16 := n0_; have HO360 := n1_; have BK357 := n2_; have HB := n3_; clear n0_ n1_ n2_ n3_; clear hb ho70; obtain ⟨Ao71, co71, eo71⟩ := Kd.R_slice HO360.out; subst eo71)); try go_wp2_with (first | ((with_reducible refine gate_dst (N := 19) rfl ?_); (try (refine gate_guard (by rfl) ?_; dsimp only)); refine box_event ?hg (N := 19) ?hd (cs := #[.int .u32 0, .int .i64 0]) (t := 50) ?hr ?_; (case hd => rfl); (case hg => rfl); (case hr => first | (go_simp; done) | (go_simp; rfl)); intro gb357 hg w67 hbox hb; have n0_ := Aside0.mk (Kd.R_below (Kd.R_elderB (by (with_reducible repeat (first | apply Kd.R_alloc | apply Kd.R_drewN | apply Kd.R_drew)); exact HO_16.out) gb357 (Nat.le_of_eq hg.symm)) hb); have n1_ := Aside0.mk (below_step (by repeat (first | (with_reducible first | exact HB.out | apply below_alloc | apply pw_below_drewN | apply below_drew1) | exact HB.out)) hb); have n2_ := Aside0.mk (hbox); have n3_ := Aside0.mk ((by rw [hg]; exact (below_size (by repeat (first | (with_reducible first | exact HB.out | apply below_alloc | apply pw_below_drewN | apply below_drew1) | exact HB.out))) : w.heap.size ≤ gb357)); have n4_ := Aside0.mk ((by rw [hg]; exact (below_size (by repeat (first | (with_reducible first | exact HB.out | apply below_alloc | apply pw_below_drewN | apply below_drew1) | exact HB.out))) : w.heap.size ≤ gb357)); clear HO_16; clear HB; have HO_16 := n0_; have HB := n1_; have BK357 := n2_; have GW357 := n3_; have GE357 := n4_; clear n0_ n1_ n2_ n3_ n4_; clear hb hbox hg; have hcz68_0 : w67.cell? ⟨gb357, 0, none⟩ = some (.int .u32 0) := (blk_cell BK357.out 0).trans rfl; have hcz68_1 : w67.cell? ⟨gb357, 1, none⟩ = some (.int .i64 0) := (blk_cell BK357.out 1).trans rfl; have hfz68_0 := blk_frozen BK357.out 0; have hfz68_1 := blk_frozen BK357.out 1) | ((with_reducible refine gate_dst (N := 168) rfl ?_); (try (refine gate_guard (by rfl) ?_; dsimp only)); refine Kd.R_lit (Kd.int .u32) _ 22 ?hg (N := 168) ?hd (xs := ([(rd_T50 l2 x152_4).f0, (((rd_T50 l2 x152_4).f0) + ((IntKind.u64.wrap ((ji66) - 1)) % 4294967296)) % 4294967296] : List Int)) (inner := [.int .u32 ((rd_T50 l2 x152_4).f0), .int .u32 ((((rd_T50 l2 x152_4).f0) + ((IntKind.u64.wrap ((ji66) - 1)) % 4294967296)) % 4294967296)]) (ok := fun _ => True) (okp := fun _ => True) ?hr ?hp (fun _ hk => hk) trivial (Below.refl _ _) (Nat.le_refl _) (by simp) ?_; (case hd => rfl); (case hg => rfl); (case hr => first | (go_simp; done) | (go_simp; rfl)); (case hp => exact (Reps.one (show Kd.M (Kd.int .u32) _ _ _ ((rd_T50 l2 x152_4).f0) [.int .u32 ((rd_T50 l2 x152_4).f0)] from rfl) (Reps.one (show Kd.M (Kd.int .u32) _ _ _ ((((rd_T50 l2 x152_4).f0) + ((IntKind.u64.wrap ((ji66) - 1)) % 4294967296)) % 4294967296) [.int .u32 ((((rd_T50 l2 x152_4).f0) + ((IntKind.u64.wrap ((ji66) - 1)) % 4294967296)) % 4294967296)] from rfl) (Reps.none _ _)))); intro v359 w69 ho70 hb hg_ hnew_; clear hg_ hnew_; (first | rw [← Ny358.out] at ho70 | (simp only [Int.reduceToNat] at ho70; rw [← Ny358.out] at ho70)); have n0_ := Aside0.mk (Kd.R_below (by (with_reducible repeat (first | apply Kd.R_alloc | apply Kd.R_drewN | apply Kd.R_drew)); exact (Kd.R_mono (Kd.R_far (p := ⟨gb357, 1, none⟩) (Kd.R_far (p := ⟨gb357, 0, none⟩) (Kd.R_mono HO_16.out (fun k_ hk => (⟨hk, hk.2⟩ : _ ∧ k_ ≠ gb357))) (fun _ hk => hk.2) (.int .u32 ((rd_T50 l2 x152_4).f0))) (fun _ hk => hk.2) (.int .i64 ((rd_T50 l2 x152_4).f1))) (fun _ h_ => h_.1))) hb); have n1_ := Aside0.mk (Kd.R_lower ho70 (below_size (by repeat (first | (with_reducible first | exact HB.out | apply below_alloc | apply pw_below_drewN | apply below_drew1 | refine below_set ?_ GE357.out) | exact HB.out)))); have n2_ := Aside0.mk (blk_below (g := gb357) (o := .cells #[.int .u32 ((rd_T50 l2 x152_4).f0), .int .i64 ((rd_T50 l2 x152_4).f1)] 50 (0, 0)) (by (with_reducible repeat (first | refine blk_drewN ?_ _ | refine blk_drew ?_ | refine blk_alloc ?_ _)); refine blk_put (cs := #[.int .u32 ((rd_T50 l2 x152_4).f0), .int .i64 0]) ?_ 1 _ rfl; (with_reducible repeat (first | refine blk_drewN ?_ _ | refine blk_drew ?_ | refine blk_alloc ?_ _)); refine blk_put (cs := #[.int .u32 0, .int .i64 0]) ?_ 0 _ rfl; (with_reducible repeat (first | refine blk_drewN ?_ _ | refine blk_drew ?_ | refine blk_alloc ?_ _)); exact BK357.out) hb); have n3_ := Aside0.mk (below_step (by repeat (first | (with_reducible first | exact HB.out | apply below_alloc | apply pw_below_drewN | apply below_drew1 | refine below_set ?_ GE357.out) | exact HB.out)) hb); clear HO_16; clear BK357; clear HB; have HO_16 := n0_; have HO360 := n1_; have BK357 := n2_; have HB := n3_; clear n0_ n1_ n2_ n3_; clear hb ho70; obtain ⟨Ao71, co71, eo71⟩ := Kd.R_slice HO360.out; subst eo71)))
                                        go_loopg [170] k4 (fun kq v170 w' => ∃ (x170_5 : Int), v170 = .int .i64 x170_5 ∧ Aside0 (posternlaw20_FourApart.l3 kq t351 l2 (l2.length : Int) x152_4 y358 (y358.length : Int) x170_5 = some r) ∧ Aside0 (kq ≤ k4) ∧ Aside0 (Kd.R k50 50 w' w.heap.size (fun k_ => k_ ≠ gb357) v354 t351) ∧ Aside0 (Kd.R (Kd.int .u32) 22 w' w.heap.size (fun _ => True) (.slice Ao71 y358.length co71) y358) ∧ Aside0 (w'.heap[gb357]? = some (.cells #[.int .u32 ((rd_T50 l2 x152_4).f0), .int .i64 ((rd_T50 l2 x152_4).f1)] 50 (0, 0))) ∧ Aside0 (Below w.heap.size w w'))
                                        case atStart => exact ⟨(0), (by first | rfl | (simp; done) | (simp [*]; done)), H', ⟨Nat.le_refl _⟩, ⟨by (with_reducible repeat (first | apply Kd.R_alloc | apply Kd.R_drewN | apply Kd.R_drew)); exact Kd.R_mono HO_16.out (fun _ hk => hk.2)⟩, ⟨by (with_reducible repeat (first | apply Kd.R_alloc | apply Kd.R_drewN | apply Kd.R_drew)); exact HO360.out⟩, ⟨by (with_reducible repeat (first | refine blk_drewN ?_ _ | refine blk_drew ?_ | refine blk_alloc ?_ _)); exact BK357.out⟩, ⟨by repeat (first | (with_reducible first | exact HB.out | apply below_alloc | apply pw_below_drewN | apply below_drew1 | refine below_set ?_ GE357.out) | exact HB.out)⟩⟩
                                        case round =>
                                          clear H'
                                          try clear c1
                                          try clear c2
                                          try clear p2
                                          try clear c3
                                          try clear p3
                                          try clear q3
                                          try clear hx3
                                          try clear c4
                                          try clear c5
                                          try clear c6
                                          try clear c6b0
                                          try clear p6
                                          try clear c10
                                          try clear c15
                                          try clear c15b0
                                          try clear c16
                                          try clear c16b0
                                          try clear c17
                                          try clear c17b0
                                          try clear c21
                                          try clear c21b0
                                          try clear c23
                                          try clear c23b0
                                          try clear c25
                                          try clear c25b0
                                          try clear c25b1
                                          try clear c30
                                          try clear c32
                                          try clear c32b0
                                          try clear c32b1
                                          try clear p33
                                          try clear q33
                                          try clear hx33
                                          try clear c34
                                          try clear c34b0
                                          try clear p34
                                          try clear q34
                                          try clear hx34
                                          try clear p35
                                          try clear q35
                                          try clear hx35
                                          try clear c36
                                          try clear c36b0
                                          try clear c37
                                          try clear c37b0
                                          try clear c38
                                          try clear c38b0
                                          try clear c38b1
                                          try clear c39
                                          try clear c39b0
                                          try clear c39b1
                                          try clear c40
                                          try clear c40b0
                                          try clear c40b1
                                          try clear c45
                                          try clear c45b0
                                          try clear c45b1
                                          try clear c49
                                          try clear c49b0
                                          try clear c49b1
                                          try clear c51
                                          try clear c53
                                          try clear c53b0
                                          try clear c54
                                          try clear c54b0
                                          try clear c55
                                          try clear c55b0
                                          try clear c56
                                          try clear c56b0
                                          try clear c57
                                          try clear c57b0
                                          try clear c59
                                          try clear c59b0
                                          try clear c59b1
                                          try clear c61
                                          try clear c61b0
                                          try clear c62
                                          try clear c62b0
                                          try clear c63
                                          try clear c63b0
                                          try clear p64
                                          try clear c65
                                          try clear c65b0
                                          try clear c65b1
                                          try clear hcz20_0
                                          try clear hcz20_1
                                          try clear hcz22_0
                                          try clear hcz22_1
                                          try clear hcz24_0
                                          try clear hcz24_1
                                          try clear hcz27_0
                                          try clear hcz27_1
                                          try clear hcz29_0
                                          try clear hcz29_1
                                          try clear hcz41_0
                                          try clear hcz41_1
                                          try clear hcz42_0
                                          try clear hcz42_1
                                          try clear hcz43_0
                                          try clear hcz43_1
                                          try clear hcz44_0
                                          try clear hcz44_1
                                          try clear hcz68_0
                                          try clear hcz68_1
                                          try clear hfz20_0
                                          try clear hfz20_1
                                          try clear hfz22_0
                                          try clear hfz22_1
                                          try clear hfz24_0
                                          try clear hfz24_1
                                          try clear hfz27_0
                                          try clear hfz27_1
                                          try clear hfz29_0
                                          try clear hfz29_1
                                          try clear hfz41_0
                                          try clear hfz41_1
                                          try clear hfz42_0
                                          try clear hfz42_1
                                          try clear hfz43_0
                                          try clear hfz43_1
                                          try clear hfz44_0
                                          try clear hfz44_1
                                          try clear hfz68_0
                                          try clear hfz68_1
                                          try clear hx339_0
                                          try clear hx339_1
                                          try clear hx342_0
                                          try clear hx342_1
                                          try clear hx343_0
                                          try clear hx343_1
                                          try clear hx349_0
                                          try clear hx349_1
                                          try clear hx350_0
                                          try clear hx350_1
                                          try clear hx356_0
                                          try clear hx356_1
                                          try clear p2
                                          try clear p3
                                          try clear p33
                                          try clear p339
                                          try clear p34
                                          try clear p342
                                          try clear p343
                                          try clear p349
                                          try clear p35
                                          try clear p350
                                          try clear p356
                                          try clear p6
                                          try clear q3
                                          try clear q33
                                          try clear q339
                                          try clear q34
                                          try clear q342
                                          try clear q343
                                          try clear q349
                                          try clear q35
                                          try clear q350
                                          try clear q356
                                          obtain ⟨x170_5, rfl, HA, HK5, HO_16, HO_168, BK357, HB⟩ := hrel
                                          cases gk with
                                          | zero => exact absurd HA.out (by simp [posternlaw20_FourApart.l3])
                                          | succ k5 =>
                                            have H := HA.out
                                            clear HA
                                            simp only [posternlaw20_FourApart.l3] at H
                                            by_cases c72 : x170_5 < (y358.length : Int)
                                            · rw [if_pos c72] at H
                                              have c72b0 : decide (x170_5 < (y358.length : Int)) = true := decide_eq_true c72
                                              clear c72
                                              by_cases c73 : 0 ≤ x170_5
                                              · rw [if_pos c73] at H
                                                have c73b0 : decide (0 ≤ x170_5) = true := decide_eq_true c73
                                                clear c73
                                                by_cases c74 : x170_5 < (y358.length : Int)
                                                · rw [if_pos c74] at H
                                                  have c74b0 : decide (x170_5 < (y358.length : Int)) = true := decide_eq_true c74
                                                  clear c74
                                                  have H' := Aside0.mk H
                                                  clear H
                                                  have p361 : 0 ≤ (x170_5 : Int) := of_decide_eq_true (by first | (with_reducible assumption) | assumption)
                                                  have q361 : x170_5 < (y358.length : Int) := of_decide_eq_true (by first | (with_reducible assumption) | assumption)
                                                  obtain ⟨ad361, e361, hx361_0⟩ := Kd.at_int (Kd.R_reads' HO_168.out).2.2 x170_5 p361 q361
                                                  cases e361
                                                  replace p361 := eq_true p361
                                                  replace q361 := eq_true q361
                                                  obtain ⟨Ao75, co75, eo75⟩ := Kd.R_slice HO_16.out
                                                  subst eo75
                                                  go_wp2
                                                  repeat (go_quiet (fail); try go_wp2)
                                                  go_loopg [22, 176] k5 (fun kq v22 v176 w' => ∃ (x22_6 : Int) (x176_6 : Int), v22 = .int .i64 x22_6 ∧ v176 = .int .i64 x176_6 ∧ Aside0 (posternlaw20_FourApart.l4 kq t351 (rd y358 x170_5) x22_6 l2 (l2.length : Int) x152_4 y358 (y358.length : Int) x170_5 t351 (t351.length : Int) x176_6 = some r) ∧ Aside0 (kq ≤ k5) ∧ Aside0 (Kd.R k50 50 w' w.heap.size (fun k_ => k_ ≠ gb357) (.slice Ao75 t351.length co75) t351) ∧ Aside0 (Kd.R (Kd.int .u32) 22 w' w.heap.size (fun _ => True) (.slice (some ad361) y358.length co71) y358) ∧ Aside0 (Kd.R k50 50 w' w.heap.size (fun k_ => k_ ≠ gb357) (.slice Ao75 t351.length co75) t351) ∧ Aside0 (w'.heap[gb357]? = some (.cells #[.int .u32 ((rd_T50 l2 x152_4).f0), .int .i64 ((rd_T50 l2 x152_4).f1)] 50 (0, 0))) ∧ Aside0 (Below w.heap.size w w'))
                                                  case atStart => exact ⟨(0), (0), (by first | rfl | (simp; done) | (simp [*]; done)), (by first | rfl | (simp; done) | (simp [*]; done)), H', ⟨Nat.le_refl _⟩, ⟨by (with_reducible repeat (first | apply Kd.R_alloc | apply Kd.R_drewN | apply Kd.R_drew)); exact HO_16.out⟩, ⟨by (with_reducible repeat (first | apply Kd.R_alloc | apply Kd.R_drewN | apply Kd.R_drew)); exact HO_168.out⟩, ⟨by (with_reducible repeat (first | apply Kd.R_alloc | apply Kd.R_drewN | apply Kd.R_drew)); exact HO_16.out⟩, ⟨by (with_reducible repeat (first | refine blk_drewN ?_ _ | refine blk_drew ?_ | refine blk_alloc ?_ _)); exact BK357.out⟩, ⟨by repeat (first | (with_reducible first | exact HB.out | apply below_alloc | apply pw_below_drewN | apply below_drew1 | refine below_set ?_ GE357.out) | exact HB.out)⟩⟩
                                                  case round =>
                                                    clear H'
                                                    try clear c1
                                                    try clear c2
                                                    try clear p2
                                                    try clear c3
                                                    try clear p3
                                                    try clear q3
                                                    try clear hx3
                                                    try clear c4
                                                    try clear c5
                                                    try clear c6
                                                    try clear c6b0
                                                    try clear p6
                                                    try clear c7
                                                    try clear c10
                                                    try clear c15
                                                    try clear c15b0
                                                    try clear c16
                                                    try clear c16b0
                                                    try clear c17
                                                    try clear c17b0
                                                    try clear c21
                                                    try clear c21b0
                                                    try clear c23
                                                    try clear c23b0
                                                    try clear c25
                                                    try clear c25b0
                                                    try clear c25b1
                                                    try clear c30
                                                    try clear c32
                                                    try clear c32b0
                                                    try clear c32b1
                                                    try clear p33
                                                    try clear q33
                                                    try clear hx33
                                                    try clear c34
                                                    try clear c34b0
                                                    try clear p34
                                                    try clear q34
                                                    try clear hx34
                                                    try clear p35
                                                    try clear q35
                                                    try clear hx35
                                                    try clear c36
                                                    try clear c36b0
                                                    try clear p36
                                                    try clear q36
                                                    try clear hx36
                                                    try clear c37
                                                    try clear c37b0
                                                    try clear c38
                                                    try clear c38b0
                                                    try clear c38b1
                                                    try clear c39
                                                    try clear c39b0
                                                    try clear c39b1
                                                    try clear c40
                                                    try clear c40b0
                                                    try clear c40b1
                                                    try clear c45
                                                    try clear c45b0
                                                    try clear c45b1
                                                    try clear c49
                                                    try clear c49b0
                                                    try clear c49b1
                                                    try clear c51
                                                    try clear c53
                                                    try clear c53b0
                                                    try clear c54
                                                    try clear c54b0
                                                    try clear c55
                                                    try clear c55b0
                                                    try clear c56
                                                    try clear c56b0
                                                    try clear c57
                                                    try clear c57b0
                                                    try clear c59
                                                    try clear c59b0
                                                    try clear c59b1
                                                    try clear c61
                                                    try clear c61b0
                                                    try clear c62
                                                    try clear c62b0
                                                    try clear c63
                                                    try clear c63b0
                                                    try clear p64
                                                    try clear c65
                                                    try clear c65b0
                                                    try clear c65b1
                                                    try clear c72
                                                    try clear c72b0
                                                    try clear c73
                                                    try clear c73b0
                                                    try clear c74
                                                    try clear c74b0
                                                    try clear hcz20_0
                                                    try clear hcz20_1
                                                    try clear hcz22_0
                                                    try clear hcz22_1
                                                    try clear hcz24_0
                                                    try clear hcz24_1
                                                    try clear hcz27_0
                                                    try clear hcz27_1
                                                    try clear hcz29_0
                                                    try clear hcz29_1
                                                    try clear hcz41_0
                                                    try clear hcz41_1
                                                    try clear hcz42_0
                                                    try clear hcz42_1
                                                    try clear hcz43_0
                                                    try clear hcz43_1
                                                    try clear hcz44_0
                                                    try clear hcz44_1
                                                    try clear hcz68_0
                                                    try clear hcz68_1
                                                    try clear hfz20_0
                                                    try clear hfz20_1
                                                    try clear hfz22_0
                                                    try clear hfz22_1
                                                    try clear hfz24_0
                                                    try clear hfz24_1
                                                    try clear hfz27_0
                                                    try clear hfz27_1
                                                    try clear hfz29_0
                                                    try clear hfz29_1
                                                    try clear hfz41_0
                                                    try clear hfz41_1
                                                    try clear hfz42_0
                                                    try clear hfz42_1
                                                    try clear hfz43_0
                                                    try clear hfz43_1
                                                    try clear hfz44_0
                                                    try clear hfz44_1
                                                    try clear hfz68_0
                                                    try clear hfz68_1
                                                    try clear hx339_0
                                                    try clear hx339_1
                                                    try clear hx342_0
                                                    try clear hx342_1
                                                    try clear hx343_0
                                                    try clear hx343_1
                                                    try clear hx349_0
                                                    try clear hx349_1
                                                    try clear hx350_0
                                                    try clear hx350_1
                                                    try clear hx356_0
                                                    try clear hx356_1
                                                    try clear hx361_0
                                                    try clear p2
                                                    try clear p3
                                                    try clear p33
                                                    try clear p339
                                                    try clear p34
                                                    try clear p342
                                                    try clear p343
                                                    try clear p349
                                                    try clear p35
                                                    try clear p350
                                                    try clear p356
                                                    try clear p361
                                                    try clear p6
                                                    try clear p64
                                                    try clear q3
                                                    try clear q33
                                                    try clear q339
                                                    try clear q34
                                                    try clear q342
                                                    try clear q343
                                                    try clear q349
                                                    try clear q35
                                                    try clear q350
                                                    try clear q356
                                                    try clear q361
                                                    obtain ⟨x22_6, x176_6, rfl, rfl, HA, HK6, HO_16, HO_168, HO_174, BK357, HB⟩ := hrel
                                                    cases gk with
                                                    | zero => exact absurd HA.out (by simp [posternlaw20_FourApart.l4])
                                                    | succ k6 =>
                                                      have H := HA.out
                                                      clear HA
                                                      simp only [posternlaw20_FourApart.l4] at H
                                                      by_cases c76 : x176_6 < (t351.length : Int)
                                                      · rw [if_pos c76] at H
                                                        have c76b0 : decide (x176_6 < (t351.length : Int)) = true := decide_eq_true c76
                                                        clear c76
                                                        by_cases c77 : 0 ≤ x176_6
                                                        · rw [if_pos c77] at H
                                                          have c77b0 : decide (0 ≤ x176_6) = true := decide_eq_true c77
                                                          clear c77
                                                          by_cases c78 : x176_6 < (t351.length : Int)
                                                          · rw [if_pos c78] at H
                                                            have c78b0 : decide (x176_6 < (t351.length : Int)) = true := decide_eq_true c78
                                                            clear c78
                                                            replace H := Option.bind_eq_some_iff.mp H
                                                            obtain ⟨t364, A790, H⟩ := H
                                                            replace H : (if t364 = true then (posternlaw20_FourApart.l4 k6 t351 (rd y358 x170_5) (wrap64 (x22_6 + 1)) l2 (l2.length : Int) x152_4 y358 (y358.length : Int) x170_5 t351 (t351.length : Int) (wrap64 (x176_6 + 1))) else (posternlaw20_FourApart.l4 k6 t351 (rd y358 x170_5) x22_6 l2 (l2.length : Int) x152_4 y358 (y358.length : Int) x170_5 t351 (t351.length : Int) (wrap64 (x176_6 + 1)))) = some r := H
                                                            have A79 := Aside0.mk A790
                                                            clear A790
                                                            by_cases c80 : t364 = true
                                                            · subst c80
                                                              have H1 : (posternlaw20_FourApart.l4 k6 t351 (rd y358 x170_5) (wrap64 (x22_6 + 1)) l2 (l2.length : Int) x152_4 y358 (y358.length : Int) x170_5 t351 (t351.length : Int) (wrap64 (x176_6 + 1))) = some r := by rw [if_pos rfl] at H; exact H
                                                              clear H
                                                              have H := H1
                                                              clear H1
                                                              have H' := Aside0.mk H
                                                              clear H
                                                              have p362 : 0 ≤ (x176_6 : Int) := of_decide_eq_true (by first | (with_reducible assumption) | assumption)
                                                              have q362 : x176_6 < (t351.length : Int) := of_decide_eq_true (by first | (with_reducible assumption) | assumption)
                                                              obtain ⟨ad362, e362, hx362_0, hx362_1⟩ := at_T50 (Kd.R_reads' HO_174.out).2.2 x176_6 p362 q362
                                                              cases e362
                                                              replace p362 := eq_true p362
                                                              replace q362 := eq_true q362
                                                              go_wp2_with (first | ((with_reducible refine gate_dst (N := 24) rfl ?_); (try (refine gate_guard (by rfl) ?_; dsimp only)); refine box_event ?hg (N := 24) ?hd (cs := #[.int .u32 0, .int .i64 0]) (t := 50) ?hr ?_; (case hd => rfl); (case hg => rfl); (case hr => first | (go_simp; done) | (go_simp; rfl)); intro gb363 hg w81 hbox hb; have n0_ := Aside0.mk (Kd.R_below (Kd.R_elderB (by (with_reducible repeat (first | apply Kd.R_alloc | apply Kd.R_drewN | apply Kd.R_drew)); exact HO_16.out) gb363 (Nat.le_of_eq hg.symm)) hb); have n1_ := Aside0.mk (Kd.R_below (by (with_reducible repeat (first | apply Kd.R_alloc | apply Kd.R_drewN | apply Kd.R_drew)); exact HO_168.out) hb); have n2_ := Aside0.mk (Kd.R_below (Kd.R_elderB (by (with_reducible repeat (first | apply Kd.R_alloc | apply Kd.R_drewN | apply Kd.R_drew)); exact HO_174.out) gb363 (Nat.le_of_eq hg.symm)) hb); have n3_ := Aside0.mk (blk_below (g := gb357) (o := .cells #[.int .u32 ((rd_T50 l2 x152_4).f0), .int .i64 ((rd_T50 l2 x152_4).f1)] 50 (0, 0)) (by (with_reducible repeat (first | refine blk_drewN ?_ _ | refine blk_drew ?_ | refine blk_alloc ?_ _)); exact BK357.out) hb); have n4_ := Aside0.mk (below_step (by repeat (first | (with_reducible first | exact HB.out | apply below_alloc | apply pw_below_drewN | apply below_drew1 | refine below_set ?_ GE357.out) | exact HB.out)) hb); have n5_ := Aside0.mk (hbox); have n6_ := Aside0.mk ((by rw [hg]; exact (below_size (by repeat (first | (with_reducible first | exact HB.out | apply below_alloc | apply pw_below_drewN | apply below_drew1 | refine below_set ?_ GE357.out) | exact HB.out))) : w.heap.size ≤ gb363)); have n7_ := Aside0.mk ((by rw [hg]; exact (below_size (by repeat (first | (with_reducible first | exact HB.out | apply below_alloc | apply pw_below_drewN | apply below_drew1 | refine below_set ?_ GE357.out) | exact HB.out))) : w.heap.size ≤ gb363)); have n8_ := Aside0.mk ((by rw [hg]; exact Nat.ne_of_lt (blk_lt (g := gb357) (o := .cells #[.int .u32 ((rd_T50 l2 x152_4).f0), .int .i64 ((rd_T50 l2 x152_4).f1)] 50 (0, 0)) (by (with_reducible repeat (first | refine blk_drewN ?_ _ | refine blk_drew ?_ | refine blk_alloc ?_ _)); exact BK357.out)) : gb357 ≠ gb363)); have n9_ := Aside0.mk ((by rw [hg]; exact Nat.ne_of_gt (blk_lt (g := gb357) (o := .cells #[.int .u32 ((rd_T50 l2 x152_4).f0), .int .i64 ((rd_T50 l2 x152_4).f1)] 50 (0, 0)) (by (with_reducible repeat (first | refine blk_drewN ?_ _ | refine blk_drew ?_ | refine blk_alloc ?_ _)); exact BK357.out)) : gb363 ≠ gb357)); clear HO_16; clear HO_168; clear HO_174; clear BK357; clear HB; have HO_16 := n0_; have HO_168 := n1_; have HO_174 := n2_; have BK357 := n3_; have HB := n4_; have BK363 := n5_; have GW363 := n6_; have GE363 := n7_; have NB357_363 := n8_; have NB363_357 := n9_; clear n0_ n1_ n2_ n3_ n4_ n5_ n6_ n7_ n8_ n9_; clear hb hbox hg; have hnb82 := NB363_357.out; have hnc82 := NB357_363.out; have hcz83_0 : w81.cell? ⟨gb363, 0, none⟩ = some (.int .u32 0) := (blk_cell BK363.out 0).trans rfl; have hcz83_1 : w81.cell? ⟨gb363, 1, none⟩ = some (.int .i64 0) := (blk_cell BK363.out 1).trans rfl; have hfz83_0 := blk_frozen BK363.out 0; have hfz83_1 := blk_frozen BK363.out 1) | (go_at_call 37; (with_reducible refine (four_Within.calls ((rd_T50 t351 x176_6).f0) ((rd_T50 t351 x176_6).f1) (rd y358 x170_5) true _ A79.out).mono ?_); rintro e w84 ⟨rfl, hb⟩; have n0_ := Aside0.mk (Kd.R_below (by (with_reducible repeat (first | apply Kd.R_alloc | apply Kd.R_drewN | apply Kd.R_drew)); exact (Kd.R_mono (Kd.R_far (p := ⟨gb363, 1, none⟩) (Kd.R_far (p := ⟨gb363, 0, none⟩) (Kd.R_mono HO_16.out (fun k_ hk => (⟨hk, hk.2⟩ : _ ∧ k_ ≠ gb363))) (fun _ hk => hk.2) (.int .u32 ((rd_T50 t351 x176_6).f0))) (fun _ hk => hk.2) (.int .i64 ((rd_T50 t351 x176_6).f1))) (fun _ h_ => h_.1))) hb); have n1_ := Aside0.mk (Kd.R_below (by (with_reducible repeat (first | apply Kd.R_alloc | apply Kd.R_drewN | apply Kd.R_drew)); exact (Kd.R_mono (Kd.R_far (p := ⟨gb363, 1, none⟩) (Kd.R_far (p := ⟨gb363, 0, none⟩) (Kd.R_types HO_168.out BK363.out (by decide)) (fun _ hk => hk.2) (.int .u32 ((rd_T50 t351 x176_6).f0))) (fun _ hk => hk.2) (.int .i64 ((rd_T50 t351 x176_6).f1))) (fun _ h_ => h_.1))) hb); have n2_ := Aside0.mk (Kd.R_below (by (with_reducible repeat (first | apply Kd.R_alloc | apply Kd.R_drewN | apply Kd.R_drew)); exact (Kd.R_mono (Kd.R_far (p := ⟨gb363, 1, none⟩) (Kd.R_far (p := ⟨gb363, 0, none⟩) (Kd.R_mono HO_174.out (fun k_ hk => (⟨hk, hk.2⟩ : _ ∧ k_ ≠ gb363))) (fun _ hk => hk.2) (.int .u32 ((rd_T50 t351 x176_6).f0))) (fun _ hk => hk.2) (.int .i64 ((rd_T50 t351 x176_6).f1))) (fun _ h_ => h_.1))) hb); have n3_ := Aside0.mk (blk_below (g := gb357) (o := .cells #[.int .u32 ((rd_T50 l2 x152_4).f0), .int .i64 ((rd_T50 l2 x152_4).f1)] 50 (0, 0)) (by (with_reducible repeat (first | refine blk_drewN ?_ _ | refine blk_drew ?_ | refine blk_alloc ?_ _)); refine blk_far ?_ NB357_363.out _; (with_reducible repeat (first | refine blk_drewN ?_ _ | refine blk_drew ?_ | refine blk_alloc ?_ _)); refine blk_far ?_ NB357_363.out _; (with_reducible repeat (first | refine blk_drewN ?_ _ | refine blk_drew ?_ | refine blk_alloc ?_ _)); exact BK357.out) hb); have n4_ := Aside0.mk (blk_below (g := gb363) (o := .cells #[.int .u32 ((rd_T50 t351 x176_6).f0), .int .i64 ((rd_T50 t351 x176_6).f1)] 50 (0, 0)) (by (with_reducible repeat (first | refine blk_drewN ?_ _ | refine blk_drew ?_ | refine blk_alloc ?_ _)); refine blk_put (cs := #[.int .u32 ((rd_T50 t351 x176_6).f0), .int .i64 0]) ?_ 1 _ rfl; (with_reducible repeat (first | refine blk_drewN ?_ _ | refine blk_drew ?_ | refine blk_alloc ?_ _)); refine blk_put (cs := #[.int .u32 0, .int .i64 0]) ?_ 0 _ rfl; (with_reducible repeat (first | refine blk_drewN ?_ _ | refine blk_drew ?_ | refine blk_alloc ?_ _)); exact BK363.out) hb); have n5_ := Aside0.mk (below_step (by repeat (first | (with_reducible first | exact HB.out | apply below_alloc | apply pw_below_drewN | apply below_drew1 | refine below_set ?_ GE357.out | refine below_set ?_ GE363.out) | exact HB.out)) hb); clear HO_16; clear HO_168; clear HO_174; clear BK357; clear BK363; clear HB; have HO_16 := n0_; have HO_168 := n1_; have HO_174 := n2_; have BK357 := n3_; have BK363 := n4_; have HB := n5_; clear n0_ n1_ n2_ n3_ n4_ n5_; (try clear hb); (try clear hb2); (try clear hk); (try clear hi)))
                                                              repeat (go_quiet (first | ((with_reducible refine gate_dst (N := 24) rfl ?_); (try (refine gate_guard (by rfl) ?_; dsimp only)); refine box_event ?hg (N := 24) ?hd (cs := #[.int .u32 0, .int .i64 0]) (t := 50) ?hr ?_; (case hd => rfl); (case hg => rfl); (case hr => first | (go_simp; done) | (go_simp; rfl)); intro gb363 hg w81 hbox hb; have n0_ := Aside0.mk (Kd.R_below (Kd.R_elderB (by (with_reducible repeat (first | apply Kd.R_alloc | apply Kd.R_drewN | apply Kd.R_drew)); exact HO_16.out) gb363 (Nat.le_of_eq hg.symm)) hb); have n1_ := Aside0.mk (Kd.R_below (by (with_reducible repeat (first | apply Kd.R_alloc | apply Kd.R_drewN | apply Kd.R_drew)); exact HO_168.out) hb); have n2_ := Aside0.mk (Kd.R_below (Kd.R_elderB (by (with_reducible repeat (first | apply Kd.R_alloc | apply Kd.R_drewN | apply Kd.R_drew)); exact HO_174.out) gb363 (Nat.le_of_eq hg.symm)) hb); have n3_ := Aside0.mk (blk_below (g := gb357) (o := .cells #[.int .u32 ((rd_T50 l2 x152_4).f0), .int .i64 ((rd_T50 l2 x152_4).f1)] 50 (0, 0)) (by (with_reducible repeat (first | refine blk_drewN ?_ _ | refine blk_drew ?_ | refine blk_alloc ?_ _)); exact BK357.out) hb); have n4_ := Aside0.mk (below_step (by repeat (first | (with_reducible first | exact HB.out | apply below_alloc | apply pw_below_drewN | apply below_drew1 | refine below_set ?_ GE357.out) | exact HB.out)) hb); have n5_ := Aside0.mk (hbox); have n6_ := Aside0.mk ((by rw [hg]; exact (below_size (by repeat (first | (with_reducible first | exact HB.out | apply below_alloc | apply pw_below_drewN | apply below_drew1 | refine below_set ?_ GE357.out) | exact HB.out))) : w.heap.size ≤ gb363)); have n7_ := Aside0.mk ((by rw [hg]; exact (below_size (by repeat (first | (with_reducible first | exact HB.out | apply below_alloc | apply pw_below_drewN | apply below_drew1 | refine below_set ?_ GE357.out) | exact HB.out))) : w.heap.size ≤ gb363)); have n8_ := Aside0.mk ((by rw [hg]; exact Nat.ne_of_lt (blk_lt (g := gb357) (o := .cells #[.int .u32 ((rd_T50 l2 x152_4).f0), .int .i64 ((rd_T50 l2 x152_4).f1)] 50 (0, 0)) (by (with_reducible repeat (first | refine blk_drewN ?_ _ | refine blk_drew ?_ | refine blk_alloc ?_ _)); exact BK357.out)) : gb357 ≠ gb363)); have n9_ := Aside0.mk ((by rw [hg]; exact Nat.ne_of_gt (blk_lt (g := gb357) (o := .cells #[.int .u32 ((rd_T50 l2 x152_4).f0), .int .i64 ((rd_T50 l2 x152_4).f1)] 50 (0, 0)) (by (with_reducible repeat (first | refine blk_drewN ?_ _ | refine blk_drew ?_ | refine blk_alloc ?_ _)); exact BK357.out)) : gb363 ≠ gb357)); clear HO_16; clear HO_168; clear HO_174; clear BK357; clear HB; have HO_16 := n0_; have HO_168 := n1_; have HO_174 := n2_; have BK357 := n3_; have HB := n4_; have BK363 := n5_; have GW363 := n6_; have GE363 := n7_; have NB357_363 := n8_; have NB363_357 := n9_; clear n0_ n1_ n2_ n3_ n4_ n5_ n6_ n7_ n8_ n9_; clear hb hbox hg; have hnb82 := NB363_357.out; have hnc82 := NB357_363.out; have hcz83_0 : w81.cell? ⟨gb363, 0, none⟩ = some (.int .u32 0) := (blk_cell BK363.out 0).trans rfl; have hcz83_1 : w81.cell? ⟨gb363, 1, none⟩ = some (.int .i64 0) := (blk_cell BK363.out 1).trans rfl; have hfz83_0 := blk_frozen BK363.out 0; have hfz83_1 := blk_frozen BK363.out 1) | (go_at_call 37; (with_reducible refine (four_Within.calls ((rd_T50 t351 x176_6).f0) ((rd_T50 t351 x176_6).f1) (rd y358 x170_5) true _ A79.out).mono ?_); rintro e w84 ⟨rfl, hb⟩; have n0_ := Aside0.mk (Kd.R_below (by (with_reducible repeat (first | apply Kd.R_alloc | apply Kd.R_drewN | apply Kd.R_drew)); exact (Kd.R_mono (Kd.R_far (p := ⟨gb363, 1, none⟩) (Kd.R_far (p := ⟨gb363, 0, none⟩) (Kd.R_mono HO_16.out (fun k_ hk => (⟨hk, hk.2⟩ : _ ∧ k_ ≠ gb363))) (fun _ hk => hk.2) (.int .u32 ((rd_T50 t351 x176_6).f0))) (fun _ hk => hk.2) (.int .i64 ((rd_T50 t351 x176_6).f1))) (fun _ h_ => h_.1))) hb); have n1_ := Aside0.mk (Kd.R_below (by (with_reducible repeat (first | apply Kd.R_alloc | apply Kd.R_drewN | apply Kd.R_drew)); exact (Kd.R_mono (Kd.R_far (p := ⟨gb363, 1, none⟩) (Kd.R_far (p := ⟨gb363, 0, none⟩) (Kd.R_types HO_168.out BK363.out (by decide)) (fun _ hk => hk.2) (.int .u32 ((rd_T50 t351 x176_6).f0))) (fun _ hk => hk.2) (.int .i64 ((rd_T50 t351 x176_6).f1))) (fun _ h_ => h_.1))) hb); have n2_ := Aside0.mk (Kd.R_below (by (with_reducible repeat (first | apply Kd.R_alloc | apply Kd.R_drewN | apply Kd.R_drew)); exact (Kd.R_mono (Kd.R_far (p := ⟨gb363, 1, none⟩) (Kd.R_far (p := ⟨gb363, 0, none⟩) (Kd.R_mono HO_174.out (fun k_ hk => (⟨hk, hk.2⟩ : _ ∧ k_ ≠ gb363))) (fun _ hk => hk.2) (.int .u32 ((rd_T50 t351 x176_6).f0))) (fun _ hk => hk.2) (.int .i64 ((rd_T50 t351 x176_6).f1))) (fun _ h_ => h_.1))) hb); have n3_ := Aside0.mk (blk_below (g := gb357) (o := .cells #[.int .u32 ((rd_T50 l2 x152_4).f0), .int .i64 ((rd_T50 l2 x152_4).f1)] 50 (0, 0)) (by (with_reducible repeat (first | refine blk_drewN ?_ _ | refine blk_drew ?_ | refine blk_alloc ?_ _)); refine blk_far ?_ NB357_363.out _; (with_reducible repeat (first | refine blk_drewN ?_ _ | refine blk_drew ?_ | refine blk_alloc ?_ _)); refine blk_far ?_ NB357_363.out _; (with_reducible repeat (first | refine blk_drewN ?_ _ | refine blk_drew ?_ | refine blk_alloc ?_ _)); exact BK357.out) hb); have n4_ := Aside0.mk (blk_below (g := gb363) (o := .cells #[.int .u32 ((rd_T50 t351 x176_6).f0), .int .i64 ((rd_T50 t351 x176_6).f1)] 50 (0, 0)) (by (with_reducible repeat (first | refine blk_drewN ?_ _ | refine blk_drew ?_ | refine blk_alloc ?_ _)); refine blk_put (cs := #[.int .u32 ((rd_T50 t351 x176_6).f0), .int .i64 0]) ?_ 1 _ rfl; (with_reducible repeat (first | refine blk_drewN ?_ _ | refine blk_drew ?_ | refine blk_alloc ?_ _)); refine blk_put (cs := #[.int .u32 0, .int .i64 0]) ?_ 0 _ rfl; (with_reducible repeat (first | refine blk_drewN ?_ _ | refine blk_drew ?_ | refine blk_alloc ?_ _)); exact BK363.out) hb); have n5_ := Aside0.mk (below_step (by repeat (first | (with_reducible first | exact HB.out | apply below_alloc | apply pw_below_drewN | apply below_drew1 | refine below_set ?_ GE357.out | refine below_set ?_ GE363.out) | exact HB.out)) hb); clear HO_16; clear HO_168; clear HO_174; clear BK357; clear BK363; clear HB; have HO_16 := n0_; have HO_168 := n1_; have HO_174 := n2_; have BK357 := n3_; have BK363 := n4_; have HB := n5_; clear n0_ n1_ n2_ n3_ n4_ n5_; (try clear hb); (try clear hb2); (try clear hk); (try clear hi))); try go_wp2_with (first | ((with_reducible refine gate_dst (N := 24) rfl ?_); (try (refine gate_guard (by rfl) ?_; dsimp only)); refine box_event ?hg (N := 24) ?hd (cs := #[.int .u32 0, .int .i64 0]) (t := 50) ?hr ?_; (case hd => rfl); (case hg => rfl); (case hr => first | (go_simp; done) | (go_simp; rfl)); intro gb363 hg w81 hbox hb; have n0_ := Aside0.mk (Kd.R_below (Kd.R_elderB (by (with_reducible repeat (first | apply Kd.R_alloc | apply Kd.R_drewN | apply Kd.R_drew)); exact HO_16.out) gb363 (Nat.le_of_eq hg.symm)) hb); have n1_ := Aside0.mk (Kd.R_below (by (with_reducible repeat (first | apply Kd.R_alloc | apply Kd.R_drewN | apply Kd.R_drew)); exact HO_168.out) hb); have n2_ := Aside0.mk (Kd.R_below (Kd.R_elderB (by (with_reducible repeat (first | apply Kd.R_alloc | apply Kd.R_drewN | apply Kd.R_drew)); exact HO_174.out) gb363 (Nat.le_of_eq hg.symm)) hb); have n3_ := Aside0.mk (blk_below (g := gb357) (o := .cells #[.int .u32 ((rd_T50 l2 x152_4).f0), .int .i64 ((rd_T50 l2 x152_4).f1)] 50 (0, 0)) (by (with_reducible repeat (first | refine blk_drewN ?_ _ | refine blk_drew ?_ | refine blk_alloc ?_ _)); exact BK357.out) hb); have n4_ := Aside0.mk (below_step (by repeat (first | (with_reducible first | exact HB.out | apply below_alloc | apply pw_below_drewN | apply below_drew1 | refine below_set ?_ GE357.out) | exact HB.out)) hb); have n5_ := Aside0.mk (hbox); have n6_ := Aside0.mk ((by rw [hg]; exact (below_size (by repeat (first | (with_reducible first | exact HB.out | apply below_alloc | apply pw_below_drewN | apply below_drew1 | refine below_set ?_ GE357.out) | exact HB.out))) : w.heap.size ≤ gb363)); have n7_ := Aside0.mk ((by rw [hg]; exact (below_size (by repeat (first | (with_reducible first | exact HB.out | apply below_alloc | apply pw_below_drewN | apply below_drew1 | refine below_set ?_ GE357.out) | exact HB.out))) : w.heap.size ≤ gb363)); have n8_ := Aside0.mk ((by rw [hg]; exact Nat.ne_of_lt (blk_lt (g := gb357) (o := .cells #[.int .u32 ((rd_T50 l2 x152_4).f0), .int .i64 ((rd_T50 l2 x152_4).f1)] 50 (0, 0)) (by (with_reducible repeat (first | refine blk_drewN ?_ _ | refine blk_drew ?_ | refine blk_alloc ?_ _)); exact BK357.out)) : gb357 ≠ gb363)); have n9_ := Aside0.mk ((by rw [hg]; exact Nat.ne_of_gt (blk_lt (g := gb357) (o := .cells #[.int .u32 ((rd_T50 l2 x152_4).f0), .int .i64 ((rd_T50 l2 x152_4).f1)] 50 (0, 0)) (by (with_reducible repeat (first | refine blk_drewN ?_ _ | refine blk_drew ?_ | refine blk_alloc ?_ _)); exact BK357.out)) : gb363 ≠ gb357)); clear HO_16; clear HO_168; clear HO_174; clear BK357; clear HB; have HO_16 := n0_; have HO_168 := n1_; have HO_174 := n2_; have BK357 := n3_; have HB := n4_; have BK363 := n5_; have GW363 := n6_; have GE363 := n7_; have NB357_363 := n8_; have NB363_357 := n9_; clear n0_ n1_ n2_ n3_ n4_ n5_ n6_ n7_ n8_ n9_; clear hb hbox hg; have hnb82 := NB363_357.out; have hnc82 := NB357_363.out; have hcz83_0 : w81.cell? ⟨gb363, 0, none⟩ = some (.int .u32 0) := (blk_cell BK363.out 0).trans rfl; have hcz83_1 : w81.cell? ⟨gb363, 1, none⟩ = some (.int .i64 0) := (blk_cell BK363.out 1).trans rfl; have hfz83_0 := blk_frozen BK363.out 0; have hfz83_1 := blk_frozen BK363.out 1) | (go_at_call 37; (with_reducible refine (four_Within.calls ((rd_T50 t351 x176_6).f0) ((rd_T50 t351 x176_6).f1) (rd y358 x170_5) true _ A79.out).mono ?_); rintro e w84 ⟨rfl, hb⟩; have n0_ := Aside0.mk (Kd.R_below (by (with_reducible repeat (first | apply Kd.R_alloc | apply Kd.R_drewN | apply Kd.R_drew)); exact (Kd.R_mono (Kd.R_far (p := ⟨gb363, 1, none⟩) (Kd.R_far (p := ⟨gb363, 0, none⟩) (Kd.R_mono HO_16.out (fun k_ hk => (⟨hk, hk.2⟩ : _ ∧ k_ ≠ gb363))) (fun _ hk => hk.2) (.int .u32 ((rd_T50 t351 x176_6).f0))) (fun _ hk => hk.2) (.int .i64 ((rd_T50 t351 x176_6).f1))) (fun _ h_ => h_.1))) hb); have n1_ := Aside0.mk (Kd.R_below (by (with_reducible repeat (first | apply Kd.R_alloc | apply Kd.R_drewN | apply Kd.R_drew)); exact (Kd.R_mono (Kd.R_far (p := ⟨gb363, 1, none⟩) (Kd.R_far (p := ⟨gb363, 0, none⟩) (Kd.R_types HO_168.out BK363.out (by decide)) (fun _ hk => hk.2) (.int .u32 ((rd_T50 t351 x176_6).f0))) (fun _ hk => hk.2) (.int .i64 ((rd_T50 t351 x176_6).f1))) (fun _ h_ => h_.1))) hb); have n2_ := Aside0.mk (Kd.R_below (by (with_reducible repeat (first | apply Kd.R_alloc | apply Kd.R_drewN | apply Kd.R_drew)); exact (Kd.R_mono (Kd.R_far (p := ⟨gb363, 1, none⟩) (Kd.R_far (p := ⟨gb363, 0, none⟩) (Kd.R_mono HO_174.out (fun k_ hk => (⟨hk, hk.2⟩ : _ ∧ k_ ≠ gb363))) (fun _ hk => hk.2) (.int .u32 ((rd_T50 t351 x176_6).f0))) (fun _ hk => hk.2) (.int .i64 ((rd_T50 t351 x176_6).f1))) (fun _ h_ => h_.1))) hb); have n3_ := Aside0.mk (blk_below (g := gb357) (o := .cells #[.int .u32 ((rd_T50 l2 x152_4).f0), .int .i64 ((rd_T50 l2 x152_4).f1)] 50 (0, 0)) (by (with_reducible repeat (first | refine blk_drewN ?_ _ | refine blk_drew ?_ | refine blk_alloc ?_ _)); refine blk_far ?_ NB357_363.out _; (with_reducible repeat (first | refine blk_drewN ?_ _ | refine blk_drew ?_ | refine blk_alloc ?_ _)); refine blk_far ?_ NB357_363.out _; (with_reducible repeat (first | refine blk_drewN ?_ _ | refine blk_drew ?_ | refine blk_alloc ?_ _)); exact BK357.out) hb); have n4_ := Aside0.mk (blk_below (g := gb363) (o := .cells #[.int .u32 ((rd_T50 t351 x176_6).f0), .int .i64 ((rd_T50 t351 x176_6).f1)] 50 (0, 0)) (by (with_reducible repeat (first | refine blk_drewN ?_ _ | refine blk_drew ?_ | refine blk_alloc ?_ _)); refine blk_put (cs := #[.int .u32 ((rd_T50 t351 x176_6).f0), .int .i64 0]) ?_ 1 _ rfl; (with_reducible repeat (first | refine blk_drewN ?_ _ | refine blk_drew ?_ | refine blk_alloc ?_ _)); refine blk_put (cs := #[.int .u32 0, .int .i64 0]) ?_ 0 _ rfl; (with_reducible repeat (first | refine blk_drewN ?_ _ | refine blk_drew ?_ | refine blk_alloc ?_ _)); exact BK363.out) hb); have n5_ := Aside0.mk (below_step (by repeat (first | (with_reducible first | exact HB.out | apply below_alloc | apply pw_below_drewN | apply below_drew1 | refine below_set ?_ GE357.out | refine below_set ?_ GE363.out) | exact HB.out)) hb); clear HO_16; clear HO_168; clear HO_174; clear BK357; clear BK363; clear HB; have HO_16 := n0_; have HO_168 := n1_; have HO_174 := n2_; have BK357 := n3_; have BK363 := n4_; have HB := n5_; clear n0_ n1_ n2_ n3_ n4_ n5_; (try clear hb); (try clear hb2); (try clear hk); (try clear hi))))
                                                              go_roundg k6
                                                              case measure => have := HK1.out; have := HJ46.out; have := HK3.out; have := HK4.out; have := HK5.out; have := HK6.out; omega
                                                              case rel => exact ⟨(wrap64 (x22_6 + 1)), (wrap64 (x176_6 + 1)), (by first | rfl | (simp; done) | (simp [*]; done)), (by first | rfl | (simp; done) | (simp [*]; done)), H', ⟨by have := HK1.out; have := HJ46.out; have := HK3.out; have := HK4.out; have := HK5.out; have := HK6.out; omega⟩, ⟨by (with_reducible repeat (first | apply Kd.R_alloc | apply Kd.R_drewN | apply Kd.R_drew)); exact Kd.R_mono HO_16.out (fun _ hk => hk.1)⟩, ⟨by (with_reducible repeat (first | apply Kd.R_alloc | apply Kd.R_drewN | apply Kd.R_drew)); exact HO_168.out⟩, ⟨by (with_reducible repeat (first | apply Kd.R_alloc | apply Kd.R_drewN | apply Kd.R_drew)); exact Kd.R_mono HO_174.out (fun _ hk => hk.1)⟩, ⟨by (with_reducible repeat (first | refine blk_drewN ?_ _ | refine blk_drew ?_ | refine blk_alloc ?_ _)); exact BK357.out⟩, ⟨by repeat (first | (with_reducible first | exact HB.out | apply below_alloc | apply pw_below_drewN | apply below_drew1 | refine below_set ?_ GE357.out | refine below_set ?_ GE363.out) | exact HB.out)⟩⟩
                                                            · replace c80 := Bool.eq_false_iff.mpr c80
                                                              subst c80
                                                              have H1 : (posternlaw20_FourApart.l4 k6 t351 (rd y358 x170_5) x22_6 l2 (l2.length : Int) x152_4 y358 (y358.length : Int) x170_5 t351 (t351.length : Int) (wrap64 (x176_6 + 1))) = some r := by rw [if_neg (show ¬ (false = true) by decide)] at H; exact H
                                                              clear H
                                                              have H := H1
                                                              clear H1
                                                              have H' := Aside0.mk H
                                                              clear H
                                                              have p362 : 0 ≤ (x176_6 : Int) := of_decide_eq_true (by first | (with_reducible assumption) | assumption)
                                                              have q362 : x176_6 < (t351.length : Int) := of_decide_eq_true (by first | (with_reducible assumption) | assumption)
                                                              obtain ⟨ad362, e362, hx362_0, hx362_1⟩ := at_T50 (Kd.R_reads' HO_174.out).2.2 x176_6 p362 q362
                                                              cases e362
                                                              replace p362 := eq_true p362
                                                              replace q362 := eq_true q362
                                                              go_wp2_with (first | ((with_reducible refine gate_dst (N := 24) rfl ?_); (try (refine gate_guard (by rfl) ?_; dsimp only)); refine box_event ?hg (N := 24) ?hd (cs := #[.int .u32 0, .int .i64 0]) (t := 50) ?hr ?_; (case hd => rfl); (case hg => rfl); (case hr => first | (go_simp; done) | (go_simp; rfl)); intro gb363 hg w85 hbox hb; have n0_ := Aside0.mk (Kd.R_below (Kd.R_elderB (by (with_reducible repeat (first | apply Kd.R_alloc | apply Kd.R_drewN | apply Kd.R_drew)); exact HO_16.out) gb363 (Nat.le_of_eq hg.symm)) hb); have n1_ := Aside0.mk (Kd.R_below (by (with_reducible repeat (first | apply Kd.R_alloc | apply Kd.R_drewN | apply Kd.R_drew)); exact HO_168.out) hb); have n2_ := Aside0.mk (Kd.R_below (Kd.R_elderB (by (with_reducible repeat (first | apply Kd.R_alloc | apply Kd.R_drewN | apply Kd.R_drew)); exact HO_174.out) gb363 (Nat.le_of_eq hg.symm)) hb); have n3_ := Aside0.mk (blk_below (g := gb357) (o := .cells #[.int .u32 ((rd_T50 l2 x152_4).f0), .int .i64 ((rd_T50 l2 x152_4).f1)] 50 (0, 0)) (by (with_reducible repeat (first | refine blk_drewN ?_ _ | refine blk_drew ?_ | refine blk_alloc ?_ _)); exact BK357.out) hb); have n4_ := Aside0.mk (below_step (by repeat (first | (with_reducible first | exact HB.out | apply below_alloc | apply pw_below_drewN | apply below_drew1 | refine below_set ?_ GE357.out) | exact HB.out)) hb); have n5_ := Aside0.mk (hbox); have n6_ := Aside0.mk ((by rw [hg]; exact (below_size (by repeat (first | (with_reducible first | exact HB.out | apply below_alloc | apply pw_below_drewN | apply below_drew1 | refine below_set ?_ GE357.out) | exact HB.out))) : w.heap.size ≤ gb363)); have n7_ := Aside0.mk ((by rw [hg]; exact (below_size (by repeat (first | (with_reducible first | exact HB.out | apply below_alloc | apply pw_below_drewN | apply below_drew1 | refine below_set ?_ GE357.out) | exact HB.out))) : w.heap.size ≤ gb363)); have n8_ := Aside0.mk ((by rw [hg]; exact Nat.ne_of_lt (blk_lt (g := gb357) (o := .cells #[.int .u32 ((rd_T50 l2 x152_4).f0), .int .i64 ((rd_T50 l2 x152_4).f1)] 50 (0, 0)) (by (with_reducible repeat (first | refine blk_drewN ?_ _ | refine blk_drew ?_ | refine blk_alloc ?_ _)); exact BK357.out)) : gb357 ≠ gb363)); have n9_ := Aside0.mk ((by rw [hg]; exact Nat.ne_of_gt (blk_lt (g := gb357) (o := .cells #[.int .u32 ((rd_T50 l2 x152_4).f0), .int .i64 ((rd_T50 l2 x152_4).f1)] 50 (0, 0)) (by (with_reducible repeat (first | refine blk_drewN ?_ _ | refine blk_drew ?_ | refine blk_alloc ?_ _)); exact BK357.out)) : gb363 ≠ gb357)); clear HO_16; clear HO_168; clear HO_174; clear BK357; clear HB; have HO_16 := n0_; have HO_168 := n1_; have HO_174 := n2_; have BK357 := n3_; have HB := n4_; have BK363 := n5_; have GW363 := n6_; have GE363 := n7_; have NB357_363 := n8_; have NB363_357 := n9_; clear n0_ n1_ n2_ n3_ n4_ n5_ n6_ n7_ n8_ n9_; clear hb hbox hg; have hnb86 := NB363_357.out; have hnc86 := NB357_363.out; have hcz87_0 : w85.cell? ⟨gb363, 0, none⟩ = some (.int .u32 0) := (blk_cell BK363.out 0).trans rfl; have hcz87_1 : w85.cell? ⟨gb363, 1, none⟩ = some (.int .i64 0) := (blk_cell BK363.out 1).trans rfl; have hfz87_0 := blk_frozen BK363.out 0; have hfz87_1 := blk_frozen BK363.out 1) | (go_at_call 37; (with_reducible refine (four_Within.calls ((rd_T50 t351 x176_6).f0) ((rd_T50 t351 x176_6).f1) (rd y358 x170_5) false _ A79.out).mono ?_); rintro e w88 ⟨rfl, hb⟩; have n0_ := Aside0.mk (Kd.R_below (by (with_reducible repeat (first | apply Kd.R_alloc | apply Kd.R_drewN | apply Kd.R_drew)); exact (Kd.R_mono (Kd.R_far (p := ⟨gb363, 1, none⟩) (Kd.R_far (p := ⟨gb363, 0, none⟩) (Kd.R_mono HO_16.out (fun k_ hk => (⟨hk, hk.2⟩ : _ ∧ k_ ≠ gb363))) (fun _ hk => hk.2) (.int .u32 ((rd_T50 t351 x176_6).f0))) (fun _ hk => hk.2) (.int .i64 ((rd_T50 t351 x176_6).f1))) (fun _ h_ => h_.1))) hb); have n1_ := Aside0.mk (Kd.R_below (by (with_reducible repeat (first | apply Kd.R_alloc | apply Kd.R_drewN | apply Kd.R_drew)); exact (Kd.R_mono (Kd.R_far (p := ⟨gb363, 1, none⟩) (Kd.R_far (p := ⟨gb363, 0, none⟩) (Kd.R_types HO_168.out BK363.out (by decide)) (fun _ hk => hk.2) (.int .u32 ((rd_T50 t351 x176_6).f0))) (fun _ hk => hk.2) (.int .i64 ((rd_T50 t351 x176_6).f1))) (fun _ h_ => h_.1))) hb); have n2_ := Aside0.mk (Kd.R_below (by (with_reducible repeat (first | apply Kd.R_alloc | apply Kd.R_drewN | apply Kd.R_drew)); exact (Kd.R_mono (Kd.R_far (p := ⟨gb363, 1, none⟩) (Kd.R_far (p := ⟨gb363, 0, none⟩) (Kd.R_mono HO_174.out (fun k_ hk => (⟨hk, hk.2⟩ : _ ∧ k_ ≠ gb363))) (fun _ hk => hk.2) (.int .u32 ((rd_T50 t351 x176_6).f0))) (fun _ hk => hk.2) (.int .i64 ((rd_T50 t351 x176_6).f1))) (fun _ h_ => h_.1))) hb); have n3_ := Aside0.mk (blk_below (g := gb357) (o := .cells #[.int .u32 ((rd_T50 l2 x152_4).f0), .int .i64 ((rd_T50 l2 x152_4).f1)] 50 (0, 0)) (by (with_reducible repeat (first | refine blk_drewN ?_ _ | refine blk_drew ?_ | refine blk_alloc ?_ _)); refine blk_far ?_ NB357_363.out _; (with_reducible repeat (first | refine blk_drewN ?_ _ | refine blk_drew ?_ | refine blk_alloc ?_ _)); refine blk_far ?_ NB357_363.out _; (with_reducible repeat (first | refine blk_drewN ?_ _ | refine blk_drew ?_ | refine blk_alloc ?_ _)); exact BK357.out) hb); have n4_ := Aside0.mk (blk_below (g := gb363) (o := .cells #[.int .u32 ((rd_T50 t351 x176_6).f0), .int .i64 ((rd_T50 t351 x176_6).f1)] 50 (0, 0)) (by (with_reducible repeat (first | refine blk_drewN ?_ _ | refine blk_drew ?_ | refine blk_alloc ?_ _)); refine blk_put (cs := #[.int .u32 ((rd_T50 t351 x176_6).f0), .int .i64 0]) ?_ 1 _ rfl; (with_reducible repeat (first | refine blk_drewN ?_ _ | refine blk_drew ?_ | refine blk_alloc ?_ _)); refine blk_put (cs := #[.int .u32 0, .int .i64 0]) ?_ 0 _ rfl; (with_reducible repeat (first | refine blk_drewN ?_ _ | refine blk_drew ?_ | refine blk_alloc ?_ _)); exact BK363.out) hb); have n5_ := Aside0.mk (below_step (by repeat (first | (with_reducible first | exact HB.out | apply below_alloc | apply pw_below_drewN | apply below_drew1 | refine below_set ?_ GE357.out | refine below_set ?_ GE363.out) | exact HB.out)) hb); clear HO_16; clear HO_168; clear HO_174; clear BK357; clear BK363; clear HB; have HO_16 := n0_; have HO_168 := n1_; have HO_174 := n2_; have BK357 := n3_; have BK363 := n4_; have HB := n5_; clear n0_ n1_ n2_ n3_ n4_ n5_; (try clear hb); (try clear hb2); (try clear hk); (try clear hi)))
                                                              repeat (go_quiet (first | ((with_reducible refine gate_dst (N := 24) rfl ?_); (try (refine gate_guard (by rfl) ?_; dsimp only)); refine box_event ?hg (N := 24) ?hd (cs := #[.int .u32 0, .int .i64 0]) (t := 50) ?hr ?_; (case hd => rfl); (case hg => rfl); (case hr => first | (go_simp; done) | (go_simp; rfl)); intro gb363 hg w85 hbox hb; have n0_ := Aside0.mk (Kd.R_below (Kd.R_elderB (by (with_reducible repeat (first | apply Kd.R_alloc | apply Kd.R_drewN | apply Kd.R_drew)); exact HO_16.out) gb363 (Nat.le_of_eq hg.symm)) hb); have n1_ := Aside0.mk (Kd.R_below (by (with_reducible repeat (first | apply Kd.R_alloc | apply Kd.R_drewN | apply Kd.R_drew)); exact HO_168.out) hb); have n2_ := Aside0.mk (Kd.R_below (Kd.R_elderB (by (with_reducible repeat (first | apply Kd.R_alloc | apply Kd.R_drewN | apply Kd.R_drew)); exact HO_174.out) gb363 (Nat.le_of_eq hg.symm)) hb); have n3_ := Aside0.mk (blk_below (g := gb357) (o := .cells #[.int .u32 ((rd_T50 l2 x152_4).f0), .int .i64 ((rd_T50 l2 x152_4).f1)] 50 (0, 0)) (by (with_reducible repeat (first | refine blk_drewN ?_ _ | refine blk_drew ?_ | refine blk_alloc ?_ _)); exact BK357.out) hb); have n4_ := Aside0.mk (below_step (by repeat (first | (with_reducible first | exact HB.out | apply below_alloc | apply pw_below_drewN | apply below_drew1 | refine below_set ?_ GE357.out) | exact HB.out)) hb); have n5_ := Aside0.mk (hbox); have n6_ := Aside0.mk ((by rw [hg]; exact (below_size (by repeat (first | (with_reducible first | exact HB.out | apply below_alloc | apply pw_below_drewN | apply below_drew1 | refine below_set ?_ GE357.out) | exact HB.out))) : w.heap.size ≤ gb363)); have n7_ := Aside0.mk ((by rw [hg]; exact (below_size (by repeat (first | (with_reducible first | exact HB.out | apply below_alloc | apply pw_below_drewN | apply below_drew1 | refine below_set ?_ GE357.out) | exact HB.out))) : w.heap.size ≤ gb363)); have n8_ := Aside0.mk ((by rw [hg]; exact Nat.ne_of_lt (blk_lt (g := gb357) (o := .cells #[.int .u32 ((rd_T50 l2 x152_4).f0), .int .i64 ((rd_T50 l2 x152_4).f1)] 50 (0, 0)) (by (with_reducible repeat (first | refine blk_drewN ?_ _ | refine blk_drew ?_ | refine blk_alloc ?_ _)); exact BK357.out)) : gb357 ≠ gb363)); have n9_ := Aside0.mk ((by rw [hg]; exact Nat.ne_of_gt (blk_lt (g := gb357) (o := .cells #[.int .u32 ((rd_T50 l2 x152_4).f0), .int .i64 ((rd_T50 l2 x152_4).f1)] 50 (0, 0)) (by (with_reducible repeat (first | refine blk_drewN ?_ _ | refine blk_drew ?_ | refine blk_alloc ?_ _)); exact BK357.out)) : gb363 ≠ gb357)); clear HO_16; clear HO_168; clear HO_174; clear BK357; clear HB; have HO_16 := n0_; have HO_168 := n1_; have HO_174 := n2_; have BK357 := n3_; have HB := n4_; have BK363 := n5_; have GW363 := n6_; have GE363 := n7_; have NB357_363 := n8_; have NB363_357 := n9_; clear n0_ n1_ n2_ n3_ n4_ n5_ n6_ n7_ n8_ n9_; clear hb hbox hg; have hnb86 := NB363_357.out; have hnc86 := NB357_363.out; have hcz87_0 : w85.cell? ⟨gb363, 0, none⟩ = some (.int .u32 0) := (blk_cell BK363.out 0).trans rfl; have hcz87_1 : w85.cell? ⟨gb363, 1, none⟩ = some (.int .i64 0) := (blk_cell BK363.out 1).trans rfl; have hfz87_0 := blk_frozen BK363.out 0; have hfz87_1 := blk_frozen BK363.out 1) | (go_at_call 37; (with_reducible refine (four_Within.calls ((rd_T50 t351 x176_6).f0) ((rd_T50 t351 x176_6).f1) (rd y358 x170_5) false _ A79.out).mono ?_); rintro e w88 ⟨rfl, hb⟩; have n0_ := Aside0.mk (Kd.R_below (by (with_reducible repeat (first | apply Kd.R_alloc | apply Kd.R_drewN | apply Kd.R_drew)); exact (Kd.R_mono (Kd.R_far (p := ⟨gb363, 1, none⟩) (Kd.R_far (p := ⟨gb363, 0, none⟩) (Kd.R_mono HO_16.out (fun k_ hk => (⟨hk, hk.2⟩ : _ ∧ k_ ≠ gb363))) (fun _ hk => hk.2) (.int .u32 ((rd_T50 t351 x176_6).f0))) (fun _ hk => hk.2) (.int .i64 ((rd_T50 t351 x176_6).f1))) (fun _ h_ => h_.1))) hb); have n1_ := Aside0.mk (Kd.R_below (by (with_reducible repeat (first | apply Kd.R_alloc | apply Kd.R_drewN | apply Kd.R_drew)); exact (Kd.R_mono (Kd.R_far (p := ⟨gb363, 1, none⟩) (Kd.R_far (p := ⟨gb363, 0, none⟩) (Kd.R_types HO_168.out BK363.out (by decide)) (fun _ hk => hk.2) (.int .u32 ((rd_T50 t351 x176_6).f0))) (fun _ hk => hk.2) (.int .i64 ((rd_T50 t351 x176_6).f1))) (fun _ h_ => h_.1))) hb); have n2_ := Aside0.mk (Kd.R_below (by (with_reducible repeat (first | apply Kd.R_alloc | apply Kd.R_drewN | apply Kd.R_drew)); exact (Kd.R_mono (Kd.R_far (p := ⟨gb363, 1, none⟩) (Kd.R_far (p := ⟨gb363, 0, none⟩) (Kd.R_mono HO_174.out (fun k_ hk => (⟨hk, hk.2⟩ : _ ∧ k_ ≠ gb363))) (fun _ hk => hk.2) (.int .u32 ((rd_T50 t351 x176_6).f0))) (fun _ hk => hk.2) (.int .i64 ((rd_T50 t351 x176_6).f1))) (fun _ h_ => h_.1))) hb); have n3_ := Aside0.mk (blk_below (g := gb357) (o := .cells #[.int .u32 ((rd_T50 l2 x152_4).f0), .int .i64 ((rd_T50 l2 x152_4).f1)] 50 (0, 0)) (by (with_reducible repeat (first | refine blk_drewN ?_ _ | refine blk_drew ?_ | refine blk_alloc ?_ _)); refine blk_far ?_ NB357_363.out _; (with_reducible repeat (first | refine blk_drewN ?_ _ | refine blk_drew ?_ | refine blk_alloc ?_ _)); refine blk_far ?_ NB357_363.out _; (with_reducible repeat (first | refine blk_drewN ?_ _ | refine blk_drew ?_ | refine blk_alloc ?_ _)); exact BK357.out) hb); have n4_ := Aside0.mk (blk_below (g := gb363) (o := .cells #[.int .u32 ((rd_T50 t351 x176_6).f0), .int .i64 ((rd_T50 t351 x176_6).f1)] 50 (0, 0)) (by (with_reducible repeat (first | refine blk_drewN ?_ _ | refine blk_drew ?_ | refine blk_alloc ?_ _)); refine blk_put (cs := #[.int .u32 ((rd_T50 t351 x176_6).f0), .int .i64 0]) ?_ 1 _ rfl; (with_reducible repeat (first | refine blk_drewN ?_ _ | refine blk_drew ?_ | refine blk_alloc ?_ _)); refine blk_put (cs := #[.int .u32 0, .int .i64 0]) ?_ 0 _ rfl; (with_reducible repeat (first | refine blk_drewN ?_ _ | refine blk_drew ?_ | refine blk_alloc ?_ _)); exact BK363.out) hb); have n5_ := Aside0.mk (below_step (by repeat (first | (with_reducible first | exact HB.out | apply below_alloc | apply pw_below_drewN | apply below_drew1 | refine below_set ?_ GE357.out | refine below_set ?_ GE363.out) | exact HB.out)) hb); clear HO_16; clear HO_168; clear HO_174; clear BK357; clear BK363; clear HB; have HO_16 := n0_; have HO_168 := n1_; have HO_174 := n2_; have BK357 := n3_; have BK363 := n4_; have HB := n5_; clear n0_ n1_ n2_ n3_ n4_ n5_; (try clear hb); (try clear hb2); (try clear hk); (try clear hi))); try go_wp2_with (first | ((with_reducible refine gate_dst (N := 24) rfl ?_); (try (refine gate_guard (by rfl) ?_; dsimp only)); refine box_event ?hg (N := 24) ?hd (cs := #[.int .u32 0, .int .i64 0]) (t := 50) ?hr ?_; (case hd => rfl); (case hg => rfl); (case hr => first | (go_simp; done) | (go_simp; rfl)); intro gb363 hg w85 hbox hb; have n0_ := Aside0.mk (Kd.R_below (Kd.R_elderB (by (with_reducible repeat (first | apply Kd.R_alloc | apply Kd.R_drewN | apply Kd.R_drew)); exact HO_16.out) gb363 (Nat.le_of_eq hg.symm)) hb); have n1_ := Aside0.mk (Kd.R_below (by (with_reducible repeat (first | apply Kd.R_alloc | apply Kd.R_drewN | apply Kd.R_drew)); exact HO_168.out) hb); have n2_ := Aside0.mk (Kd.R_below (Kd.R_elderB (by (with_reducible repeat (first | apply Kd.R_alloc | apply Kd.R_drewN | apply Kd.R_drew)); exact HO_174.out) gb363 (Nat.le_of_eq hg.symm)) hb); have n3_ := Aside0.mk (blk_below (g := gb357) (o := .cells #[.int .u32 ((rd_T50 l2 x152_4).f0), .int .i64 ((rd_T50 l2 x152_4).f1)] 50 (0, 0)) (by (with_reducible repeat (first | refine blk_drewN ?_ _ | refine blk_drew ?_ | refine blk_alloc ?_ _)); exact BK357.out) hb); have n4_ := Aside0.mk (below_step (by repeat (first | (with_reducible first | exact HB.out | apply below_alloc | apply pw_below_drewN | apply below_drew1 | refine below_set ?_ GE357.out) | exact HB.out)) hb); have n5_ := Aside0.mk (hbox); have n6_ := Aside0.mk ((by rw [hg]; exact (below_size (by repeat (first | (with_reducible first | exact HB.out | apply below_alloc | apply pw_below_drewN | apply below_drew1 | refine below_set ?_ GE357.out) | exact HB.out))) : w.heap.size ≤ gb363)); have n7_ := Aside0.mk ((by rw [hg]; exact (below_size (by repeat (first | (with_reducible first | exact HB.out | apply below_alloc | apply pw_below_drewN | apply below_drew1 | refine below_set ?_ GE357.out) | exact HB.out))) : w.heap.size ≤ gb363)); have n8_ := Aside0.mk ((by rw [hg]; exact Nat.ne_of_lt (blk_lt (g := gb357) (o := .cells #[.int .u32 ((rd_T50 l2 x152_4).f0), .int .i64 ((rd_T50 l2 x152_4).f1)] 50 (0, 0)) (by (with_reducible repeat (first | refine blk_drewN ?_ _ | refine blk_drew ?_ | refine blk_alloc ?_ _)); exact BK357.out)) : gb357 ≠ gb363)); have n9_ := Aside0.mk ((by rw [hg]; exact Nat.ne_of_gt (blk_lt (g := gb357) (o := .cells #[.int .u32 ((rd_T50 l2 x152_4).f0), .int .i64 ((rd_T50 l2 x152_4).f1)] 50 (0, 0)) (by (with_reducible repeat (first | refine blk_drewN ?_ _ | refine blk_drew ?_ | refine blk_alloc ?_ _)); exact BK357.out)) : gb363 ≠ gb357)); clear HO_16; clear HO_168; clear HO_174; clear BK357; clear HB; have HO_16 := n0_; have HO_168 := n1_; have HO_174 := n2_; have BK357 := n3_; have HB := n4_; have BK363 := n5_; have GW363 := n6_; have GE363 := n7_; have NB357_363 := n8_; have NB363_357 := n9_; clear n0_ n1_ n2_ n3_ n4_ n5_ n6_ n7_ n8_ n9_; clear hb hbox hg; have hnb86 := NB363_357.out; have hnc86 := NB357_363.out; have hcz87_0 : w85.cell? ⟨gb363, 0, none⟩ = some (.int .u32 0) := (blk_cell BK363.out 0).trans rfl; have hcz87_1 : w85.cell? ⟨gb363, 1, none⟩ = some (.int .i64 0) := (blk_cell BK363.out 1).trans rfl; have hfz87_0 := blk_frozen BK363.out 0; have hfz87_1 := blk_frozen BK363.out 1) | (go_at_call 37; (with_reducible refine (four_Within.calls ((rd_T50 t351 x176_6).f0) ((rd_T50 t351 x176_6).f1) (rd y358 x170_5) false _ A79.out).mono ?_); rintro e w88 ⟨rfl, hb⟩; have n0_ := Aside0.mk (Kd.R_below (by (with_reducible repeat (first | apply Kd.R_alloc | apply Kd.R_drewN | apply Kd.R_drew)); exact (Kd.R_mono (Kd.R_far (p := ⟨gb363, 1, none⟩) (Kd.R_far (p := ⟨gb363, 0, none⟩) (Kd.R_mono HO_16.out (fun k_ hk => (⟨hk, hk.2⟩ : _ ∧ k_ ≠ gb363))) (fun _ hk => hk.2) (.int .u32 ((rd_T50 t351 x176_6).f0))) (fun _ hk => hk.2) (.int .i64 ((rd_T50 t351 x176_6).f1))) (fun _ h_ => h_.1))) hb); have n1_ := Aside0.mk (Kd.R_below (by (with_reducible repeat (first | apply Kd.R_alloc | apply Kd.R_drewN | apply Kd.R_drew)); exact (Kd.R_mono (Kd.R_far (p := ⟨gb363, 1, none⟩) (Kd.R_far (p := ⟨gb363, 0, none⟩) (Kd.R_types HO_168.out BK363.out (by decide)) (fun _ hk => hk.2) (.int .u32 ((rd_T50 t351 x176_6).f0))) (fun _ hk => hk.2) (.int .i64 ((rd_T50 t351 x176_6).f1))) (fun _ h_ => h_.1))) hb); have n2_ := Aside0.mk (Kd.R_below (by (with_reducible repeat (first | apply Kd.R_alloc | apply Kd.R_drewN | apply Kd.R_drew)); exact (Kd.R_mono (Kd.R_far (p := ⟨gb363, 1, none⟩) (Kd.R_far (p := ⟨gb363, 0, none⟩) (Kd.R_mono HO_174.out (fun k_ hk => (⟨hk, hk.2⟩ : _ ∧ k_ ≠ gb363))) (fun _ hk => hk.2) (.int .u32 ((rd_T50 t351 x176_6).f0))) (fun _ hk => hk.2) (.int .i64 ((rd_T50 t351 x176_6).f1))) (fun _ h_ => h_.1))) hb); have n3_ := Aside0.mk (blk_below (g := gb357) (o := .cells #[.int .u32 ((rd_T50 l2 x152_4).f0), .int .i64 ((rd_T50 l2 x152_4).f1)] 50 (0, 0)) (by (with_reducible repeat (first | refine blk_drewN ?_ _ | refine blk_drew ?_ | refine blk_alloc ?_ _)); refine blk_far ?_ NB357_363.out _; (with_reducible repeat (first | refine blk_drewN ?_ _ | refine blk_drew ?_ | refine blk_alloc ?_ _)); refine blk_far ?_ NB357_363.out _; (with_reducible repeat (first | refine blk_drewN ?_ _ | refine blk_drew ?_ | refine blk_alloc ?_ _)); exact BK357.out) hb); have n4_ := Aside0.mk (blk_below (g := gb363) (o := .cells #[.int .u32 ((rd_T50 t351 x176_6).f0), .int .i64 ((rd_T50 t351 x176_6).f1)] 50 (0, 0)) (by (with_reducible repeat (first | refine blk_drewN ?_ _ | refine blk_drew ?_ | refine blk_alloc ?_ _)); refine blk_put (cs := #[.int .u32 ((rd_T50 t351 x176_6).f0), .int .i64 0]) ?_ 1 _ rfl; (with_reducible repeat (first | refine blk_drewN ?_ _ | refine blk_drew ?_ | refine blk_alloc ?_ _)); refine blk_put (cs := #[.int .u32 0, .int .i64 0]) ?_ 0 _ rfl; (with_reducible repeat (first | refine blk_drewN ?_ _ | refine blk_drew ?_ | refine blk_alloc ?_ _)); exact BK363.out) hb); have n5_ := Aside0.mk (below_step (by repeat (first | (with_reducible first | exact HB.out | apply below_alloc | apply pw_below_drewN | apply below_drew1 | refine below_set ?_ GE357.out | refine below_set ?_ GE363.out) | exact HB.out)) hb); clear HO_16; clear HO_168; clear HO_174; clear BK357; clear BK363; clear HB; have HO_16 := n0_; have HO_168 := n1_; have HO_174 := n2_; have BK357 := n3_; have BK363 := n4_; have HB := n5_; clear n0_ n1_ n2_ n3_ n4_ n5_; (try clear hb); (try clear hb2); (try clear hk); (try clear hi))))
                                                              go_roundg k6
                                                              case measure => have := HK1.out; have := HJ46.out; have := HK3.out; have := HK4.out; have := HK5.out; have := HK6.out; omega
                                                              case rel => exact ⟨(x22_6), (wrap64 (x176_6 + 1)), (by first | rfl | (simp; done) | (simp [*]; done)), (by first | rfl | (simp; done) | (simp [*]; done)), H', ⟨by have := HK1.out; have := HJ46.out; have := HK3.out; have := HK4.out; have := HK5.out; have := HK6.out; omega⟩, ⟨by (with_reducible repeat (first | apply Kd.R_alloc | apply Kd.R_drewN | apply Kd.R_drew)); exact Kd.R_mono HO_16.out (fun _ hk => hk.1)⟩, ⟨by (with_reducible repeat (first | apply Kd.R_alloc | apply Kd.R_drewN | apply Kd.R_drew)); exact HO_168.out⟩, ⟨by (with_reducible repeat (first | apply Kd.R_alloc | apply Kd.R_drewN | apply Kd.R_drew)); exact Kd.R_mono HO_174.out (fun _ hk => hk.1)⟩, ⟨by (with_reducible repeat (first | refine blk_drewN ?_ _ | refine blk_drew ?_ | refine blk_alloc ?_ _)); exact BK357.out⟩, ⟨by repeat (first | (with_reducible first | exact HB.out | apply below_alloc | apply pw_below_drewN | apply below_drew1 | refine below_set ?_ GE357.out | refine below_set ?_ GE363.out) | exact HB.out)⟩⟩
                                                          · rw [if_neg c78] at H
                                                            exact absurd H (by simp)
                                                        · rw [if_neg c77] at H
                                                          exact absurd H (by simp)
                                                      · rw [if_neg c76] at H
                                                        have c76b0 : decide (x176_6 < (t351.length : Int)) = false := decide_eq_false c76
                                                        clear c76
                                                        by_cases c89 : x22_6 = 1
                                                        · rw [if_pos c89] at H
                                                          have c89b0 : (x22_6 == 1) = true := beq_iff_eq.mpr c89
                                                          have c89b1 : (x22_6 != 1) = false := bne_eq_false_iff_eq.mpr c89
                                                          clear c89
                                                          have H' := Aside0.mk H
                                                          clear H
                                                          go_wp2
                                                          repeat (go_quiet (fail); try go_wp2)
                                                          go_roundg k6
                                                          case measure => have := HK1.out; have := HJ46.out; have := HK3.out; have := HK4.out; have := HK5.out; have := HK6.out; omega
                                                          case rel => exact ⟨(wrap64 (x170_5 + 1)), (by first | rfl | (simp; done) | (simp [*]; done)), H', ⟨by have := HK1.out; have := HJ46.out; have := HK3.out; have := HK4.out; have := HK5.out; have := HK6.out; omega⟩, ⟨by (with_reducible repeat (first | apply Kd.R_alloc | apply Kd.R_drewN | apply Kd.R_drew)); exact HO_16.out⟩, ⟨by (with_reducible repeat (first | apply Kd.R_alloc | apply Kd.R_drewN | apply Kd.R_drew)); exact HO_168.out⟩, ⟨by (with_reducible repeat (first | refine blk_drewN ?_ _ | refine blk_drew ?_ | refine blk_alloc ?_ _)); exact BK357.out⟩, ⟨by repeat (first | (with_reducible first | exact HB.out | apply below_alloc | apply pw_below_drewN | apply below_drew1 | refine below_set ?_ GE357.out) | exact HB.out)⟩⟩
                                                        · rw [if_neg c89] at H
                                                          have c89b0 : (x22_6 == 1) = false := beq_eq_false_iff_ne.mpr c89
                                                          have c89b1 : (x22_6 != 1) = true := bne_iff_ne.mpr c89
                                                          obtain rfl := Option.some.inj H
                                                          go_wp2
                                                          repeat (go_quiet (fail); try go_wp2)
                                                          go_ret
                                                          exact ⟨by first | rfl | (simp [errW_none, errW_some] <;> rfl) | (simp only [← hji64, ← hji66]; first | rfl | (simp [errW_none, errW_some] <;> rfl)) | (simp [*, errW_none, errW_some] <;> rfl), by repeat (first | (with_reducible first | exact HB.out | apply below_alloc | apply pw_below_drewN | apply below_drew1 | refine below_set ?_ GE357.out) | exact HB.out)⟩
                                                · rw [if_neg c74] at H
                                                  exact absurd H (by simp)
                                              · rw [if_neg c73] at H
                                                exact absurd H (by simp)
                                            · rw [if_neg c72] at H
                                              have c72b0 : decide (x170_5 < (y358.length : Int)) = false := decide_eq_false c72
                                              clear c72
                                              have H' := Aside0.mk H
                                              clear H
                                              go_wp2
                                              repeat (go_quiet (fail); try go_wp2)
                                              go_roundg k5
                                              case measure => have := HK1.out; have := HJ46.out; have := HK3.out; have := HK4.out; have := HK5.out; omega
                                              case rel => exact ⟨(wrap64 (x152_4 + 1)), (by first | rfl | (simp; done) | (simp [*]; done)), H', ⟨by have := HK1.out; have := HJ46.out; have := HK3.out; have := HK4.out; have := HK5.out; omega⟩, ⟨by (with_reducible repeat (first | apply Kd.R_alloc | apply Kd.R_drewN | apply Kd.R_drew)); exact Kd.R_mono HO_16.out (fun _ hk => trivial)⟩, ⟨by repeat (first | (with_reducible first | exact HB.out | apply below_alloc | apply pw_below_drewN | apply below_drew1 | refine below_set ?_ GE357.out) | exact HB.out)⟩⟩
                                      · rw [if_neg c65] at H
                                        exact absurd H (by simp)
                                    · rw [if_neg c63] at H
                                      exact absurd H (by simp)
                                  · rw [if_neg c62] at H
                                    exact absurd H (by simp)
                                · rw [if_neg c61] at H
                                  have c61b0 : decide (x152_4 < (l2.length : Int)) = false := decide_eq_false c61
                                  clear c61
                                  obtain rfl := Option.some.inj H
                                  go_wp2
                                  repeat (go_quiet (fail); try go_wp2)
                                  go_ret
                                  exact ⟨by first | rfl | (simp [errW_none, errW_some] <;> rfl) | (simp [*, errW_none, errW_some] <;> rfl), by repeat (first | (with_reducible first | exact HB.out | apply below_alloc | apply pw_below_drewN | apply below_drew1) | exact HB.out)⟩
                          · rw [if_neg c59] at H
                            have c59b0 : (t353 == 0) = false := beq_eq_false_iff_ne.mpr c59
                            have c59b1 : (t353 != 0) = true := bne_iff_ne.mpr c59
                            obtain rfl := Option.some.inj H
                            go_wp2_with (first | (go_at_call 40; (with_reducible refine (four_Join.calls _ _ l2 t351 t352 t353 _ ?side1 ?side2 (GW.keep HG.out (by repeat (first | (with_reducible first | exact HB.out | apply below_alloc | apply pw_below_drewN | apply below_drew1) | exact HB.out | exact Below.refl _ _))) A58.out).mono ?_); (case side1 => repeat (first | exact (Kd.C_below HR2.out HB.out) | (with_reducible refine Kd.C_alloc ?_ _) | (with_reducible refine Kd.C_drewN ?_ _) | (with_reducible refine Kd.C_drew ?_))); (case side2 => exact HC2.out); rintro e w90 ⟨v354, rfl, ho0, hb⟩; have n0_ := Aside0.mk (Kd.R_elder' (by (with_reducible repeat (first | apply Kd.R_alloc | apply Kd.R_drewN | apply Kd.R_drew)); exact HO_7.out) (Kd.R_base ho0) hb); have n1_ := Aside0.mk (Kd.R_elder' (by (with_reducible repeat (first | apply Kd.R_alloc | apply Kd.R_drewN | apply Kd.R_drew)); exact HO_12.out) (Kd.R_base ho0) hb); have n2_ := Aside0.mk (Kd.R_lower (Kd.R_new' (Kd.R_new' ho0 (Kd.R_lt (by (with_reducible repeat (first | apply Kd.R_alloc | apply Kd.R_drewN | apply Kd.R_drew)); exact HO_7.out))) (Kd.R_lt (by (with_reducible repeat (first | apply Kd.R_alloc | apply Kd.R_drewN | apply Kd.R_drew)); exact HO_12.out))) (below_size (by repeat (first | (with_reducible first | exact HB.out | apply below_alloc | apply pw_below_drewN | apply below_drew1) | exact HB.out)))); have n3_ := Aside0.mk (below_step (by repeat (first | (with_reducible first | exact HB.out | apply below_alloc | apply pw_below_drewN | apply below_drew1) | exact HB.out)) hb); clear HO_7; clear HO_12; clear HB; have HO_7 := n0_; have HO_12 := n1_; have HO355 := n2_; have HB := n3_; clear n0_ n1_ n2_ n3_; (try clear hb); (try clear hb2); (try clear hk); (try clear hi); (try clear ho0); obtain ⟨Ao91, co91, eo91⟩ := Kd.R_slice HO355.out; subst eo91))
                            repeat (go_quiet (first | (go_at_call 40; (with_reducible refine (four_Join.calls _ _ l2 t351 t352 t353 _ ?side1 ?side2 (GW.keep HG.out (by repeat (first | (with_reducible first | exact HB.out | apply below_alloc | apply pw_below_drewN | apply below_drew1) | exact HB.out | exact Below.refl _ _))) A58.out).mono ?_); (case side1 => repeat (first | exact (Kd.C_below HR2.out HB.out) | (with_reducible refine Kd.C_alloc ?_ _) | (with_reducible refine Kd.C_drewN ?_ _) | (with_reducible refine Kd.C_drew ?_))); (case side2 => exact HC2.out); rintro e w90 ⟨v354, rfl, ho0, hb⟩; have n0_ := Aside0.mk (Kd.R_elder' (by (with_reducible repeat (first | apply Kd.R_alloc | apply Kd.R_drewN | apply Kd.R_drew)); exact HO_7.out) (Kd.R_base ho0) hb); have n1_ := Aside0.mk (Kd.R_elder' (by (with_reducible repeat (first | apply Kd.R_alloc | apply Kd.R_drewN | apply Kd.R_drew)); exact HO_12.out) (Kd.R_base ho0) hb); have n2_ := Aside0.mk (Kd.R_lower (Kd.R_new' (Kd.R_new' ho0 (Kd.R_lt (by (with_reducible repeat (first | apply Kd.R_alloc | apply Kd.R_drewN | apply Kd.R_drew)); exact HO_7.out))) (Kd.R_lt (by (with_reducible repeat (first | apply Kd.R_alloc | apply Kd.R_drewN | apply Kd.R_drew)); exact HO_12.out))) (below_size (by repeat (first | (with_reducible first | exact HB.out | apply below_alloc | apply pw_below_drewN | apply below_drew1) | exact HB.out)))); have n3_ := Aside0.mk (below_step (by repeat (first | (with_reducible first | exact HB.out | apply below_alloc | apply pw_below_drewN | apply below_drew1) | exact HB.out)) hb); clear HO_7; clear HO_12; clear HB; have HO_7 := n0_; have HO_12 := n1_; have HO355 := n2_; have HB := n3_; clear n0_ n1_ n2_ n3_; (try clear hb); (try clear hb2); (try clear hk); (try clear hi); (try clear ho0); obtain ⟨Ao91, co91, eo91⟩ := Kd.R_slice HO355.out; subst eo91)); try go_wp2_with (first | (go_at_call 40; (with_reducible refine (four_Join.calls _ _ l2 t351 t352 t353 _ ?side1 ?side2 (GW.keep HG.out (by repeat (first | (with_reducible first | exact HB.out | apply below_alloc | apply pw_below_drewN | apply below_drew1) | exact HB.out | exact Below.refl _ _))) A58.out).mono ?_); (case side1 => repeat (first | exact (Kd.C_below HR2.out HB.out) | (with_reducible refine Kd.C_alloc ?_ _) | (with_reducible refine Kd.C_drewN ?_ _) | (with_reducible refine Kd.C_drew ?_))); (case side2 => exact HC2.out); rintro e w90 ⟨v354, rfl, ho0, hb⟩; have n0_ := Aside0.mk (Kd.R_elder' (by (with_reducible repeat (first | apply Kd.R_alloc | apply Kd.R_drewN | apply Kd.R_drew)); exact HO_7.out) (Kd.R_base ho0) hb); have n1_ := Aside0.mk (Kd.R_elder' (by (with_reducible repeat (first | apply Kd.R_alloc | apply Kd.R_drewN | apply Kd.R_drew)); exact HO_12.out) (Kd.R_base ho0) hb); have n2_ := Aside0.mk (Kd.R_lower (Kd.R_new' (Kd.R_new' ho0 (Kd.R_lt (by (with_reducible repeat (first | apply Kd.R_alloc | apply Kd.R_drewN | apply Kd.R_drew)); exact HO_7.out))) (Kd.R_lt (by (with_reducible repeat (first | apply Kd.R_alloc | apply Kd.R_drewN | apply Kd.R_drew)); exact HO_12.out))) (below_size (by repeat (first | (with_reducible first | exact HB.out | apply below_alloc | apply pw_below_drewN | apply below_drew1) | exact HB.out)))); have n3_ := Aside0.mk (below_step (by repeat (first | (with_reducible first | exact HB.out | apply below_alloc | apply pw_below_drewN | apply below_drew1) | exact HB.out)) hb); clear HO_7; clear HO_12; clear HB; have HO_7 := n0_; have HO_12 := n1_; have HO355 := n2_; have HB := n3_; clear n0_ n1_ n2_ n3_; (try clear hb); (try clear hb2); (try clear hk); (try clear hi); (try clear ho0); obtain ⟨Ao91, co91, eo91⟩ := Kd.R_slice HO355.out; subst eo91)))
                            go_ret
                            exact ⟨by first | rfl | (simp [errW_none, errW_some] <;> rfl) | (simp [*, errW_none, errW_some] <;> rfl), by repeat (first | (with_reducible first | exact HB.out | apply below_alloc | apply pw_below_drewN | apply below_drew1) | exact HB.out)⟩
            · rw [if_neg c45] at H
              have c45b0 : (x8_1 == (IntKind.u64.wrap ((IntKind.u64.wrap (a1)) + 1))) = false := beq_eq_false_iff_ne.mpr c45
              have c45b1 : (x8_1 != (IntKind.u64.wrap ((IntKind.u64.wrap (a1)) + 1))) = true := bne_iff_ne.mpr c45
              obtain rfl := Option.some.inj H
              go_wp2
              repeat (go_quiet (fail); try go_wp2)
              go_ret
              exact ⟨by first | rfl | (simp [errW_none, errW_some] <;> rfl) | (simp [*, errW_none, errW_some] <;> rfl), by repeat (first | (with_reducible first | exact HB.out | apply below_alloc | apply pw_below_drewN | apply below_drew1) | exact HB.out)⟩
  · replace c5 := Bool.eq_false_iff.mpr c5
    subst c5
    have H1 : (some false) = some r := by rw [if_neg (show ¬ (false = true) by decide)] at H; exact H
    clear H
    have H := H1
    clear H1
    obtain rfl := Option.some.inj H
    go_enter Tryd.func10, Tryd.ntmps10
    go_wp2_with (first | (go_at_call 11; (with_reducible refine (posternlaw20_awake.calls k  false _ (GW.keep HG.out (by repeat (first | (with_reducible first | exact HB.out | apply below_alloc | apply pw_below_drewN | apply below_drew1) | exact HB.out | exact Below.refl _ _))) A4.out).mono ?_); rintro e w92 ⟨rfl, hb⟩; have n0_ := Aside0.mk (below_step (by repeat (first | (with_reducible first | exact HB.out | apply below_alloc | apply pw_below_drewN | apply below_drew1) | exact HB.out)) hb); clear HB; have HB := n0_; clear n0_; (try clear hb); (try clear hb2); (try clear hk); (try clear hi)))
    repeat (go_quiet (first | (go_at_call 11; (with_reducible refine (posternlaw20_awake.calls k  false _ (GW.keep HG.out (by repeat (first | (with_reducible first | exact HB.out | apply below_alloc | apply pw_below_drewN | apply below_drew1) | exact HB.out | exact Below.refl _ _))) A4.out).mono ?_); rintro e w92 ⟨rfl, hb⟩; have n0_ := Aside0.mk (below_step (by repeat (first | (with_reducible first | exact HB.out | apply below_alloc | apply pw_below_drewN | apply below_drew1) | exact HB.out)) hb); clear HB; have HB := n0_; clear n0_; (try clear hb); (try clear hb2); (try clear hk); (try clear hi))); try go_wp2_with (first | (go_at_call 11; (with_reducible refine (posternlaw20_awake.calls k  false _ (GW.keep HG.out (by repeat (first | (with_reducible first | exact HB.out | apply below_alloc | apply pw_below_drewN | apply below_drew1) | exact HB.out | exact Below.refl _ _))) A4.out).mono ?_); rintro e w92 ⟨rfl, hb⟩; have n0_ := Aside0.mk (below_step (by repeat (first | (with_reducible first | exact HB.out | apply below_alloc | apply pw_below_drewN | apply below_drew1) | exact HB.out)) hb); clear HB; have HB := n0_; clear n0_; (try clear hb); (try clear hb2); (try clear hk); (try clear hi))))
    go_ret
    exact ⟨by first | rfl | (simp [errW_none, errW_some] <;> rfl) | (simp [*, errW_none, errW_some] <;> rfl), by repeat (first | (with_reducible first | exact HB.out | apply below_alloc | apply pw_below_drewN | apply below_drew1) | exact HB.out)⟩
end Go.Proofs.YtgnahagnmodpdaaDoor.X
