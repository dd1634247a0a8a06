/- Several texts in one (wip/gen/pack.py): X9 X13 FourPreB FourC FourPrefixes Frame FourOpen FourPrefixesCard. -/
import Derived.Shelf.Spec.TrailingZeros
import Derived.Test.YtgnahagnmodpdaaDoorPFQ0
import Derived.Test.YtgnahagnmodpdaaDoorPFQ1
import Derived.OpenShut
import Derived.ProofKit
import Derived.ChangeMaps5
import Derived.Deep.DeepHandedRow
import Derived.LaidSub
import Derived.Lib.LaidTab
import Derived.Test.YtgnahagnmodpdaaDoorCards
import Derived.Test.YtgnahagnmodpdaaDoorTie
/-! X9 -/
namespace Go.Proofs.YtgnahagnmodpdaaDoor.X
open Go.RowKit Go.Proofs.YtgnahagnmodpdaaDoorW.PrintWords Go.Proofs.YtgnahagnmodpdaaDoorW.PrintLast Go.Proofs.YtgnahagnmodpdaaDoorW.PrintMore
attribute [local go_sem] max2_int min2_int max_two min_two max_three min_three max_four min_four
set_option linter.unusedVariables false
set_option linter.unusedSimpArgs false
def four_PrintPrefix.f (a0_0 : Int) (a0_1 : Int) : Option (ByteArray × Int) := (four_is.f a0_0 a0_1).bind fun t274 => (if t274 = true then ((four_Print.f a0_0).bind fun t275 => (if t275.size + 1 ≤ 9223372036854775807 then ((strconv_Itoa.f a0_1).bind fun t276 => (if (t275 ++ (⟨#[47]⟩ : ByteArray)).size + t276.size ≤ 9223372036854775807 then (some ((t275 ++ (⟨#[47]⟩ : ByteArray)) ++ t276, 0)) else (none))) else (none))) else (some ((⟨#[]⟩ : ByteArray), 204)))
def four_PrintPrefix.T3 : Bool × List (List Nat × List Nat) := (true, [([], []), ([0], [0]), ([1], [1]), ([2], [2]), ([], []), ([4], [4]), ([5, 2], [5]), ([3, 6], [3, 6]), ([7, 6, 0, 1, 2, 3, 4, 5, 6, 7], [7]), ([8, 0, 1, 2, 3, 4, 5, 6, 7, 8], [])])
def four_PrintPrefix.B3 : List Nat := [0, 1, 3, 7, 0, 16, 55, 127, 255, 511]
theorem four_PrintPrefix.tab3 : rtab .any (opsOf Tryd.f32 3) = four_PrintPrefix.T3 := by kernel_rfl
theorem four_PrintPrefix.bits3 : waitsOk four_PrintPrefix.T3.2 four_PrintPrefix.B3 = true := by kernel_rfl
set_option maxHeartbeats 8000000 in
set_option maxRecDepth 100000 in
theorem four_PrintPrefix.calls (a0_0 : Int) (a0_1 : Int) (r1 : ByteArray) (r2 : Int) (w : World) (hG : GW w) (h : four_PrintPrefix.f a0_0 a0_1 = some (r1, r2)) :
    Calls Tryd.prog 32 #[.agg #[.int .u32 a0_0, .int .i64 a0_1]] w fun e w' => e = .returned (.tuple #[.string r1, .int .i64 r2]) ∧ Below w.heap.size w w' := by
  have hu50 := Tryd.underlying50
  have HG := Aside0.mk hG
  clear hG
  have HB := Aside0.mk (Below.refl w.heap.size w)
  have H : ((four_is.f a0_0 a0_1).bind fun t274 => (if t274 = true then ((four_Print.f a0_0).bind fun t275 => (if t275.size + 1 ≤ 9223372036854775807 then ((strconv_Itoa.f a0_1).bind fun t276 => (if (t275 ++ (⟨#[47]⟩ : ByteArray)).size + t276.size ≤ 9223372036854775807 then (some ((t275 ++ (⟨#[47]⟩ : ByteArray)) ++ t276, 0)) else (none))) else (none))) else (some ((⟨#[]⟩ : ByteArray), 204)))) = some (r1, r2) := h
  clear h
  replace H := Option.bind_eq_some_iff.mp H
  obtain ⟨t274, A20, H⟩ := H
  replace H : (if t274 = true then ((four_Print.f a0_0).bind fun t275 => (if t275.size + 1 ≤ 9223372036854775807 then ((strconv_Itoa.f a0_1).bind fun t276 => (if (t275 ++ (⟨#[47]⟩ : ByteArray)).size + t276.size ≤ 9223372036854775807 then (some ((t275 ++ (⟨#[47]⟩ : ByteArray)) ++ t276, 0)) else (none))) else (none))) else (some ((⟨#[]⟩ : ByteArray), 204))) = some (r1, r2) := H
  have A2 := Aside0.mk A20
  clear A20
  by_cases c3 : t274 = true
  · subst c3
    have H1 : ((four_Print.f a0_0).bind fun t275 => (if t275.size + 1 ≤ 9223372036854775807 then ((strconv_Itoa.f a0_1).bind fun t276 => (if (t275 ++ (⟨#[47]⟩ : ByteArray)).size + t276.size ≤ 9223372036854775807 then (some ((t275 ++ (⟨#[47]⟩ : ByteArray)) ++ t276, 0)) else (none))) else (none))) = some (r1, r2) := by rw [if_pos rfl] at H; exact H
    clear H
    have H := H1
    clear H1
    replace H := Option.bind_eq_some_iff.mp H
    obtain ⟨t275, A40, H⟩ := H
    replace H : (if t275.size + 1 ≤ 9223372036854775807 then ((strconv_Itoa.f a0_1).bind fun t276 => (if (t275 ++ (⟨#[47]⟩ : ByteArray)).size + t276.size ≤ 9223372036854775807 then (some ((t275 ++ (⟨#[47]⟩ : ByteArray)) ++ t276, 0)) else (none))) else (none)) = some (r1, r2) := H
    have A4 := Aside0.mk A40
    clear A40
    by_cases c5 : t275.size + 1 ≤ 9223372036854775807
    · rw [if_pos c5] at H
      have c5b0 := eq_true c5
      have c5b1 : decide (t275.size + 1 ≤ 9223372036854775807) = true := decide_eq_true c5
      try have c5b2 : (9223372036854775807 < t275.size + 1) = False := eq_false (Nat.not_lt.2 c5)
      replace H := Option.bind_eq_some_iff.mp H
      obtain ⟨t276, A60, H⟩ := H
      replace H : (if (t275 ++ (⟨#[47]⟩ : ByteArray)).size + t276.size ≤ 9223372036854775807 then (some ((t275 ++ (⟨#[47]⟩ : ByteArray)) ++ t276, 0)) else (none)) = some (r1, r2) := H
      have A6 := Aside0.mk A60
      clear A60
      by_cases c7 : (t275 ++ (⟨#[47]⟩ : ByteArray)).size + t276.size ≤ 9223372036854775807
      · rw [if_pos c7] at H
        have c7b0 := eq_true c7
        have c7b1 : decide ((t275 ++ (⟨#[47]⟩ : ByteArray)).size + t276.size ≤ 9223372036854775807) = true := decide_eq_true c7
        try have c7b2 : (9223372036854775807 < (t275 ++ (⟨#[47]⟩ : ByteArray)).size + t276.size) = False := eq_false (Nat.not_lt.2 c7)
        try have c7b3 : (9223372036854775807 < t275.size + 1 + t276.size) = False := eq_false (Nat.not_lt.2 (by have h_ := c7; rw [ByteArray.size_append] at h_; exact h_))
        simp only [Option.some.injEq, Prod.mk.injEq] at H
        obtain ⟨rfl, rfl⟩ := H
        go_enter Tryd.func32, Tryd.ntmps32
        try go_wp2_with (first | ((with_reducible refine gate_dst (N := 1) rfl ?_); refine box_event ?hg (N := 1) ?hd (cs := #[.int .u32 a0_0, .int .i64 a0_1]) (t := 50) ?hr ?_; (case hd => rfl); (case hg => rfl); (case hr => first | (go_simp; done) | (go_simp; rfl)); intro gb273 hg w8 hbox hb; have n0_ := Aside0.mk (below_step (by repeat (first | (with_reducible first | exact HB.out | apply below_alloc | apply pw_below_drewN | apply below_drew1) | exact HB.out)) hb); have n1_ := Aside0.mk (hbox); have n2_ := Aside0.mk ((by rw [hg]; exact (below_size (by repeat (first | (with_reducible first | exact HB.out | apply below_alloc | apply pw_below_drewN | apply below_drew1) | exact HB.out))) : w.heap.size ≤ gb273)); have n3_ := Aside0.mk ((by rw [hg]; exact (below_size (by repeat (first | (with_reducible first | exact HB.out | apply below_alloc | apply pw_below_drewN | apply below_drew1) | exact HB.out))) : w.heap.size ≤ gb273)); clear HB; have HB := n0_; have BK273 := n1_; have GW273 := n2_; have GE273 := n3_; clear n0_ n1_ n2_ n3_; clear hb hbox hg; have hcz9_0 : w8.cell? ⟨gb273, 0, none⟩ = some (.int .u32 a0_0) := (blk_cell BK273.out 0).trans rfl; have hcz9_1 : w8.cell? ⟨gb273, 1, none⟩ = some (.int .i64 a0_1) := (blk_cell BK273.out 1).trans rfl; have hfz9_0 := blk_frozen BK273.out 0; have hfz9_1 := blk_frozen BK273.out 1) | ((with_reducible refine gate_callee (f := 52) rfl ?_); refine goesL_ (some 5) rfl rfl Tryd.func52 (by kernel_rfl) rfl #[.agg #[.int .u32 a0_0, .int .i64 a0_1]] rfl (by (try simp only [List.map_toArray, List.map_cons, List.map_nil]); first | done | rfl | (simp only [List.length_drop, List.length_take]; rfl)) ?_; (with_reducible refine (four_is.calls a0_0 a0_1 true _ A2.out).mono ?_); rintro e w10 ⟨rfl, hb⟩; refine ⟨_, rfl, ?_⟩; have n0_ := Aside0.mk (blk_below (g := gb273) (o := .cells #[.int .u32 a0_0, .int .i64 a0_1] 50 (0, 0)) (by (with_reducible repeat (first | refine blk_drewN ?_ _ | refine blk_drew ?_ | refine blk_alloc ?_ _)); exact BK273.out) hb); have n1_ := Aside0.mk (below_step (by repeat (first | (with_reducible first | exact HB.out | apply below_alloc | apply pw_below_drewN | apply below_drew1 | refine below_set ?_ GE273.out) | exact HB.out)) hb); clear BK273; clear HB; have BK273 := n0_; have HB := n1_; clear n0_ n1_; (try clear hb); (try clear hb2); (try clear hk); (try clear hi)))
        have n0_ := Aside0.mk (blk_drew BK273.out)
        have n1_ := Aside0.mk (below_drew1 HB.out)
        clear BK273
        clear HB
        have BK273 := n0_
        have HB := n1_
        clear n0_ n1_
        refine start_ (n := 10) (S := fun w' => w'.cell? ⟨gb273, 0, none⟩ = some (.int .u32 a0_0) ∧ w'.cell? ⟨gb273, 1, none⟩ = some (.int .i64 a0_1)) (ds := []) #[false, false, false, false, false, false, false, false, false, false] (by kernel_rfl) rfl rfl ⟨(blk_cell BK273.out 0).trans rfl, (blk_cell BK273.out 1).trans rfl⟩ (fun hHeld => ?_); refine with_tabW four_PrintPrefix.tab3 four_PrintPrefix.bits3 (fun HT_ HW_ => ?_)
        generalize w10.drew = w11 at BK273 HB hHeld ⊢
        refine pure_ (i := 0) (N := some 7) (v := ?_) (a' := ?_) #[true, false, false, false, false, false, false, false, false, false] rfl rfl (any_of HT_.out (by kernel_rfl)) (fun _ _ _ h => h) (Or.inl ⟨by rfl, ?_⟩) ?_ ?_
        rotate_left
        · intro w'
          go_simp
          with_reducible rfl
        rotate_left
        · simp only [Act.put, List.setIfInBounds_toArray, List.set_cons_zero, List.set_cons_succ, i64_w, i32_w]
          rfl
        refine pure_ (i := 4) (N := some 11) (v := ?_) (a' := ?_) #[true, false, false, false, true, false, false, false, false, false] rfl rfl (any_of HT_.out (by kernel_rfl)) (fun _ _ _ h => h) (Or.inl ⟨by rfl, ?_⟩) ?_ ?_
        rotate_left
        · intro w'
          go_simp
          with_reducible rfl
        rotate_left
        · simp only [Act.put, List.setIfInBounds_toArray, List.set_cons_zero, List.set_cons_succ, i64_w, i32_w]
          rfl
        refine take_ (i := 1) (N := some 8) (v := ?_) (a' := ?_) #[true, true, false, false, true, false, false, false, false, false] rfl rfl (take_ofW HT_.out HW_.out (by kernel_rfl)) (fun _ _ _ h => h) (Or.inl ⟨by rfl, ?_⟩) hHeld ?_ ?_
        rotate_left
        · rintro w' ⟨s0, s1⟩
          go_simp
          with_reducible rfl
        rotate_left
        · simp only [Act.put, List.setIfInBounds_toArray, List.set_cons_zero, List.set_cons_succ, i64_w, i32_w]
          rfl
        refine take_ (i := 5) (N := some 12) (v := ?_) (a' := ?_) #[true, true, false, false, true, true, false, false, false, false] rfl rfl (take_ofW HT_.out HW_.out (by kernel_rfl)) (fun _ _ _ h => h) (Or.inl ⟨by rfl, ?_⟩) hHeld ?_ ?_
        rotate_left
        · rintro w' ⟨s0, s1⟩
          go_simp
          with_reducible rfl
        rotate_left
        · simp only [Act.put, List.setIfInBounds_toArray, List.set_cons_zero, List.set_cons_succ, i64_w, i32_w]
          rfl
        refine one_ (i := 2) (N := some 9) #[true, true, true, false, true, true, false, false, false, false] rfl rfl (one_of HT_.out (by kernel_rfl)) (by decide) (fun K hK => ?_)
        refine goes_ Tryd.func23 (by kernel_rfl) rfl #[.int .u32 a0_0] (by rfl) rfl rfl (by (try simp only [List.map_toArray, List.map_cons, List.map_nil]); first | done | rfl | (simp only [List.length_drop, List.length_take]; rfl)) ?_
        with_reducible refine (four_Print.calls a0_0 t275 _ (GW.keep HG.out (by repeat (first | (with_reducible first | exact HB.out | apply below_alloc | apply pw_below_drewN | apply below_drew1) | exact HB.out | exact Below.refl _ _))) A4.out).mono ?_
        rintro e w12 ⟨rfl, hb⟩
        refine ⟨_, rfl, ?_⟩
        have n0_ := Aside0.mk (blk_below (g := gb273) (o := .cells #[.int .u32 a0_0, .int .i64 a0_1] 50 (0, 0)) (by (with_reducible repeat (first | refine blk_drewN ?_ _ | refine blk_drew ?_ | refine blk_alloc ?_ _)); exact BK273.out) hb)
        have n1_ := Aside0.mk (below_step (by repeat (first | (with_reducible first | exact HB.out | apply below_alloc | apply pw_below_drewN | apply below_drew1 | refine below_set ?_ GE273.out) | exact HB.out)) hb)
        clear BK273
        clear HB
        have BK273 := n0_
        have HB := n1_
        clear n0_ n1_
        (try clear hb)
        (try clear hb2)
        (try clear hk)
        (try clear hi)
        refine hK.out _ _ ⟨(blk_cell BK273.out 0).trans rfl, (blk_cell BK273.out 1).trans rfl⟩ (fun hHeld => ?_)
        clear hK K
        refine norm_ (a' := ?_) ?_ ?_
        rotate_left
        · show Act.put _ (some 9) _ = _
          simp only [Act.put, List.setIfInBounds_toArray, List.set_cons_zero, List.set_cons_succ, i64_w, i32_w]
          rfl
        refine pure_ (i := 3) (N := some 10) (v := ?_) (a' := ?_) #[true, true, true, true, true, true, false, false, false, false] rfl rfl (any_of HT_.out (by kernel_rfl)) (fun _ _ _ h => h) (Or.inl ⟨by rfl, ?_⟩) ?_ ?_
        rotate_left
        · intro w'
          go_simp
          with_reducible rfl
        rotate_left
        · simp only [Act.put, List.setIfInBounds_toArray, List.set_cons_zero, List.set_cons_succ, i64_w, i32_w]
          rfl
        refine one_ (i := 6) (N := some 13) #[true, true, true, true, true, true, true, false, false, false] rfl rfl (one_of HT_.out (by kernel_rfl)) (by decide) (fun K hK => ?_)
        refine goes_ Tryd.func46 (by kernel_rfl) rfl #[.int .i64 a0_1] (by rfl) rfl rfl (by (try simp only [List.map_toArray, List.map_cons, List.map_nil]); first | done | rfl | (simp only [List.length_drop, List.length_take]; rfl)) ?_
        with_reducible refine (strconv_Itoa.calls a0_1 t276 _ (GW.keep HG.out (by repeat (first | (with_reducible first | exact HB.out | apply below_alloc | apply pw_below_drewN | apply below_drew1) | exact HB.out | exact Below.refl _ _))) A6.out).mono ?_
        rintro e w13 ⟨rfl, hb⟩
        refine ⟨_, rfl, ?_⟩
        have n0_ := Aside0.mk (blk_below (g := gb273) (o := .cells #[.int .u32 a0_0, .int .i64 a0_1] 50 (0, 0)) (by (with_reducible repeat (first | refine blk_drewN ?_ _ | refine blk_drew ?_ | refine blk_alloc ?_ _)); exact BK273.out) hb)
        have n1_ := Aside0.mk (below_step (by repeat (first | (with_reducible first | exact HB.out | apply below_alloc | apply pw_below_drewN | apply below_drew1 | refine below_set ?_ GE273.out) | exact HB.out)) hb)
        clear BK273
        clear HB
        have BK273 := n0_
        have HB := n1_
        clear n0_ n1_
        (try clear hb)
        (try clear hb2)
        (try clear hk)
        (try clear hi)
        refine hK.out _ _ ⟨(blk_cell BK273.out 0).trans rfl, (blk_cell BK273.out 1).trans rfl⟩ (fun hHeld => ?_)
        clear hK K
        refine norm_ (a' := ?_) ?_ ?_
        rotate_left
        · show Act.put _ (some 13) _ = _
          simp only [Act.put, List.setIfInBounds_toArray, List.set_cons_zero, List.set_cons_succ, i64_w, i32_w]
          rfl
        refine pure_ (i := 7) (N := some 14) (v := ?_) (a' := ?_) #[true, true, true, true, true, true, true, true, false, false] rfl rfl (any_of HT_.out (by kernel_rfl)) (fun _ _ _ h => h) (Or.inl ⟨by rfl, ?_⟩) ?_ ?_
        rotate_left
        · intro w'
          go_simp
          with_reducible rfl
        rotate_left
        · simp only [Act.put, List.setIfInBounds_toArray, List.set_cons_zero, List.set_cons_succ, i64_w, i32_w]
          rfl
        refine pure_ (i := 8) (N := some 2) (v := ?_) (a' := ?_) #[true, true, true, true, true, true, true, true, true, false] rfl rfl (any_of HT_.out (by kernel_rfl)) (fun _ _ _ h => h) (Or.inl ⟨by rfl, ?_⟩) ?_ ?_
        rotate_left
        · intro w'
          go_simp
          with_reducible rfl
        rotate_left
        · simp only [Act.put, List.setIfInBounds_toArray, List.set_cons_zero, List.set_cons_succ, i64_w, i32_w]
          rfl
        refine pure_ (i := 9) (N := some 3) (v := ?_) (a' := ?_) #[true, true, true, true, true, true, true, true, true, true] rfl rfl (any_of HT_.out (by kernel_rfl)) (fun _ _ _ h => h) (Or.inl ⟨by rfl, ?_⟩) ?_ ?_
        rotate_left
        · intro w'
          go_simp
          with_reducible rfl
        rotate_left
        · simp only [Act.put, List.setIfInBounds_toArray, List.set_cons_zero, List.set_cons_succ, i64_w, i32_w]
          rfl
        refine done_ (done_of HT_.out (by kernel_rfl)) ?_
        try go_wp2
        go_ret2
        exact ⟨by first | rfl | (simp [errW_none, errW_some] <;> rfl) | (simp [*, errW_none, errW_some] <;> rfl), by repeat (first | (with_reducible first | exact HB.out | apply below_alloc | apply pw_below_drewN | apply below_drew1 | refine below_set ?_ GE273.out) | exact HB.out)⟩
      · rw [if_neg c7] at H
        exact absurd H (by simp)
    · rw [if_neg c5] at H
      exact absurd H (by simp)
  · replace c3 := Bool.eq_false_iff.mpr c3
    subst c3
    have H1 : (some ((⟨#[]⟩ : ByteArray), 204)) = some (r1, r2) := by rw [if_neg (show ¬ (false = true) by decide)] at H; exact H
    clear H
    have H := H1
    clear H1
    simp only [Option.some.injEq, Prod.mk.injEq] at H
    obtain ⟨rfl, rfl⟩ := H
    go_enter Tryd.func32, Tryd.ntmps32
    go_wp2_with (first | ((with_reducible refine gate_dst (N := 1) rfl ?_); refine box_event ?hg (N := 1) ?hd (cs := #[.int .u32 a0_0, .int .i64 a0_1]) (t := 50) ?hr ?_; (case hd => rfl); (case hg => rfl); (case hr => first | (go_simp; done) | (go_simp; rfl)); intro gb273 hg w14 hbox hb; have n0_ := Aside0.mk (below_step (by repeat (first | (with_reducible first | exact HB.out | apply below_alloc | apply pw_below_drewN | apply below_drew1) | exact HB.out)) hb); have n1_ := Aside0.mk (hbox); have n2_ := Aside0.mk ((by rw [hg]; exact (below_size (by repeat (first | (with_reducible first | exact HB.out | apply below_alloc | apply pw_below_drewN | apply below_drew1) | exact HB.out))) : w.heap.size ≤ gb273)); have n3_ := Aside0.mk ((by rw [hg]; exact (below_size (by repeat (first | (with_reducible first | exact HB.out | apply below_alloc | apply pw_below_drewN | apply below_drew1) | exact HB.out))) : w.heap.size ≤ gb273)); clear HB; have HB := n0_; have BK273 := n1_; have GW273 := n2_; have GE273 := n3_; clear n0_ n1_ n2_ n3_; clear hb hbox hg; have hcz15_0 : w14.cell? ⟨gb273, 0, none⟩ = some (.int .u32 a0_0) := (blk_cell BK273.out 0).trans rfl; have hcz15_1 : w14.cell? ⟨gb273, 1, none⟩ = some (.int .i64 a0_1) := (blk_cell BK273.out 1).trans rfl; have hfz15_0 := blk_frozen BK273.out 0; have hfz15_1 := blk_frozen BK273.out 1) | ((with_reducible refine gate_callee (f := 52) rfl ?_); refine goesL_ (some 5) rfl rfl Tryd.func52 (by kernel_rfl) rfl #[.agg #[.int .u32 a0_0, .int .i64 a0_1]] rfl (by (try simp only [List.map_toArray, List.map_cons, List.map_nil]); first | done | rfl | (simp only [List.length_drop, List.length_take]; rfl)) ?_; (with_reducible refine (four_is.calls a0_0 a0_1 false _ A2.out).mono ?_); rintro e w16 ⟨rfl, hb⟩; refine ⟨_, rfl, ?_⟩; have n0_ := Aside0.mk (blk_below (g := gb273) (o := .cells #[.int .u32 a0_0, .int .i64 a0_1] 50 (0, 0)) (by (with_reducible repeat (first | refine blk_drewN ?_ _ | refine blk_drew ?_ | refine blk_alloc ?_ _)); exact BK273.out) hb); have n1_ := Aside0.mk (below_step (by repeat (first | (with_reducible first | exact HB.out | apply below_alloc | apply pw_below_drewN | apply below_drew1 | refine below_set ?_ GE273.out) | exact HB.out)) hb); clear BK273; clear HB; have BK273 := n0_; have HB := n1_; clear n0_ n1_; (try clear hb); (try clear hb2); (try clear hk); (try clear hi)))
    go_ret2
    exact ⟨by first | rfl | (simp [errW_none, errW_some] <;> rfl) | (simp [*, errW_none, errW_some] <;> rfl), by repeat (first | (with_reducible first | exact HB.out | apply below_alloc | apply pw_below_drewN | apply below_drew1 | refine below_set ?_ GE273.out) | exact HB.out)⟩
def four_Mask.f (a0 : Int) (a1 : Int) : Option (Int × Int) := if a1 < 0 then (some (0, 204)) else (if a1 > 32 then (some (0, 204)) else ((four_mask.f a0 a1).bind fun t289 => (some (t289, 0))))
set_option maxHeartbeats 8000000 in
set_option maxRecDepth 100000 in
theorem four_Mask.calls (a0 : Int) (a1 : Int) (r1 : Int) (r2 : Int) (w : World) (h : four_Mask.f a0 a1 = some (r1, r2)) :
    Calls Tryd.prog 34 #[.int .u32 a0, .int .i64 a1] w fun e w' => e = .returned (.tuple #[.int .u32 r1, .int .i64 r2]) ∧ Drawn0 w w' := by
  have H : (if a1 < 0 then (some (0, 204)) else (if a1 > 32 then (some (0, 204)) else ((four_mask.f a0 a1).bind fun t289 => (some (t289, 0))))) = some (r1, r2) := h
  clear h
  by_cases c3 : a1 < 0
  · rw [if_pos c3] at H
    have c3b0 : decide (a1 < 0) = true := decide_eq_true c3
    clear c3
    simp only [Option.some.injEq, Prod.mk.injEq] at H
    obtain ⟨rfl, rfl⟩ := H
    go_enter Tryd.func34, Tryd.ntmps34
    go_wp2
    go_ret2
    exact ⟨by first | rfl | (simp; done) | (simp [*]; done), by repeat (first | exact Drawn0.refl _ | apply Drawn0.step)⟩
  · rw [if_neg c3] at H
    have c3b0 : decide (a1 < 0) = false := decide_eq_false c3
    clear c3
    by_cases c4 : a1 > 32
    · rw [if_pos c4] at H
      have c4b0 : decide (32 < a1) = true := decide_eq_true c4
      clear c4
      simp only [Option.some.injEq, Prod.mk.injEq] at H
      obtain ⟨rfl, rfl⟩ := H
      go_enter Tryd.func34, Tryd.ntmps34
      go_wp2
      go_ret2
      exact ⟨by first | rfl | (simp; done) | (simp [*]; done), by repeat (first | exact Drawn0.refl _ | apply Drawn0.step)⟩
    · rw [if_neg c4] at H
      have c4b0 : decide (32 < a1) = false := decide_eq_false c4
      clear c4
      replace H := Option.bind_eq_some_iff.mp H
      obtain ⟨t289, A50, H⟩ := H
      replace H : (some (t289, 0)) = some (r1, r2) := H
      have A5 := Aside0.mk A50
      clear A50
      simp only [Option.some.injEq, Prod.mk.injEq] at H
      obtain ⟨rfl, rfl⟩ := H
      go_enter Tryd.func34, Tryd.ntmps34
      go_wp2_with (first | ((with_reducible refine gate_callee (f := 54) rfl ?_); refine goesL_ (some 14) rfl rfl Tryd.func54 (by kernel_rfl) rfl #[.int .u32 a0, .int .i64 a1] rfl (by (try simp only [List.map_toArray, List.map_cons, List.map_nil]); first | done | rfl | (simp only [List.length_drop, List.length_take]; rfl)) ?_; (with_reducible refine (four_mask.calls a0 a1 t289 _ A5.out).mono ?_); rintro e w' ⟨rfl, ⟨nd, rfl⟩⟩; refine ⟨_, rfl, ?_⟩))
      go_ret2
      exact ⟨by first | rfl | (simp; done) | (simp [*]; done), by repeat (first | exact Drawn0.refl _ | apply Drawn0.step)⟩
def posternlaw20_block.f (a0_0 : Int) (a0_1 : Int) (a1_0 : Int) (a1_1 : Int) : Option (Bool) := if a0_0 = a1_0 then (some (a0_1 == a1_1)) else (some false)
set_option maxHeartbeats 8000000 in
set_option maxRecDepth 100000 in
theorem posternlaw20_block.calls (a0_0 : Int) (a0_1 : Int) (a1_0 : Int) (a1_1 : Int) (r : Bool) (w : World) (h : posternlaw20_block.f a0_0 a0_1 a1_0 a1_1 = some r) :
    Calls Tryd.prog 36 #[.agg #[.int .u32 a0_0, .int .i64 a0_1], .agg #[.int .u32 a1_0, .int .i64 a1_1]] w fun e w' => e = .returned (.bool r) ∧ Below w.heap.size w w' := by
  have hu50 := Tryd.underlying50
  have hu53 := Tryd.underlying53
  have HB := Aside0.mk (Below.refl w.heap.size w)
  have H : (if a0_0 = a1_0 then (some (a0_1 == a1_1)) else (some false)) = some r := h
  clear h
  by_cases c3 : a0_0 = a1_0
  · rw [if_pos c3] at H
    have c3b0 : (a0_0 == a1_0) = true := beq_iff_eq.mpr c3
    have c3b1 : (a0_0 != a1_0) = false := bne_eq_false_iff_eq.mpr c3
    clear c3
    obtain rfl := Option.some.inj H
    go_enter Tryd.func36, Tryd.ntmps36
    go_wp2_with (first | ((with_reducible refine gate_dst (N := 2) rfl ?_); refine box_event ?hg (N := 2) ?hd (cs := #[.int .u32 a0_0, .int .i64 a0_1]) (t := 50) ?hr ?_; (case hd => rfl); (case hg => rfl); (case hr => first | (go_simp; done) | (go_simp; rfl)); intro gb290 hg w4 hbox hb; have n0_ := Aside0.mk (below_step (by repeat (first | (with_reducible first | exact HB.out | apply below_alloc | apply pw_below_drewN | apply below_drew1) | exact HB.out)) hb); have n1_ := Aside0.mk (hbox); have n2_ := Aside0.mk ((by rw [hg]; exact (below_size (by repeat (first | (with_reducible first | exact HB.out | apply below_alloc | apply pw_below_drewN | apply below_drew1) | exact HB.out))) : w.heap.size ≤ gb290)); have n3_ := Aside0.mk ((by rw [hg]; exact (below_size (by repeat (first | (with_reducible first | exact HB.out | apply below_alloc | apply pw_below_drewN | apply below_drew1) | exact HB.out))) : w.heap.size ≤ gb290)); clear HB; have HB := n0_; have BK290 := n1_; have GW290 := n2_; have GE290 := n3_; clear n0_ n1_ n2_ n3_; clear hb hbox hg) | ((with_reducible refine gate_dst (N := 3) rfl ?_); refine box_event ?hg (N := 3) ?hd (cs := #[.int .u32 a1_0, .int .i64 a1_1]) (t := 53) ?hr ?_; (case hd => rfl); (case hg => rfl); (case hr => first | (go_simp; done) | (go_simp; rfl)); intro gb291 hg w5 hbox hb; have n0_ := Aside0.mk (blk_below (g := gb290) (o := .cells #[.int .u32 a0_0, .int .i64 a0_1] 50 (0, 0)) (by (with_reducible repeat (first | refine blk_drewN ?_ _ | refine blk_drew ?_ | refine blk_alloc ?_ _)); exact BK290.out) hb); have n1_ := Aside0.mk (below_step (by repeat (first | (with_reducible first | exact HB.out | apply below_alloc | apply pw_below_drewN | apply below_drew1 | refine below_set ?_ GE290.out) | exact HB.out)) hb); have n2_ := Aside0.mk (hbox); have n3_ := Aside0.mk ((by rw [hg]; exact (below_size (by repeat (first | (with_reducible first | exact HB.out | apply below_alloc | apply pw_below_drewN | apply below_drew1 | refine below_set ?_ GE290.out) | exact HB.out))) : w.heap.size ≤ gb291)); have n4_ := Aside0.mk ((by rw [hg]; exact (below_size (by repeat (first | (with_reducible first | exact HB.out | apply below_alloc | apply pw_below_drewN | apply below_drew1 | refine below_set ?_ GE290.out) | exact HB.out))) : w.heap.size ≤ gb291)); have n5_ := Aside0.mk ((by rw [hg]; exact Nat.ne_of_lt (blk_lt (g := gb290) (o := .cells #[.int .u32 a0_0, .int .i64 a0_1] 50 (0, 0)) (by (with_reducible repeat (first | refine blk_drewN ?_ _ | refine blk_drew ?_ | refine blk_alloc ?_ _)); exact BK290.out)) : gb290 ≠ gb291)); have n6_ := Aside0.mk ((by rw [hg]; exact Nat.ne_of_gt (blk_lt (g := gb290) (o := .cells #[.int .u32 a0_0, .int .i64 a0_1] 50 (0, 0)) (by (with_reducible repeat (first | refine blk_drewN ?_ _ | refine blk_drew ?_ | refine blk_alloc ?_ _)); exact BK290.out)) : gb291 ≠ gb290)); clear BK290; clear HB; have BK290 := n0_; have HB := n1_; have BK291 := n2_; have GW291 := n3_; have GE291 := n4_; have NB290_291 := n5_; have NB291_290 := n6_; clear n0_ n1_ n2_ n3_ n4_ n5_ n6_; clear hb hbox hg; have hnb6 := NB290_291.out; have hnc6 := NB291_290.out; have hcz7_0 : w5.cell? ⟨gb290, 0, none⟩ = some (.int .u32 a0_0) := (blk_cell BK290.out 0).trans rfl; have hcz7_1 : w5.cell? ⟨gb290, 1, none⟩ = some (.int .i64 a0_1) := (blk_cell BK290.out 1).trans rfl; have hfz7_0 := blk_frozen BK290.out 0; have hfz7_1 := blk_frozen BK290.out 1; have hcz8_0 : w5.cell? ⟨gb291, 0, none⟩ = some (.int .u32 a1_0) := (blk_cell BK291.out 0).trans rfl; have hcz8_1 : w5.cell? ⟨gb291, 1, none⟩ = some (.int .i64 a1_1) := (blk_cell BK291.out 1).trans rfl; have hfz8_0 := blk_frozen BK291.out 0; have hfz8_1 := blk_frozen BK291.out 1))
    go_ret
    exact ⟨by first | rfl | (simp [errW_none, errW_some] <;> rfl) | (simp [*, errW_none, errW_some] <;> rfl), by repeat (first | (with_reducible first | exact HB.out | apply below_alloc | apply pw_below_drewN | apply below_drew1 | refine below_set ?_ GE290.out | refine below_set ?_ GE291.out) | exact HB.out)⟩
  · rw [if_neg c3] at H
    have c3b0 : (a0_0 == a1_0) = false := beq_eq_false_iff_ne.mpr c3
    have c3b1 : (a0_0 != a1_0) = true := bne_iff_ne.mpr c3
    obtain rfl := Option.some.inj H
    go_enter Tryd.func36, Tryd.ntmps36
    go_wp2_with (first | ((with_reducible refine gate_dst (N := 2) rfl ?_); refine box_event ?hg (N := 2) ?hd (cs := #[.int .u32 a0_0, .int .i64 a0_1]) (t := 50) ?hr ?_; (case hd => rfl); (case hg => rfl); (case hr => first | (go_simp; done) | (go_simp; rfl)); intro gb290 hg w9 hbox hb; have n0_ := Aside0.mk (below_step (by repeat (first | (with_reducible first | exact HB.out | apply below_alloc | apply pw_below_drewN | apply below_drew1) | exact HB.out)) hb); have n1_ := Aside0.mk (hbox); have n2_ := Aside0.mk ((by rw [hg]; exact (below_size (by repeat (first | (with_reducible first | exact HB.out | apply below_alloc | apply pw_below_drewN | apply below_drew1) | exact HB.out))) : w.heap.size ≤ gb290)); have n3_ := Aside0.mk ((by rw [hg]; exact (below_size (by repeat (first | (with_reducible first | exact HB.out | apply below_alloc | apply pw_below_drewN | apply below_drew1) | exact HB.out))) : w.heap.size ≤ gb290)); clear HB; have HB := n0_; have BK290 := n1_; have GW290 := n2_; have GE290 := n3_; clear n0_ n1_ n2_ n3_; clear hb hbox hg) | ((with_reducible refine gate_dst (N := 3) rfl ?_); refine box_event ?hg (N := 3) ?hd (cs := #[.int .u32 a1_0, .int .i64 a1_1]) (t := 53) ?hr ?_; (case hd => rfl); (case hg => rfl); (case hr => first | (go_simp; done) | (go_simp; rfl)); intro gb291 hg w10 hbox hb; have n0_ := Aside0.mk (blk_below (g := gb290) (o := .cells #[.int .u32 a0_0, .int .i64 a0_1] 50 (0, 0)) (by (with_reducible repeat (first | refine blk_drewN ?_ _ | refine blk_drew ?_ | refine blk_alloc ?_ _)); exact BK290.out) hb); have n1_ := Aside0.mk (below_step (by repeat (first | (with_reducible first | exact HB.out | apply below_alloc | apply pw_below_drewN | apply below_drew1 | refine below_set ?_ GE290.out) | exact HB.out)) hb); have n2_ := Aside0.mk (hbox); have n3_ := Aside0.mk ((by rw [hg]; exact (below_size (by repeat (first | (with_reducible first | exact HB.out | apply below_alloc | apply pw_below_drewN | apply below_drew1 | refine below_set ?_ GE290.out) | exact HB.out))) : w.heap.size ≤ gb291)); have n4_ := Aside0.mk ((by rw [hg]; exact (below_size (by repeat (first | (with_reducible first | exact HB.out | apply below_alloc | apply pw_below_drewN | apply below_drew1 | refine below_set ?_ GE290.out) | exact HB.out))) : w.heap.size ≤ gb291)); have n5_ := Aside0.mk ((by rw [hg]; exact Nat.ne_of_lt (blk_lt (g := gb290) (o := .cells #[.int .u32 a0_0, .int .i64 a0_1] 50 (0, 0)) (by (with_reducible repeat (first | refine blk_drewN ?_ _ | refine blk_drew ?_ | refine blk_alloc ?_ _)); exact BK290.out)) : gb290 ≠ gb291)); have n6_ := Aside0.mk ((by rw [hg]; exact Nat.ne_of_gt (blk_lt (g := gb290) (o := .cells #[.int .u32 a0_0, .int .i64 a0_1] 50 (0, 0)) (by (with_reducible repeat (first | refine blk_drewN ?_ _ | refine blk_drew ?_ | refine blk_alloc ?_ _)); exact BK290.out)) : gb291 ≠ gb290)); clear BK290; clear HB; have BK290 := n0_; have HB := n1_; have BK291 := n2_; have GW291 := n3_; have GE291 := n4_; have NB290_291 := n5_; have NB291_290 := n6_; clear n0_ n1_ n2_ n3_ n4_ n5_ n6_; clear hb hbox hg; have hnb11 := NB290_291.out; have hnc11 := NB291_290.out; have hcz12_0 : w10.cell? ⟨gb290, 0, none⟩ = some (.int .u32 a0_0) := (blk_cell BK290.out 0).trans rfl; have hcz12_1 : w10.cell? ⟨gb290, 1, none⟩ = some (.int .i64 a0_1) := (blk_cell BK290.out 1).trans rfl; have hfz12_0 := blk_frozen BK290.out 0; have hfz12_1 := blk_frozen BK290.out 1; have hcz13_0 : w10.cell? ⟨gb291, 0, none⟩ = some (.int .u32 a1_0) := (blk_cell BK291.out 0).trans rfl; have hcz13_1 : w10.cell? ⟨gb291, 1, none⟩ = some (.int .i64 a1_1) := (blk_cell BK291.out 1).trans rfl; have hfz13_0 := blk_frozen BK291.out 0; have hfz13_1 := blk_frozen BK291.out 1))
    go_ret
    exact ⟨by first | rfl | (simp [errW_none, errW_some] <;> rfl) | (simp [*, errW_none, errW_some] <;> rfl), by repeat (first | (with_reducible first | exact HB.out | apply below_alloc | apply pw_below_drewN | apply below_drew1 | refine below_set ?_ GE290.out | refine below_set ?_ GE291.out) | exact HB.out)⟩
end Go.Proofs.YtgnahagnmodpdaaDoor.X
/-! X13 -/
namespace Go.Proofs.YtgnahagnmodpdaaDoor.X
open Go.RowKit Go.Proofs.YtgnahagnmodpdaaDoorW.PrintWords Go.Proofs.YtgnahagnmodpdaaDoorW.PrintLast Go.Proofs.YtgnahagnmodpdaaDoorW.PrintMore
attribute [local go_sem] max2_int min2_int max_two min_two max_three min_three max_four min_four
set_option linter.unusedVariables false
set_option linter.unusedSimpArgs false
def posternref20_PrintPrefix.f (k : Nat) (a0_0 : Int) (a0_1 : Int) : Option (ByteArray × Int) := (posternref20_Is.f a0_0 a0_1).bind fun t278 => (if t278 = true then ((posternref20_Print.f k a0_0).bind fun t279 => (if t279.size + 1 ≤ 9223372036854775807 then (if a0_1 ≥ 10 then ((some (([(wrap64 (48 + (wrap64 (Int.tdiv a0_1 10)))) % 256] : List Int) : List Int)).bind fun y280 => (if (t279 ++ (⟨#[47]⟩ : ByteArray)).size + (strOfNums y280).size ≤ 9223372036854775807 then ((some (([(wrap64 (48 + (Int.tmod a0_1 10))) % 256] : List Int) : List Int)).bind fun y283 => (if ((t279 ++ (⟨#[47]⟩ : ByteArray)) ++ (strOfNums y280)).size + (strOfNums y283).size ≤ 9223372036854775807 then (some (((t279 ++ (⟨#[47]⟩ : ByteArray)) ++ (strOfNums y280)) ++ (strOfNums y283), 0)) else (none))) else (none))) else ((some (([(wrap64 (48 + (Int.tmod a0_1 10))) % 256] : List Int) : List Int)).bind fun y286 => (if (t279 ++ (⟨#[47]⟩ : ByteArray)).size + (strOfNums y286).size ≤ 9223372036854775807 then (some ((t279 ++ (⟨#[47]⟩ : ByteArray)) ++ (strOfNums y286), 0)) else (none)))) else (none))) else (some ((⟨#[]⟩ : ByteArray), 204)))
set_option maxHeartbeats 8000000 in
set_option maxRecDepth 100000 in
theorem posternref20_PrintPrefix.calls (k : Nat) (a0_0 : Int) (a0_1 : Int) (r1 : ByteArray) (r2 : Int) (w : World) (h : posternref20_PrintPrefix.f k a0_0 a0_1 = some (r1, r2)) :
    Calls Tryd.prog 33 #[.agg #[.int .u32 a0_0, .int .i64 a0_1]] w fun e w' => e = .returned (.tuple #[.string r1, .int .i64 r2]) ∧ Below w.heap.size w w' := by
  have hu53 := Tryd.underlying53
  have HB := Aside0.mk (Below.refl w.heap.size w)
  have H : ((posternref20_Is.f a0_0 a0_1).bind fun t278 => (if t278 = true then ((posternref20_Print.f k a0_0).bind fun t279 => (if t279.size + 1 ≤ 9223372036854775807 then (if a0_1 ≥ 10 then ((some (([(wrap64 (48 + (wrap64 (Int.tdiv a0_1 10)))) % 256] : List Int) : List Int)).bind fun y280 => (if (t279 ++ (⟨#[47]⟩ : ByteArray)).size + (strOfNums y280).size ≤ 9223372036854775807 then ((some (([(wrap64 (48 + (Int.tmod a0_1 10))) % 256] : List Int) : List Int)).bind fun y283 => (if ((t279 ++ (⟨#[47]⟩ : ByteArray)) ++ (strOfNums y280)).size + (strOfNums y283).size ≤ 9223372036854775807 then (some (((t279 ++ (⟨#[47]⟩ : ByteArray)) ++ (strOfNums y280)) ++ (strOfNums y283), 0)) else (none))) else (none))) else ((some (([(wrap64 (48 + (Int.tmod a0_1 10))) % 256] : List Int) : List Int)).bind fun y286 => (if (t279 ++ (⟨#[47]⟩ : ByteArray)).size + (strOfNums y286).size ≤ 9223372036854775807 then (some ((t279 ++ (⟨#[47]⟩ : ByteArray)) ++ (strOfNums y286), 0)) else (none)))) else (none))) else (some ((⟨#[]⟩ : ByteArray), 204)))) = some (r1, r2) := h
  clear h
  replace H := Option.bind_eq_some_iff.mp H
  obtain ⟨t278, A20, H⟩ := H
  replace H : (if t278 = true then ((posternref20_Print.f k a0_0).bind fun t279 => (if t279.size + 1 ≤ 9223372036854775807 then (if a0_1 ≥ 10 then ((some (([(wrap64 (48 + (wrap64 (Int.tdiv a0_1 10)))) % 256] : List Int) : List Int)).bind fun y280 => (if (t279 ++ (⟨#[47]⟩ : ByteArray)).size + (strOfNums y280).size ≤ 9223372036854775807 then ((some (([(wrap64 (48 + (Int.tmod a0_1 10))) % 256] : List Int) : List Int)).bind fun y283 => (if ((t279 ++ (⟨#[47]⟩ : ByteArray)) ++ (strOfNums y280)).size + (strOfNums y283).size ≤ 9223372036854775807 then (some (((t279 ++ (⟨#[47]⟩ : ByteArray)) ++ (strOfNums y280)) ++ (strOfNums y283), 0)) else (none))) else (none))) else ((some (([(wrap64 (48 + (Int.tmod a0_1 10))) % 256] : List Int) : List Int)).bind fun y286 => (if (t279 ++ (⟨#[47]⟩ : ByteArray)).size + (strOfNums y286).size ≤ 9223372036854775807 then (some ((t279 ++ (⟨#[47]⟩ : ByteArray)) ++ (strOfNums y286), 0)) else (none)))) else (none))) else (some ((⟨#[]⟩ : ByteArray), 204))) = some (r1, r2) := H
  have A2 := Aside0.mk A20
  clear A20
  by_cases c3 : t278 = true
  · subst c3
    have H1 : ((posternref20_Print.f k a0_0).bind fun t279 => (if t279.size + 1 ≤ 9223372036854775807 then (if a0_1 ≥ 10 then ((some (([(wrap64 (48 + (wrap64 (Int.tdiv a0_1 10)))) % 256] : List Int) : List Int)).bind fun y280 => (if (t279 ++ (⟨#[47]⟩ : ByteArray)).size + (strOfNums y280).size ≤ 9223372036854775807 then ((some (([(wrap64 (48 + (Int.tmod a0_1 10))) % 256] : List Int) : List Int)).bind fun y283 => (if ((t279 ++ (⟨#[47]⟩ : ByteArray)) ++ (strOfNums y280)).size + (strOfNums y283).size ≤ 9223372036854775807 then (some (((t279 ++ (⟨#[47]⟩ : ByteArray)) ++ (strOfNums y280)) ++ (strOfNums y283), 0)) else (none))) else (none))) else ((some (([(wrap64 (48 + (Int.tmod a0_1 10))) % 256] : List Int) : List Int)).bind fun y286 => (if (t279 ++ (⟨#[47]⟩ : ByteArray)).size + (strOfNums y286).size ≤ 9223372036854775807 then (some ((t279 ++ (⟨#[47]⟩ : ByteArray)) ++ (strOfNums y286), 0)) else (none)))) else (none))) = some (r1, r2) := by rw [if_pos rfl] at H; exact H
    clear H
    have H := H1
    clear H1
    replace H := Option.bind_eq_some_iff.mp H
    obtain ⟨t279, A40, H⟩ := H
    replace H : (if t279.size + 1 ≤ 9223372036854775807 then (if a0_1 ≥ 10 then ((some (([(wrap64 (48 + (wrap64 (Int.tdiv a0_1 10)))) % 256] : List Int) : List Int)).bind fun y280 => (if (t279 ++ (⟨#[47]⟩ : ByteArray)).size + (strOfNums y280).size ≤ 9223372036854775807 then ((some (([(wrap64 (48 + (Int.tmod a0_1 10))) % 256] : List Int) : List Int)).bind fun y283 => (if ((t279 ++ (⟨#[47]⟩ : ByteArray)) ++ (strOfNums y280)).size + (strOfNums y283).size ≤ 9223372036854775807 then (some (((t279 ++ (⟨#[47]⟩ : ByteArray)) ++ (strOfNums y280)) ++ (strOfNums y283), 0)) else (none))) else (none))) else ((some (([(wrap64 (48 + (Int.tmod a0_1 10))) % 256] : List Int) : List Int)).bind fun y286 => (if (t279 ++ (⟨#[47]⟩ : ByteArray)).size + (strOfNums y286).size ≤ 9223372036854775807 then (some ((t279 ++ (⟨#[47]⟩ : ByteArray)) ++ (strOfNums y286), 0)) else (none)))) else (none)) = some (r1, r2) := H
    have A4 := Aside0.mk A40
    clear A40
    by_cases c5 : t279.size + 1 ≤ 9223372036854775807
    · rw [if_pos c5] at H
      have c5b0 := eq_true c5
      have c5b1 : decide (t279.size + 1 ≤ 9223372036854775807) = true := decide_eq_true c5
      try have c5b2 : (9223372036854775807 < t279.size + 1) = False := eq_false (Nat.not_lt.2 c5)
      by_cases c6 : a0_1 ≥ 10
      · rw [if_pos c6] at H
        have c6b0 : decide (10 ≤ a0_1) = true := decide_eq_true c6
        clear c6
        obtain ⟨y280, hy280⟩ : ∃ y_ : List Int, y_ = (([(wrap64 (48 + (wrap64 (Int.tdiv a0_1 10)))) % 256] : List Int)) := ⟨_, rfl⟩
        replace H : (if (t279 ++ (⟨#[47]⟩ : ByteArray)).size + (strOfNums y280).size ≤ 9223372036854775807 then ((some (([(wrap64 (48 + (Int.tmod a0_1 10))) % 256] : List Int) : List Int)).bind fun y283 => (if ((t279 ++ (⟨#[47]⟩ : ByteArray)) ++ (strOfNums y280)).size + (strOfNums y283).size ≤ 9223372036854775807 then (some (((t279 ++ (⟨#[47]⟩ : ByteArray)) ++ (strOfNums y280)) ++ (strOfNums y283), 0)) else (none))) else (none)) = some (r1, r2) := by first | (rw [hy280]; with_reducible exact H) | (have H2_ := (Option.bind_some _ _).symm.trans H; rw [hy280]; with_reducible exact H2_) | (have H2_ := (Option.bind_some _ _).symm.trans H; with_reducible exact H2_) | with_reducible exact H | (rw [hy280]; exact H) | exact H
        have Ny280 := Aside0.mk hy280
        clear hy280
        by_cases c7 : (t279 ++ (⟨#[47]⟩ : ByteArray)).size + (strOfNums y280).size ≤ 9223372036854775807
        · rw [if_pos c7] at H
          have c7b0 := eq_true c7
          have c7b1 : decide ((t279 ++ (⟨#[47]⟩ : ByteArray)).size + (strOfNums y280).size ≤ 9223372036854775807) = true := decide_eq_true c7
          try have c7b2 : (9223372036854775807 < (t279 ++ (⟨#[47]⟩ : ByteArray)).size + (strOfNums y280).size) = False := eq_false (Nat.not_lt.2 c7)
          try have c7b3 : (9223372036854775807 < t279.size + 1 + (strOfNums y280).size) = False := eq_false (Nat.not_lt.2 (by have h_ := c7; rw [ByteArray.size_append] at h_; exact h_))
          obtain ⟨y283, hy283⟩ : ∃ y_ : List Int, y_ = (([(wrap64 (48 + (Int.tmod a0_1 10))) % 256] : List Int)) := ⟨_, rfl⟩
          replace H : (if ((t279 ++ (⟨#[47]⟩ : ByteArray)) ++ (strOfNums y280)).size + (strOfNums y283).size ≤ 9223372036854775807 then (some (((t279 ++ (⟨#[47]⟩ : ByteArray)) ++ (strOfNums y280)) ++ (strOfNums y283), 0)) else (none)) = some (r1, r2) := by first | (rw [hy283]; with_reducible exact H) | (have H2_ := (Option.bind_some _ _).symm.trans H; rw [hy283]; with_reducible exact H2_) | (have H2_ := (Option.bind_some _ _).symm.trans H; with_reducible exact H2_) | with_reducible exact H | (rw [hy283]; exact H) | exact H
          have Ny283 := Aside0.mk hy283
          clear hy283
          by_cases c8 : ((t279 ++ (⟨#[47]⟩ : ByteArray)) ++ (strOfNums y280)).size + (strOfNums y283).size ≤ 9223372036854775807
          · rw [if_pos c8] at H
            have c8b0 := eq_true c8
            have c8b1 : decide (((t279 ++ (⟨#[47]⟩ : ByteArray)) ++ (strOfNums y280)).size + (strOfNums y283).size ≤ 9223372036854775807) = true := decide_eq_true c8
            try have c8b2 : (9223372036854775807 < ((t279 ++ (⟨#[47]⟩ : ByteArray)) ++ (strOfNums y280)).size + (strOfNums y283).size) = False := eq_false (Nat.not_lt.2 c8)
            simp only [Option.some.injEq, Prod.mk.injEq] at H
            obtain ⟨rfl, rfl⟩ := H
            go_enter Tryd.func33, Tryd.ntmps33
            go_wp2_with (first | ((with_reducible refine gate_dst (N := 1) rfl ?_); refine box_event ?hg (N := 1) ?hd (cs := #[.int .u32 a0_0, .int .i64 a0_1]) (t := 53) ?hr ?_; (case hd => rfl); (case hg => rfl); (case hr => first | (go_simp; done) | (go_simp; rfl)); intro gb277 hg w9 hbox hb; have n0_ := Aside0.mk (below_step (by repeat (first | (with_reducible first | exact HB.out | apply below_alloc | apply pw_below_drewN | apply below_drew1) | exact HB.out)) hb); have n1_ := Aside0.mk (hbox); have n2_ := Aside0.mk ((by rw [hg]; exact (below_size (by repeat (first | (with_reducible first | exact HB.out | apply below_alloc | apply pw_below_drewN | apply below_drew1) | exact HB.out))) : w.heap.size ≤ gb277)); have n3_ := Aside0.mk ((by rw [hg]; exact (below_size (by repeat (first | (with_reducible first | exact HB.out | apply below_alloc | apply pw_below_drewN | apply below_drew1) | exact HB.out))) : w.heap.size ≤ gb277)); clear HB; have HB := n0_; have BK277 := n1_; have GW277 := n2_; have GE277 := n3_; clear n0_ n1_ n2_ n3_; clear hb hbox hg; have hcz10_0 : w9.cell? ⟨gb277, 0, none⟩ = some (.int .u32 a0_0) := (blk_cell BK277.out 0).trans rfl; have hcz10_1 : w9.cell? ⟨gb277, 1, none⟩ = some (.int .i64 a0_1) := (blk_cell BK277.out 1).trans rfl; have hfz10_0 := blk_frozen BK277.out 0; have hfz10_1 := blk_frozen BK277.out 1) | ((with_reducible refine gate_callee (f := 53) rfl ?_); refine goesL_ (some 6) rfl rfl Tryd.func53 (by kernel_rfl) rfl #[.agg #[.int .u32 a0_0, .int .i64 a0_1]] rfl (by (try simp only [List.map_toArray, List.map_cons, List.map_nil]); first | done | rfl | (simp only [List.length_drop, List.length_take]; rfl)) ?_; (with_reducible refine (posternref20_Is.calls a0_0 a0_1 true _ A2.out).mono ?_); rintro e w11 ⟨rfl, hb⟩; refine ⟨_, rfl, ?_⟩; have n0_ := Aside0.mk (blk_below (g := gb277) (o := .cells #[.int .u32 a0_0, .int .i64 a0_1] 53 (0, 0)) (by (with_reducible repeat (first | refine blk_drewN ?_ _ | refine blk_drew ?_ | refine blk_alloc ?_ _)); exact BK277.out) hb); have n1_ := Aside0.mk (below_step (by repeat (first | (with_reducible first | exact HB.out | apply below_alloc | apply pw_below_drewN | apply below_drew1 | refine below_set ?_ GE277.out) | exact HB.out)) hb); clear BK277; clear HB; have BK277 := n0_; have HB := n1_; clear n0_ n1_; (try clear hb); (try clear hb2); (try clear hk); (try clear hi); have hcz12_0 : w11.cell? ⟨gb277, 0, none⟩ = some (.int .u32 a0_0) := (blk_cell BK277.out 0).trans rfl; have hcz12_1 : w11.cell? ⟨gb277, 1, none⟩ = some (.int .i64 a0_1) := (blk_cell BK277.out 1).trans rfl; have hfz12_0 := blk_frozen BK277.out 0; have hfz12_1 := blk_frozen BK277.out 1) | ((with_reducible refine gate_callee (f := 25) rfl ?_); refine goesL_ (some 10) rfl rfl Tryd.func25 (by kernel_rfl) rfl #[.int .u32 a0_0] rfl (by (try simp only [List.map_toArray, List.map_cons, List.map_nil]); first | done | rfl | (simp only [List.length_drop, List.length_take]; rfl)) ?_; (with_reducible refine (posternref20_Print.calls k a0_0 t279 _ A4.out).mono ?_); rintro e w13 ⟨rfl, hb⟩; refine ⟨_, rfl, ?_⟩; have n0_ := Aside0.mk (blk_below (g := gb277) (o := .cells #[.int .u32 a0_0, .int .i64 a0_1] 53 (0, 0)) (by (with_reducible repeat (first | refine blk_drewN ?_ _ | refine blk_drew ?_ | refine blk_alloc ?_ _)); exact BK277.out) hb); have n1_ := Aside0.mk (below_step (by repeat (first | (with_reducible first | exact HB.out | apply below_alloc | apply pw_below_drewN | apply below_drew1 | refine below_set ?_ GE277.out) | exact HB.out)) hb); clear BK277; clear HB; have BK277 := n0_; have HB := n1_; clear n0_ n1_; (try clear hb); (try clear hb2); (try clear hk); (try clear hi); have hcz14_0 : w13.cell? ⟨gb277, 0, none⟩ = some (.int .u32 a0_0) := (blk_cell BK277.out 0).trans rfl; have hcz14_1 : w13.cell? ⟨gb277, 1, none⟩ = some (.int .i64 a0_1) := (blk_cell BK277.out 1).trans rfl; have hfz14_0 := blk_frozen BK277.out 0; have hfz14_1 := blk_frozen BK277.out 1) | ((with_reducible refine gate_dst (N := 21) rfl ?_); refine Kd.R_lit (Kd.int .u8) _ 5 ?hg (N := 21) ?hd (xs := ([(wrap64 (48 + (wrap64 (Int.tdiv a0_1 10)))) % 256] : List Int)) (inner := [.int .u8 ((wrap64 (48 + (wrap64 (Int.tdiv a0_1 10)))) % 256)]) (ok := fun _ => True) (okp := fun _ => True) ?hr ?hp (fun _ hk => hk) trivial (Below.refl _ _) (Nat.le_refl _) (by simp) ?_; (case hd => rfl); (case hg => rfl); (case hr => first | (go_simp; done) | (go_simp; rfl)); (case hp => exact (Reps.one (show Kd.M (Kd.int .u8) _ _ _ ((wrap64 (48 + (wrap64 (Int.tdiv a0_1 10)))) % 256) [.int .u8 ((wrap64 (48 + (wrap64 (Int.tdiv a0_1 10)))) % 256)] from rfl) (Reps.none _ _))); intro v281 w15 ho16 hb hg_ hnew_; clear hg_ hnew_; (first | rw [← Ny280.out] at ho16 | (simp only [Int.reduceToNat] at ho16; rw [← Ny280.out] at ho16)); have n0_ := Aside0.mk (Kd.R_lower ho16 (below_size (by repeat (first | (with_reducible first | exact HB.out | apply below_alloc | apply pw_below_drewN | apply below_drew1 | refine below_set ?_ GE277.out) | exact HB.out)))); have n1_ := Aside0.mk (blk_below (g := gb277) (o := .cells #[.int .u32 a0_0, .int .i64 a0_1] 53 (0, 0)) (by (with_reducible repeat (first | refine blk_drewN ?_ _ | refine blk_drew ?_ | refine blk_alloc ?_ _)); exact BK277.out) hb); have n2_ := Aside0.mk (below_step (by repeat (first | (with_reducible first | exact HB.out | apply below_alloc | apply pw_below_drewN | apply below_drew1 | refine below_set ?_ GE277.out) | exact HB.out)) hb); clear BK277; clear HB; have HO282 := n0_; have BK277 := n1_; have HB := n2_; clear n0_ n1_ n2_; clear hb ho16; have hcv17 := own_string (P := Tryd.prog) Tryd.underlying74 Tryd.underlying5 Tryd.underlying9 (Kd.own_of_R HO282.out); have hcz18_0 : w15.cell? ⟨gb277, 0, none⟩ = some (.int .u32 a0_0) := (blk_cell BK277.out 0).trans rfl; have hcz18_1 : w15.cell? ⟨gb277, 1, none⟩ = some (.int .i64 a0_1) := (blk_cell BK277.out 1).trans rfl; have hfz18_0 := blk_frozen BK277.out 0; have hfz18_1 := blk_frozen BK277.out 1) | ((with_reducible refine gate_dst (N := 30) rfl ?_); refine Kd.R_lit (Kd.int .u8) _ 5 ?hg (N := 30) ?hd (xs := ([(wrap64 (48 + (Int.tmod a0_1 10))) % 256] : List Int)) (inner := [.int .u8 ((wrap64 (48 + (Int.tmod a0_1 10))) % 256)]) (ok := fun _ => True) (okp := fun _ => True) ?hr ?hp (fun _ hk => hk) trivial (Below.refl _ _) (Nat.le_refl _) (by simp) ?_; (case hd => rfl); (case hg => rfl); (case hr => first | (go_simp; done) | (go_simp; rfl)); (case hp => exact (Reps.one (show Kd.M (Kd.int .u8) _ _ _ ((wrap64 (48 + (Int.tmod a0_1 10))) % 256) [.int .u8 ((wrap64 (48 + (Int.tmod a0_1 10))) % 256)] from rfl) (Reps.none _ _))); intro v284 w19 ho20 hb hg_ hnew_; clear hg_ hnew_; (first | rw [← Ny283.out] at ho20 | (simp only [Int.reduceToNat] at ho20; rw [← Ny283.out] at ho20)); have n0_ := Aside0.mk (Kd.R_elder' (by (with_reducible repeat (first | apply Kd.R_alloc | apply Kd.R_drewN | apply Kd.R_drew)); exact HO282.out) (Kd.R_base ho20) hb); have n1_ := Aside0.mk (Kd.R_lower (Kd.R_new' ho20 (Kd.R_lt (by (with_reducible repeat (first | apply Kd.R_alloc | apply Kd.R_drewN | apply Kd.R_drew)); exact HO282.out))) (below_size (by repeat (first | (with_reducible first | exact HB.out | apply below_alloc | apply pw_below_drewN | apply below_drew1 | refine below_set ?_ GE277.out) | exact HB.out)))); have n2_ := Aside0.mk (blk_below (g := gb277) (o := .cells #[.int .u32 a0_0, .int .i64 a0_1] 53 (0, 0)) (by (with_reducible repeat (first | refine blk_drewN ?_ _ | refine blk_drew ?_ | refine blk_alloc ?_ _)); exact BK277.out) hb); have n3_ := Aside0.mk (below_step (by repeat (first | (with_reducible first | exact HB.out | apply below_alloc | apply pw_below_drewN | apply below_drew1 | refine below_set ?_ GE277.out) | exact HB.out)) hb); clear HO282; clear BK277; clear HB; have HO282 := n0_; have HO285 := n1_; have BK277 := n2_; have HB := n3_; clear n0_ n1_ n2_ n3_; clear hb ho20; have hcv21 := own_string (P := Tryd.prog) Tryd.underlying74 Tryd.underlying5 Tryd.underlying9 (Kd.own_of_R HO285.out)))
            go_ret2
            exact ⟨by first | rfl | (simp [errW_none, errW_some] <;> rfl) | (simp [*, errW_none, errW_some] <;> rfl), by repeat (first | (with_reducible first | exact HB.out | apply below_alloc | apply pw_below_drewN | apply below_drew1 | refine below_set ?_ GE277.out) | exact HB.out)⟩
          · rw [if_neg c8] at H
            exact absurd H (by simp)
        · rw [if_neg c7] at H
          exact absurd H (by simp)
      · rw [if_neg c6] at H
        have c6b0 : decide (10 ≤ a0_1) = false := decide_eq_false c6
        clear c6
        obtain ⟨y286, hy286⟩ : ∃ y_ : List Int, y_ = (([(wrap64 (48 + (Int.tmod a0_1 10))) % 256] : List Int)) := ⟨_, rfl⟩
        replace H : (if (t279 ++ (⟨#[47]⟩ : ByteArray)).size + (strOfNums y286).size ≤ 9223372036854775807 then (some ((t279 ++ (⟨#[47]⟩ : ByteArray)) ++ (strOfNums y286), 0)) else (none)) = some (r1, r2) := by first | (rw [hy286]; with_reducible exact H) | (have H2_ := (Option.bind_some _ _).symm.trans H; rw [hy286]; with_reducible exact H2_) | (have H2_ := (Option.bind_some _ _).symm.trans H; with_reducible exact H2_) | with_reducible exact H | (rw [hy286]; exact H) | exact H
        have Ny286 := Aside0.mk hy286
        clear hy286
        by_cases c22 : (t279 ++ (⟨#[47]⟩ : ByteArray)).size + (strOfNums y286).size ≤ 9223372036854775807
        · rw [if_pos c22] at H
          have c22b0 := eq_true c22
          have c22b1 : decide ((t279 ++ (⟨#[47]⟩ : ByteArray)).size + (strOfNums y286).size ≤ 9223372036854775807) = true := decide_eq_true c22
          try have c22b2 : (9223372036854775807 < (t279 ++ (⟨#[47]⟩ : ByteArray)).size + (strOfNums y286).size) = False := eq_false (Nat.not_lt.2 c22)
          try have c22b3 : (9223372036854775807 < t279.size + 1 + (strOfNums y286).size) = False := eq_false (Nat.not_lt.2 (by have h_ := c22; rw [ByteArray.size_append] at h_; exact h_))
          simp only [Option.some.injEq, Prod.mk.injEq] at H
          obtain ⟨rfl, rfl⟩ := H
          go_enter Tryd.func33, Tryd.ntmps33
          go_wp2_with (first | ((with_reducible refine gate_dst (N := 1) rfl ?_); refine box_event ?hg (N := 1) ?hd (cs := #[.int .u32 a0_0, .int .i64 a0_1]) (t := 53) ?hr ?_; (case hd => rfl); (case hg => rfl); (case hr => first | (go_simp; done) | (go_simp; rfl)); intro gb277 hg w23 hbox hb; have n0_ := Aside0.mk (below_step (by repeat (first | (with_reducible first | exact HB.out | apply below_alloc | apply pw_below_drewN | apply below_drew1) | exact HB.out)) hb); have n1_ := Aside0.mk (hbox); have n2_ := Aside0.mk ((by rw [hg]; exact (below_size (by repeat (first | (with_reducible first | exact HB.out | apply below_alloc | apply pw_below_drewN | apply below_drew1) | exact HB.out))) : w.heap.size ≤ gb277)); have n3_ := Aside0.mk ((by rw [hg]; exact (below_size (by repeat (first | (with_reducible first | exact HB.out | apply below_alloc | apply pw_below_drewN | apply below_drew1) | exact HB.out))) : w.heap.size ≤ gb277)); clear HB; have HB := n0_; have BK277 := n1_; have GW277 := n2_; have GE277 := n3_; clear n0_ n1_ n2_ n3_; clear hb hbox hg; have hcz24_0 : w23.cell? ⟨gb277, 0, none⟩ = some (.int .u32 a0_0) := (blk_cell BK277.out 0).trans rfl; have hcz24_1 : w23.cell? ⟨gb277, 1, none⟩ = some (.int .i64 a0_1) := (blk_cell BK277.out 1).trans rfl; have hfz24_0 := blk_frozen BK277.out 0; have hfz24_1 := blk_frozen BK277.out 1) | ((with_reducible refine gate_callee (f := 53) rfl ?_); refine goesL_ (some 6) rfl rfl Tryd.func53 (by kernel_rfl) rfl #[.agg #[.int .u32 a0_0, .int .i64 a0_1]] rfl (by (try simp only [List.map_toArray, List.map_cons, List.map_nil]); first | done | rfl | (simp only [List.length_drop, List.length_take]; rfl)) ?_; (with_reducible refine (posternref20_Is.calls a0_0 a0_1 true _ A2.out).mono ?_); rintro e w25 ⟨rfl, hb⟩; refine ⟨_, rfl, ?_⟩; have n0_ := Aside0.mk (blk_below (g := gb277) (o := .cells #[.int .u32 a0_0, .int .i64 a0_1] 53 (0, 0)) (by (with_reducible repeat (first | refine blk_drewN ?_ _ | refine blk_drew ?_ | refine blk_alloc ?_ _)); exact BK277.out) hb); have n1_ := Aside0.mk (below_step (by repeat (first | (with_reducible first | exact HB.out | apply below_alloc | apply pw_below_drewN | apply below_drew1 | refine below_set ?_ GE277.out) | exact HB.out)) hb); clear BK277; clear HB; have BK277 := n0_; have HB := n1_; clear n0_ n1_; (try clear hb); (try clear hb2); (try clear hk); (try clear hi); have hcz26_0 : w25.cell? ⟨gb277, 0, none⟩ = some (.int .u32 a0_0) := (blk_cell BK277.out 0).trans rfl; have hcz26_1 : w25.cell? ⟨gb277, 1, none⟩ = some (.int .i64 a0_1) := (blk_cell BK277.out 1).trans rfl; have hfz26_0 := blk_frozen BK277.out 0; have hfz26_1 := blk_frozen BK277.out 1) | ((with_reducible refine gate_callee (f := 25) rfl ?_); refine goesL_ (some 10) rfl rfl Tryd.func25 (by kernel_rfl) rfl #[.int .u32 a0_0] rfl (by (try simp only [List.map_toArray, List.map_cons, List.map_nil]); first | done | rfl | (simp only [List.length_drop, List.length_take]; rfl)) ?_; (with_reducible refine (posternref20_Print.calls k a0_0 t279 _ A4.out).mono ?_); rintro e w27 ⟨rfl, hb⟩; refine ⟨_, rfl, ?_⟩; have n0_ := Aside0.mk (blk_below (g := gb277) (o := .cells #[.int .u32 a0_0, .int .i64 a0_1] 53 (0, 0)) (by (with_reducible repeat (first | refine blk_drewN ?_ _ | refine blk_drew ?_ | refine blk_alloc ?_ _)); exact BK277.out) hb); have n1_ := Aside0.mk (below_step (by repeat (first | (with_reducible first | exact HB.out | apply below_alloc | apply pw_below_drewN | apply below_drew1 | refine below_set ?_ GE277.out) | exact HB.out)) hb); clear BK277; clear HB; have BK277 := n0_; have HB := n1_; clear n0_ n1_; (try clear hb); (try clear hb2); (try clear hk); (try clear hi); have hcz28_0 : w27.cell? ⟨gb277, 0, none⟩ = some (.int .u32 a0_0) := (blk_cell BK277.out 0).trans rfl; have hcz28_1 : w27.cell? ⟨gb277, 1, none⟩ = some (.int .i64 a0_1) := (blk_cell BK277.out 1).trans rfl; have hfz28_0 := blk_frozen BK277.out 0; have hfz28_1 := blk_frozen BK277.out 1) | ((with_reducible refine gate_dst (N := 30) rfl ?_); refine Kd.R_lit (Kd.int .u8) _ 5 ?hg (N := 30) ?hd (xs := ([(wrap64 (48 + (Int.tmod a0_1 10))) % 256] : List Int)) (inner := [.int .u8 ((wrap64 (48 + (Int.tmod a0_1 10))) % 256)]) (ok := fun _ => True) (okp := fun _ => True) ?hr ?hp (fun _ hk => hk) trivial (Below.refl _ _) (Nat.le_refl _) (by simp) ?_; (case hd => rfl); (case hg => rfl); (case hr => first | (go_simp; done) | (go_simp; rfl)); (case hp => exact (Reps.one (show Kd.M (Kd.int .u8) _ _ _ ((wrap64 (48 + (Int.tmod a0_1 10))) % 256) [.int .u8 ((wrap64 (48 + (Int.tmod a0_1 10))) % 256)] from rfl) (Reps.none _ _))); intro v287 w29 ho30 hb hg_ hnew_; clear hg_ hnew_; (first | rw [← Ny286.out] at ho30 | (simp only [Int.reduceToNat] at ho30; rw [← Ny286.out] at ho30)); have n0_ := Aside0.mk (Kd.R_lower ho30 (below_size (by repeat (first | (with_reducible first | exact HB.out | apply below_alloc | apply pw_below_drewN | apply below_drew1 | refine below_set ?_ GE277.out) | exact HB.out)))); have n1_ := Aside0.mk (blk_below (g := gb277) (o := .cells #[.int .u32 a0_0, .int .i64 a0_1] 53 (0, 0)) (by (with_reducible repeat (first | refine blk_drewN ?_ _ | refine blk_drew ?_ | refine blk_alloc ?_ _)); exact BK277.out) hb); have n2_ := Aside0.mk (below_step (by repeat (first | (with_reducible first | exact HB.out | apply below_alloc | apply pw_below_drewN | apply below_drew1 | refine below_set ?_ GE277.out) | exact HB.out)) hb); clear BK277; clear HB; have HO288 := n0_; have BK277 := n1_; have HB := n2_; clear n0_ n1_ n2_; clear hb ho30; have hcv31 := own_string (P := Tryd.prog) Tryd.underlying74 Tryd.underlying5 Tryd.underlying9 (Kd.own_of_R HO288.out)))
          go_ret2
          exact ⟨by first | rfl | (simp [errW_none, errW_some] <;> rfl) | (simp [*, errW_none, errW_some] <;> rfl), by repeat (first | (with_reducible first | exact HB.out | apply below_alloc | apply pw_below_drewN | apply below_drew1 | refine below_set ?_ GE277.out) | exact HB.out)⟩
        · rw [if_neg c22] at H
          exact absurd H (by simp)
    · rw [if_neg c5] at H
      exact absurd H (by simp)
  · replace c3 := Bool.eq_false_iff.mpr c3
    subst c3
    have H1 : (some ((⟨#[]⟩ : ByteArray), 204)) = some (r1, r2) := by rw [if_neg (show ¬ (false = true) by decide)] at H; exact H
    clear H
    have H := H1
    clear H1
    simp only [Option.some.injEq, Prod.mk.injEq] at H
    obtain ⟨rfl, rfl⟩ := H
    go_enter Tryd.func33, Tryd.ntmps33
    go_wp2_with (first | ((with_reducible refine gate_dst (N := 1) rfl ?_); refine box_event ?hg (N := 1) ?hd (cs := #[.int .u32 a0_0, .int .i64 a0_1]) (t := 53) ?hr ?_; (case hd => rfl); (case hg => rfl); (case hr => first | (go_simp; done) | (go_simp; rfl)); intro gb277 hg w32 hbox hb; have n0_ := Aside0.mk (below_step (by repeat (first | (with_reducible first | exact HB.out | apply below_alloc | apply pw_below_drewN | apply below_drew1) | exact HB.out)) hb); have n1_ := Aside0.mk (hbox); have n2_ := Aside0.mk ((by rw [hg]; exact (below_size (by repeat (first | (with_reducible first | exact HB.out | apply below_alloc | apply pw_below_drewN | apply below_drew1) | exact HB.out))) : w.heap.size ≤ gb277)); have n3_ := Aside0.mk ((by rw [hg]; exact (below_size (by repeat (first | (with_reducible first | exact HB.out | apply below_alloc | apply pw_below_drewN | apply below_drew1) | exact HB.out))) : w.heap.size ≤ gb277)); clear HB; have HB := n0_; have BK277 := n1_; have GW277 := n2_; have GE277 := n3_; clear n0_ n1_ n2_ n3_; clear hb hbox hg; have hcz33_0 : w32.cell? ⟨gb277, 0, none⟩ = some (.int .u32 a0_0) := (blk_cell BK277.out 0).trans rfl; have hcz33_1 : w32.cell? ⟨gb277, 1, none⟩ = some (.int .i64 a0_1) := (blk_cell BK277.out 1).trans rfl; have hfz33_0 := blk_frozen BK277.out 0; have hfz33_1 := blk_frozen BK277.out 1) | ((with_reducible refine gate_callee (f := 53) rfl ?_); refine goesL_ (some 6) rfl rfl Tryd.func53 (by kernel_rfl) rfl #[.agg #[.int .u32 a0_0, .int .i64 a0_1]] rfl (by (try simp only [List.map_toArray, List.map_cons, List.map_nil]); first | done | rfl | (simp only [List.length_drop, List.length_take]; rfl)) ?_; (with_reducible refine (posternref20_Is.calls a0_0 a0_1 false _ A2.out).mono ?_); rintro e w34 ⟨rfl, hb⟩; refine ⟨_, rfl, ?_⟩; have n0_ := Aside0.mk (blk_below (g := gb277) (o := .cells #[.int .u32 a0_0, .int .i64 a0_1] 53 (0, 0)) (by (with_reducible repeat (first | refine blk_drewN ?_ _ | refine blk_drew ?_ | refine blk_alloc ?_ _)); exact BK277.out) hb); have n1_ := Aside0.mk (below_step (by repeat (first | (with_reducible first | exact HB.out | apply below_alloc | apply pw_below_drewN | apply below_drew1 | refine below_set ?_ GE277.out) | exact HB.out)) hb); clear BK277; clear HB; have BK277 := n0_; have HB := n1_; clear n0_ n1_; (try clear hb); (try clear hb2); (try clear hk); (try clear hi)))
    go_ret2
    exact ⟨by first | rfl | (simp [errW_none, errW_some] <;> rfl) | (simp [*, errW_none, errW_some] <;> rfl), by repeat (first | (with_reducible first | exact HB.out | apply below_alloc | apply pw_below_drewN | apply below_drew1 | refine below_set ?_ GE277.out) | exact HB.out)⟩
def posternref20_Within.f (a0_0 : Int) (a0_1 : Int) (a1 : Int) : Option (Bool) := (posternref20_Mask.f a1 a0_1).bind fun bt293 => ((posternref20_Is.f a0_0 a0_1).bind fun t295 => (if t295 = true then (some (bt293.1 == a0_0)) else (some false)))
set_option maxHeartbeats 8000000 in
set_option maxRecDepth 100000 in
theorem posternref20_Within.calls (a0_0 : Int) (a0_1 : Int) (a1 : Int) (r : Bool) (w : World) (h : posternref20_Within.f a0_0 a0_1 a1 = some r) :
    Calls Tryd.prog 38 #[.agg #[.int .u32 a0_0, .int .i64 a0_1], .int .u32 a1] w fun e w' => e = .returned (.bool r) ∧ Below w.heap.size w w' := by
  have hu53 := Tryd.underlying53
  have HB := Aside0.mk (Below.refl w.heap.size w)
  have H : ((posternref20_Mask.f a1 a0_1).bind fun bt293 => ((posternref20_Is.f a0_0 a0_1).bind fun t295 => (if t295 = true then (some (bt293.1 == a0_0)) else (some false)))) = some r := h
  clear h
  replace H := Option.bind_eq_some_iff.mp H
  obtain ⟨⟨t293, t294⟩, A30, H⟩ := H
  replace H : ((posternref20_Is.f a0_0 a0_1).bind fun t295 => (if t295 = true then (some (t293 == a0_0)) else (some false))) = some r := H
  have A3 := Aside0.mk A30
  clear A30
  replace H := Option.bind_eq_some_iff.mp H
  obtain ⟨t295, A40, H⟩ := H
  replace H : (if t295 = true then (some (t293 == a0_0)) else (some false)) = some r := H
  have A4 := Aside0.mk A40
  clear A40
  by_cases c5 : t295 = true
  · subst c5
    have H1 : (some (t293 == a0_0)) = some r := by rw [if_pos rfl] at H; exact H
    clear H
    have H := H1
    clear H1
    obtain rfl := Option.some.inj H
    go_enter Tryd.func38, Tryd.ntmps38
    go_wp2_with (first | ((with_reducible refine gate_dst (N := 2) rfl ?_); refine box_event ?hg (N := 2) ?hd (cs := #[.int .u32 a0_0, .int .i64 a0_1]) (t := 53) ?hr ?_; (case hd => rfl); (case hg => rfl); (case hr => first | (go_simp; done) | (go_simp; rfl)); intro gb292 hg w6 hbox hb; have n0_ := Aside0.mk (below_step (by repeat (first | (with_reducible first | exact HB.out | apply below_alloc | apply pw_below_drewN | apply below_drew1) | exact HB.out)) hb); have n1_ := Aside0.mk (hbox); have n2_ := Aside0.mk ((by rw [hg]; exact (below_size (by repeat (first | (with_reducible first | exact HB.out | apply below_alloc | apply pw_below_drewN | apply below_drew1) | exact HB.out))) : w.heap.size ≤ gb292)); have n3_ := Aside0.mk ((by rw [hg]; exact (below_size (by repeat (first | (with_reducible first | exact HB.out | apply below_alloc | apply pw_below_drewN | apply below_drew1) | exact HB.out))) : w.heap.size ≤ gb292)); clear HB; have HB := n0_; have BK292 := n1_; have GW292 := n2_; have GE292 := n3_; clear n0_ n1_ n2_ n3_; clear hb hbox hg; have hcz7_0 : w6.cell? ⟨gb292, 0, none⟩ = some (.int .u32 a0_0) := (blk_cell BK292.out 0).trans rfl; have hcz7_1 : w6.cell? ⟨gb292, 1, none⟩ = some (.int .i64 a0_1) := (blk_cell BK292.out 1).trans rfl; have hfz7_0 := blk_frozen BK292.out 0; have hfz7_1 := blk_frozen BK292.out 1) | ((with_reducible refine gate_callee (f := 35) rfl ?_); refine goesL_ (some 11) rfl rfl Tryd.func35 (by kernel_rfl) rfl #[.int .u32 a1, .int .i64 a0_1] rfl (by (try simp only [List.map_toArray, List.map_cons, List.map_nil]); first | done | rfl | (simp only [List.length_drop, List.length_take]; rfl)) ?_; (with_reducible refine (posternref20_Mask.calls a1 a0_1 t293 t294 _ A3.out).mono ?_); rintro e w' ⟨rfl, ⟨nd, rfl⟩⟩; refine ⟨_, rfl, ?_⟩) | ((with_reducible refine gate_callee (f := 53) rfl ?_); refine goesL_ (some 15) rfl rfl Tryd.func53 (by kernel_rfl) rfl #[.agg #[.int .u32 a0_0, .int .i64 a0_1]] rfl (by (try simp only [List.map_toArray, List.map_cons, List.map_nil]); first | done | rfl | (simp only [List.length_drop, List.length_take]; rfl)) ?_; (with_reducible refine (posternref20_Is.calls a0_0 a0_1 true _ A4.out).mono ?_); rintro e w8 ⟨rfl, hb⟩; refine ⟨_, rfl, ?_⟩; have n0_ := Aside0.mk (blk_below (g := gb292) (o := .cells #[.int .u32 a0_0, .int .i64 a0_1] 53 (0, 0)) (by (with_reducible repeat (first | refine blk_drewN ?_ _ | refine blk_drew ?_ | refine blk_alloc ?_ _)); exact BK292.out) hb); have n1_ := Aside0.mk (below_step (by repeat (first | (with_reducible first | exact HB.out | apply below_alloc | apply pw_below_drewN | apply below_drew1 | refine below_set ?_ GE292.out) | exact HB.out)) hb); clear BK292; clear HB; have BK292 := n0_; have HB := n1_; clear n0_ n1_; (try clear hb); (try clear hb2); (try clear hk); (try clear hi); have hcz9_0 : w8.cell? ⟨gb292, 0, none⟩ = some (.int .u32 a0_0) := (blk_cell BK292.out 0).trans rfl; have hcz9_1 : w8.cell? ⟨gb292, 1, none⟩ = some (.int .i64 a0_1) := (blk_cell BK292.out 1).trans rfl; have hfz9_0 := blk_frozen BK292.out 0; have hfz9_1 := blk_frozen BK292.out 1))
    go_ret
    exact ⟨by first | rfl | (simp [errW_none, errW_some] <;> rfl) | (simp [*, errW_none, errW_some] <;> rfl), by repeat (first | (with_reducible first | exact HB.out | apply below_alloc | apply pw_below_drewN | apply below_drew1 | refine below_set ?_ GE292.out) | exact HB.out)⟩
  · replace c5 := Bool.eq_false_iff.mpr c5
    subst c5
    have H1 : (some false) = some r := by rw [if_neg (show ¬ (false = true) by decide)] at H; exact H
    clear H
    have H := H1
    clear H1
    obtain rfl := Option.some.inj H
    go_enter Tryd.func38, Tryd.ntmps38
    go_wp2_with (first | ((with_reducible refine gate_dst (N := 2) rfl ?_); refine box_event ?hg (N := 2) ?hd (cs := #[.int .u32 a0_0, .int .i64 a0_1]) (t := 53) ?hr ?_; (case hd => rfl); (case hg => rfl); (case hr => first | (go_simp; done) | (go_simp; rfl)); intro gb292 hg w10 hbox hb; have n0_ := Aside0.mk (below_step (by repeat (first | (with_reducible first | exact HB.out | apply below_alloc | apply pw_below_drewN | apply below_drew1) | exact HB.out)) hb); have n1_ := Aside0.mk (hbox); have n2_ := Aside0.mk ((by rw [hg]; exact (below_size (by repeat (first | (with_reducible first | exact HB.out | apply below_alloc | apply pw_below_drewN | apply below_drew1) | exact HB.out))) : w.heap.size ≤ gb292)); have n3_ := Aside0.mk ((by rw [hg]; exact (below_size (by repeat (first | (with_reducible first | exact HB.out | apply below_alloc | apply pw_below_drewN | apply below_drew1) | exact HB.out))) : w.heap.size ≤ gb292)); clear HB; have HB := n0_; have BK292 := n1_; have GW292 := n2_; have GE292 := n3_; clear n0_ n1_ n2_ n3_; clear hb hbox hg; have hcz11_0 : w10.cell? ⟨gb292, 0, none⟩ = some (.int .u32 a0_0) := (blk_cell BK292.out 0).trans rfl; have hcz11_1 : w10.cell? ⟨gb292, 1, none⟩ = some (.int .i64 a0_1) := (blk_cell BK292.out 1).trans rfl; have hfz11_0 := blk_frozen BK292.out 0; have hfz11_1 := blk_frozen BK292.out 1) | ((with_reducible refine gate_callee (f := 35) rfl ?_); refine goesL_ (some 11) rfl rfl Tryd.func35 (by kernel_rfl) rfl #[.int .u32 a1, .int .i64 a0_1] rfl (by (try simp only [List.map_toArray, List.map_cons, List.map_nil]); first | done | rfl | (simp only [List.length_drop, List.length_take]; rfl)) ?_; (with_reducible refine (posternref20_Mask.calls a1 a0_1 t293 t294 _ A3.out).mono ?_); rintro e w' ⟨rfl, ⟨nd, rfl⟩⟩; refine ⟨_, rfl, ?_⟩) | ((with_reducible refine gate_callee (f := 53) rfl ?_); refine goesL_ (some 15) rfl rfl Tryd.func53 (by kernel_rfl) rfl #[.agg #[.int .u32 a0_0, .int .i64 a0_1]] rfl (by (try simp only [List.map_toArray, List.map_cons, List.map_nil]); first | done | rfl | (simp only [List.length_drop, List.length_take]; rfl)) ?_; (with_reducible refine (posternref20_Is.calls a0_0 a0_1 false _ A4.out).mono ?_); rintro e w12 ⟨rfl, hb⟩; refine ⟨_, rfl, ?_⟩; have n0_ := Aside0.mk (blk_below (g := gb292) (o := .cells #[.int .u32 a0_0, .int .i64 a0_1] 53 (0, 0)) (by (with_reducible repeat (first | refine blk_drewN ?_ _ | refine blk_drew ?_ | refine blk_alloc ?_ _)); exact BK292.out) hb); have n1_ := Aside0.mk (below_step (by repeat (first | (with_reducible first | exact HB.out | apply below_alloc | apply pw_below_drewN | apply below_drew1 | refine below_set ?_ GE292.out) | exact HB.out)) hb); clear BK292; clear HB; have BK292 := n0_; have HB := n1_; clear n0_ n1_; (try clear hb); (try clear hb2); (try clear hk); (try clear hi)))
    go_ret
    exact ⟨by first | rfl | (simp [errW_none, errW_some] <;> rfl) | (simp [*, errW_none, errW_some] <;> rfl), by repeat (first | (with_reducible first | exact HB.out | apply below_alloc | apply pw_below_drewN | apply below_drew1 | refine below_set ?_ GE292.out) | exact HB.out)⟩
end Go.Proofs.YtgnahagnmodpdaaDoor.X
/-! FourPreB -/
namespace Go.Proofs.YtgnahagnmodpdaaDoor
open Go.RowKit Go.Proofs.YtgnahagnmodpdaaDoorW.PrintWords Go.Proofs.YtgnahagnmodpdaaDoor.X Go.IntWalk
set_option linter.unusedVariables false
set_option linter.unusedSimpArgs false
/-- A prefix as a text. -/
def prefT (f b : Int) : List UInt8 := if isV f b = true then printV f ++ 47 :: dec3 b.toNat else []
def prefE (f b : Int) : Int := if isV f b = true then 0 else 204
theorem isV_range {f b : Int} (h : isV f b = true) : 0 ≤ b ∧ b ≤ 32 := by
  unfold isV at h
  simp only [Bool.and_eq_true, decide_eq_true_eq] at h
  exact ⟨h.1, h.2.1⟩
theorem printV_len15 (n : Int) (h0 : 0 ≤ n) (h1 : n ≤ 4294967295) : (printV n).length ≤ 15 := by
  rw [printV_dec n h0 h1]
  have a := dec3_len (n / 16777216).toNat
  have b := dec3_len (n / 65536 % 256).toNat
  have c := dec3_len (n / 256 % 256).toNat
  have d := dec3_len (n % 256).toNat
  simp only [List.length_append, List.length_cons]
  omega
theorem prefT_len (f b : Int) (f0 : 0 ≤ f) (f1 : f ≤ 4294967295) : (prefT f b).length ≤ 19 := by
  unfold prefT
  have a := printV_len15 f f0 f1
  have c := dec3_len b.toNat
  split
  · simp only [List.length_append, List.length_cons]
    omega
  · simp
theorem printPrefix_f (f b : Int) (f0 : 0 ≤ f) (f1 : f ≤ 4294967295) : four_PrintPrefix.f f b = some (BA (prefT f b), prefE f b) := by
  unfold four_PrintPrefix.f prefT prefE
  rw [is_f f b f0 f1, Option.bind_some]
  by_cases h : isV f b = true
  · obtain ⟨b0, b1⟩ := isV_range h
    have hs := printV_len15 f f0 f1
    have hd := dec3_len b.toNat
    have e1 : four_Print.f f = some (BA (printV f)) := if_pos ⟨f0, f1⟩
    have e2 : strconv_Itoa.f b = some (BA (dec3 b.toNat)) := by
      unfold strconv_Itoa.f
      rw [if_pos (by omega), itoa_small b0 (by omega)]
      rfl
    have e3 : (BA (printV f) ++ (⟨#[47]⟩ : ByteArray)) = BA (printV f ++ [47]) := ba_append _ _
    rw [if_pos h, if_pos h, if_pos h, e1, Option.bind_some, if_pos (by rw [ba_size]; omega), e2, Option.bind_some, e3, if_pos (by rw [ba_size, ba_size]; simp; omega), ba_append, List.append_assoc]
    rfl
  · rw [if_neg h, if_neg h, if_neg h]
    rfl
theorem ref_printPrefix (f b : Int) (f0 : 0 ≤ f) (f1 : f ≤ 4294967295) : Ev (fun k => posternref20_PrintPrefix.f k f b) (BA (prefT f b), prefE f b) := by
  unfold prefT prefE
  by_cases h : isV f b = true
  · obtain ⟨b0, b1⟩ := isV_range h
    have hs := printV_len15 f f0 f1
    rw [if_pos h, if_pos h]
    refine Ev.congr (f := fun k => (posternref20_Print.f k f).bind fun t279 => (if t279.size + 1 ≤ 9223372036854775807 then (if b ≥ 10 then ((some (([(wrap64 (48 + (wrap64 (Int.tdiv b 10)))) % 256] : List Int) : List Int)).bind fun y280 => (if (t279 ++ (⟨#[47]⟩ : ByteArray)).size + (strOfNums y280).size ≤ 9223372036854775807 then ((some (([(wrap64 (48 + (Int.tmod b 10))) % 256] : List Int) : List Int)).bind fun y283 => (if ((t279 ++ (⟨#[47]⟩ : ByteArray)) ++ (strOfNums y280)).size + (strOfNums y283).size ≤ 9223372036854775807 then (some (((t279 ++ (⟨#[47]⟩ : ByteArray)) ++ (strOfNums y280)) ++ (strOfNums y283), 0)) else (none))) else (none))) else ((some (([(wrap64 (48 + (Int.tmod b 10))) % 256] : List Int) : List Int)).bind fun y286 => (if (t279 ++ (⟨#[47]⟩ : ByteArray)).size + (strOfNums y286).size ≤ 9223372036854775807 then (some ((t279 ++ (⟨#[47]⟩ : ByteArray)) ++ (strOfNums y286), 0)) else (none)))) else (none))) (fun k => ?_) (Ev.bind (ref_print f f0 f1) (Ev.congr (f := fun _ => some (BA (printV f ++ 47 :: dec3 b.toNat), 0)) (fun k => ?_) (Ev.now _)))
    · unfold posternref20_PrintPrefix.f
      rw [ref_is_f f b f0 f1, Option.bind_some, if_pos h]
    · have e3 : (BA (printV f) ++ (⟨#[47]⟩ : ByteArray)) = BA (printV f ++ [47]) := ba_append _ _
      have t1 : Int.tdiv b 10 = b / 10 := Int.tdiv_eq_ediv_of_nonneg b0
      have t2 : Int.tmod b 10 = b % 10 := Int.tmod_eq_emod_of_nonneg b0
      have t3 : wrap64 (b / 10) = b / 10 := wrap64_in _ (by omega)
      have n1 : (b / 10).toNat = b.toNat / 10 := by omega
      have n2 : (b % 10).toNat = b.toNat % 10 := by omega
      rw [if_pos (by rw [ba_size]; omega), e3, t1, t2, t3]
      unfold dec3
      rw [if_neg (show ¬ 100 ≤ b.toNat by omega)]
      by_cases h10 : b ≥ 10
      · rw [if_pos h10, if_pos (show 10 ≤ b.toNat by omega), show b.toNat / 10 % 10 = b.toNat / 10 by omega]
        simp only [Option.bind_some]
        rw [str_one (b / 10) (by omega) (by omega), str_one (b % 10) (by omega) (by omega), if_pos (by rw [ba_size, ba_size]; simp; omega), ba_append, if_pos (by rw [ba_size, ba_size]; simp; omega), ba_append, n1, n2]
        simp
      · rw [if_neg h10, if_neg (show ¬ 10 ≤ b.toNat by omega)]
        simp only [Option.bind_some]
        rw [str_one (b % 10) (by omega) (by omega), if_pos (by rw [ba_size, ba_size]; simp; omega), ba_append, n2]
        simp
  · rw [if_neg h, if_neg h]
    refine Ev.congr (f := fun k => some (BA [], 204)) (fun k => ?_) (Ev.now _)
    unfold posternref20_PrintPrefix.f
    rw [ref_is_f f b f0 f1, Option.bind_some, if_neg h]
    rfl
theorem printV_no47 (n : Int) (h0 : 0 ≤ n) (h1 : n ≤ 4294967295) : ∀ c ∈ printV n, c ≠ 47 := by
  have t : ∀ v : Fin 256, ∀ c ∈ dec3 v.val, c ≠ 47 := by decide +kernel
  rw [printV_dec n h0 h1]
  intro c hc
  have a := t ⟨(n / 16777216).toNat, by omega⟩ c
  have b := t ⟨(n / 65536 % 256).toNat, by omega⟩ c
  have d := t ⟨(n / 256 % 256).toNat, by omega⟩ c
  have e := t ⟨(n % 256).toNat, by omega⟩ c
  simp only [List.mem_append, List.mem_cons] at hc
  rcases hc with hc | rfl | hc | rfl | hc | rfl | hc
  · exact a hc
  · decide
  · exact b hc
  · decide
  · exact d hc
  · decide
  · exact e hc
theorem ahead47_at {p : List UInt8} (h : ∀ c ∈ p, c ≠ 47) (t : List UInt8) : ahead47 (p ++ 47 :: t) = p ∧ behind47 (p ++ 47 :: t) = some t := by
  induction p with
  | nil => exact ⟨rfl, rfl⟩
  | cons b p ih =>
    obtain ⟨i1, i2⟩ := ih (fun c hc => h c (by simp [hc]))
    have hb := h b (by simp)
    refine ⟨?_, ?_⟩
    · rw [List.cons_append]
      unfold ahead47 at i1 ⊢
      rw [List.takeWhile_cons_of_pos (by simpa using hb), i1]
    · rw [List.cons_append, behind47, if_neg hb, i2]
theorem bits_tab : ∀ b : Fin 33, bitsL (dec3 b.val) 0 0 = ((b.val : Int), -1) := by decide +kernel
theorem pref_back (f b : Int) (f0 : 0 ≤ f) (f1 : f ≤ 4294967295) (h : isV f b = true) : prefV (prefT f b) = (f, b, 0, 0) := by
  obtain ⟨b0, b1⟩ := isV_range h
  unfold prefT prefV
  rw [if_pos h, prefL_cut _ _ _ _ _ _ (by decide)]
  obtain ⟨e1, e2⟩ := ahead47_at (printV_no47 f f0 f1) (dec3 b.toNat)
  have es := print_strict f f0 f1
  unfold strictV at es
  rw [e1, e2, es, if_pos rfl]
  simp only
  rw [show 0 + (printV f).length + 1 = ((printV f).length + 1) + 0 by omega, bitsR_L _ _ _ _ _ (by decide)]
  have ht := bits_tab ⟨b.toNat, by omega⟩
  simp only at ht
  rw [ht, if_neg (show ¬ (0 : Int) ≤ -1 by decide), Int.toNat_of_nonneg b0, if_pos h]
end Go.Proofs.YtgnahagnmodpdaaDoor
/-! FourC -/
namespace Go.Proofs.YtgnahagnmodpdaaDoor
open Go.RowKit Go.Proofs.YtgnahagnmodpdaaDoorW.PrintWords Go.Proofs.YtgnahagnmodpdaaDoor.X Go.IntWalk
set_option linter.unusedVariables false
set_option linter.unusedSimpArgs false
theorem c_awake (w : World) (hG : GW w) : Calls Tryd.prog 11 #[] w fun e w' => e = .returned (.bool true) ∧ Below w.heap.size w w' := by
  obtain ⟨k, h⟩ := awake_ev.rounds
  exact posternlaw20_awake.calls k true w hG h
end Go.Proofs.YtgnahagnmodpdaaDoor
/-! FourPrefixes -/
namespace Go.Proofs.YtgnahagnmodpdaaDoor
open Go.RowKit Go.Proofs.YtgnahagnmodpdaaDoorW.PrintWords Go.Proofs.YtgnahagnmodpdaaDoor.X Go.IntWalk
set_option linter.unusedVariables false
set_option linter.unusedSimpArgs false
theorem c_pref (s : ByteArray) (hs : s.size ≤ 9223372036854775807) (w : World) (hG : GW w) : Calls Tryd.prog 30 #[.string s] w fun e w' => e = .returned (.tuple #[.agg #[.int .u32 (prefV s.data.toList).1, .int .i64 (prefV s.data.toList).2.1], .int .i64 (prefV s.data.toList).2.2.1, .int .i64 (prefV s.data.toList).2.2.2]) ∧ Below w.heap.size w w' := by
  obtain ⟨k, h⟩ := (pref_ev s hs).rounds
  exact four_ParsePrefix.calls k s _ _ _ _ w hG h
theorem c_refpref (s : ByteArray) (hs : s.size ≤ 9223372036854775807) (w : World) : Calls Tryd.prog 31 #[.string s] w fun e w' => e = .returned (.tuple #[.agg #[.int .u32 (prefV s.data.toList).1, .int .i64 (prefV s.data.toList).2.1], .int .i64 (prefV s.data.toList).2.2.1, .int .i64 (prefV s.data.toList).2.2.2]) ∧ Below w.heap.size w w' := by
  obtain ⟨k, h⟩ := (ref_pref s hs).rounds
  exact posternref20_ParsePrefix.calls k s _ _ _ _ w h
theorem c_pp (f b : Int) (f0 : 0 ≤ f) (f1 : f ≤ 4294967295) (w : World) (hG : GW w) : Calls Tryd.prog 32 #[.agg #[.int .u32 f, .int .i64 b]] w fun e w' => e = .returned (.tuple #[.string (BA (prefT f b)), .int .i64 (prefE f b)]) ∧ Below w.heap.size w w' :=
  four_PrintPrefix.calls f b _ _ w hG (printPrefix_f f b f0 f1)
theorem c_refpp (f b : Int) (f0 : 0 ≤ f) (f1 : f ≤ 4294967295) (w : World) : Calls Tryd.prog 33 #[.agg #[.int .u32 f, .int .i64 b]] w fun e w' => e = .returned (.tuple #[.string (BA (prefT f b)), .int .i64 (prefE f b)]) ∧ Below w.heap.size w w' := by
  obtain ⟨k, h⟩ := (ref_printPrefix f b f0 f1).rounds
  exact posternref20_PrintPrefix.calls k f b _ _ w h
theorem mask4_f (n b : Int) (n0 : 0 ≤ n) (n1 : n ≤ 4294967295) : four_Mask.f n b = some (maskV n b) := by
  unfold four_Mask.f maskV
  by_cases h : b < 0
  · rw [if_pos h, if_neg (by omega)]
  · rw [if_neg h]
    by_cases h2 : b > 32
    · rw [if_pos h2, if_neg (by omega)]
    · rw [if_neg h2, if_pos (by omega), mask_f n b n0 n1 (by omega) (by omega)]
      rfl
theorem c_mask (n b : Int) (n0 : 0 ≤ n) (n1 : n ≤ 4294967295) (w : World) : Calls Tryd.prog 34 #[.int .u32 n, .int .i64 b] w fun e w' => e = .returned (.tuple #[.int .u32 (maskV n b).1, .int .i64 (maskV n b).2]) ∧ Drawn0 w w' :=
  four_Mask.calls n b _ _ w (mask4_f n b n0 n1)
theorem within_ref (f b n : Int) (f0 : 0 ≤ f) (f1 : f ≤ 4294967295) (n0 : 0 ≤ n) (n1 : n ≤ 4294967295) : posternref20_Within.f f b n = some (withinV f b n) := by
  unfold posternref20_Within.f posternref20_Mask.f
  rw [if_pos ⟨n0, n1⟩, Option.bind_some, ref_is_f f b f0 f1, Option.bind_some]
  unfold withinV
  by_cases h : isV f b = true
  · obtain ⟨b0, b1⟩ := isV_range h
    unfold maskV
    rw [if_pos h, h, if_pos ⟨b0, b1⟩, Bool.true_and]
  · rw [if_neg h, (Bool.not_eq_true _).mp h, Bool.false_and]
theorem c_within (f b n : Int) (f0 : 0 ≤ f) (f1 : f ≤ 4294967295) (n0 : 0 ≤ n) (n1 : n ≤ 4294967295) (w : World) : Calls Tryd.prog 37 #[.agg #[.int .u32 f, .int .i64 b], .int .u32 n] w fun e w' => e = .returned (.bool (withinV f b n)) ∧ Below w.heap.size w w' :=
  four_Within.calls f b n _ w (within_f f b n f0 f1 n0 n1)
theorem c_refwithin (f b n : Int) (f0 : 0 ≤ f) (f1 : f ≤ 4294967295) (n0 : 0 ≤ n) (n1 : n ≤ 4294967295) (w : World) : Calls Tryd.prog 38 #[.agg #[.int .u32 f, .int .i64 b], .int .u32 n] w fun e w' => e = .returned (.bool (withinV f b n)) ∧ Below w.heap.size w w' :=
  posternref20_Within.calls f b n _ w (within_ref f b n f0 f1 n0 n1)
theorem c_block (f b : Int) (w : World) : Calls Tryd.prog 36 #[.agg #[.int .u32 f, .int .i64 b], .agg #[.int .u32 f, .int .i64 b]] w fun e w' => e = .returned (.bool true) ∧ Below w.heap.size w w' :=
  posternlaw20_block.calls f b f b _ w (by unfold posternlaw20_block.f; simp)
theorem prefE_zero {f b : Int} (h : isV f b = true) : prefE f b = 0 := if_pos h
theorem prefE_not {f b : Int} (h : isV f b = false) : prefE f b = 204 := if_neg (by simp [h])
set_option maxHeartbeats 4000000 in
set_option maxRecDepth 100000 in
theorem prefixes_walk (s : ByteArray) (f b n : Int) (hs : s.size ≤ 9223372036854775807) (f0 : 0 ≤ f) (f1 : f ≤ 4294967295) (n0 : 0 ≤ n) (n1 : n ≤ 4294967295) (w : World) (hG : GW w) :
    Calls Tryd.prog 9 #[.string s, .agg #[.int .u32 f, .int .i64 b], .int .u32 n] w fun e w' => e = .returned (.bool true) ∧ Below w.heap.size w w' := by
  have HG := Aside0.mk hG
  have HA := Aside0.mk c_awake
  have HP := Aside0.mk (c_pref s hs)
  have HR := Aside0.mk (c_refpref s hs)
  have HQ := Aside0.mk (c_pp f b f0 f1)
  have HS := Aside0.mk (c_refpp f b f0 f1)
  have HM := Aside0.mk (c_mask n b n0 n1)
  have HN := Aside0.mk (fun w => refMask_walk n b n0 n1 w)
  have HW := Aside0.mk (c_within f b n f0 f1 n0 n1)
  have HX := Aside0.mk (c_refwithin f b n f0 f1 n0 n1)
  have hb5 : (BA (prefT f b)).size ≤ 19 := by rw [ba_size]; exact prefT_len f b f0 f1
  have HB := Aside0.mk (c_pref (BA (prefT f b)) (by omega))
  rw [ba_list] at HB
  have hback : isV f b = true → prefV (prefT f b) = (f, b, 0, 0) := pref_back f b f0 f1
  have hE : isV f b = true ∨ isV f b = false := by cases isV f b <;> simp
  obtain ⟨x, y, z, e, hv⟩ : ∃ x y z e, prefV s.data.toList = (x, y, z, e) := ⟨_, _, _, _, rfl⟩
  rw [hv] at HP HR
  obtain ⟨m1, m2, hm⟩ : ∃ x y, maskV n b = (x, y) := ⟨_, _, rfl⟩
  rw [hm] at HM HN
  obtain ⟨wi, hwi⟩ : ∃ x, x = withinV f b n := ⟨_, rfl⟩
  rw [← hwi] at HW HX
  obtain ⟨t, ht⟩ : ∃ x, x = BA (prefT f b) := ⟨_, rfl⟩
  rw [← ht] at HQ HS HB
  have HK := Aside0.mk (c_block x y)
  rcases hE with hE | hE
  · rw [hback hE] at HB
    rw [prefE_zero hE] at HQ HS
    clear hG hs hb5 hback hE hv hm hwi ht
    go_enter Tryd.func9, Tryd.ntmps9
    go_wp2_with fail
    have BK := blk_new w (.cells #[.int .u32 f, .int .i64 b] 50)
    have B0 := Below.alloc (Below.refl w.heap.size w) (Nat.le_refl _) (.cells #[.int .u32 f, .int .i64 b] 50)
    refine (HA.out _ (HG.out.keep B0)).mono ?_
    rintro e' w1 ⟨rfl, hb⟩
    have B := below_step B0 hb
    have K := blk_below BK hb
    clear BK B0 hb
    go_wp2_with fail
    refine (HP.out _ (HG.out.keep B)).mono ?_
    rintro e' w2 ⟨rfl, hb⟩
    replace B := below_step B hb
    replace K := blk_below K hb
    clear hb
    go_wp2_with fail
    have K1 := blk_new w2 (.cells #[.int .u32 x, .int .i64 y] 50)
    have BB := Below.alloc (Below.refl w2.heap.size w2) (Nat.le_refl _) (.cells #[.int .u32 x, .int .i64 y] 50)
    replace K := blk_below K BB
    replace B := below_step B BB
    refine (HR.out _).mono ?_
    rintro e' w3 ⟨rfl, hb⟩
    replace B := below_step B hb
    replace K := blk_below K hb
    replace K1 := blk_below K1 hb
    clear BB hb
    go_upto_region 5 with fail
    have K2 := blk_new w3 (.cells #[.int .u32 x, .int .i64 y] 53)
    have BB := Below.alloc (Below.refl w3.heap.size w3) (Nat.le_refl _) (.cells #[.int .u32 x, .int .i64 y] 53)
    replace K := blk_below K BB
    replace K1 := blk_below K1 BB
    replace B := below_step B BB
    clear BB
    generalize w3.alloc (.cells #[.int .u32 x, .int .i64 y] 53) = w4 at *
    generalize w2.heap.size = g1 at *
    generalize w3.heap.size = g2 at *
    have cK0 := (blk_cell K 0).trans rfl
    have cK1 := (blk_cell K 1).trans rfl
    go_wp2_with fail
    refine (HQ.out _ (HG.out.keep B)).mono ?_
    rintro e' w5 ⟨rfl, hb⟩
    clear cK0 cK1
    replace B := below_step B hb
    replace K := blk_below K hb
    replace K1 := blk_below K1 hb
    replace K2 := blk_below K2 hb
    clear hb
    have cK0 := (blk_cell K 0).trans rfl
    have cK1 := (blk_cell K 1).trans rfl
    go_wp2_with fail
    refine (HS.out _).mono ?_
    rintro e' w6 ⟨rfl, hb⟩
    clear cK0 cK1
    replace B := below_step B hb
    replace K := blk_below K hb
    replace K1 := blk_below K1 hb
    replace K2 := blk_below K2 hb
    clear hb
    have cK0 := (blk_cell K 0).trans rfl
    have cK1 := (blk_cell K 1).trans rfl
    go_wp2_with fail
    refine (HM.out _).mono ?_
    rintro e' w7 ⟨rfl, hb⟩
    have hb := hb.below
    clear cK0 cK1
    replace B := below_step B hb
    replace K := blk_below K hb
    replace K1 := blk_below K1 hb
    replace K2 := blk_below K2 hb
    clear hb
    have cK0 := (blk_cell K 0).trans rfl
    have cK1 := (blk_cell K 1).trans rfl
    go_wp2_with fail
    refine (HN.out _).mono ?_
    rintro e' w8 ⟨rfl, hb⟩
    have hb := hb.below
    clear cK0 cK1
    replace B := below_step B hb
    replace K := blk_below K hb
    replace K1 := blk_below K1 hb
    replace K2 := blk_below K2 hb
    clear hb
    go_upto_region 9 with fail
    have cK0 := (blk_cell K 0).trans rfl
    have cK1 := (blk_cell K 1).trans rfl
    have lK := blk_lt K
    have cK10 := (blk_cell K1 0).trans rfl
    have cK11 := (blk_cell K1 1).trans rfl
    have lK1 := blk_lt K1
    have cK20 := (blk_cell K2 0).trans rfl
    have cK21 := (blk_cell K2 1).trans rfl
    have lK2 := blk_lt K2
    refine wp_region_ext (by kernel_rfl) (by kernel_rfl) ?_
    repeat (go_big_quiet_step (first | (with_reducible exact ext_of (HK.out _)) | (with_reducible exact ext_of (HW.out _)) | (with_reducible exact ext_of (HX.out _))))
    refine wpQuiet_nil ?_
    rintro w9 ⟨⟨_, hb⟩, rfl⟩
    replace B := below_step B hb
    replace K := blk_below K hb
    clear cK0 cK1 cK10 cK11 cK20 cK21 lK lK1 lK2 hb K1 K2
    have cK0 := (blk_cell K 0).trans rfl
    have cK1 := (blk_cell K 1).trans rfl
    go_wp2_with fail
    refine (HB.out _ (HG.out.keep B)).mono ?_
    rintro e' wa ⟨rfl, hb⟩
    replace B := below_step B hb
    replace K := blk_below K hb
    clear hb cK0 cK1
    have cK0 := (blk_cell K 0).trans rfl
    have cK1 := (blk_cell K 1).trans rfl
    have lK := blk_lt K
    go_wp2_with fail
    go_ret
    exact ⟨rfl, Below.alloc B B.size _⟩
  · rw [prefE_not hE] at HQ HS
    clear hG hs hb5 hback hE hv hm hwi ht
    go_enter Tryd.func9, Tryd.ntmps9
    go_wp2_with fail
    have BK := blk_new w (.cells #[.int .u32 f, .int .i64 b] 50)
    have B0 := Below.alloc (Below.refl w.heap.size w) (Nat.le_refl _) (.cells #[.int .u32 f, .int .i64 b] 50)
    refine (HA.out _ (HG.out.keep B0)).mono ?_
    rintro e' w1 ⟨rfl, hb⟩
    have B := below_step B0 hb
    have K := blk_below BK hb
    clear BK B0 hb
    go_wp2_with fail
    refine (HP.out _ (HG.out.keep B)).mono ?_
    rintro e' w2 ⟨rfl, hb⟩
    replace B := below_step B hb
    replace K := blk_below K hb
    clear hb
    go_wp2_with fail
    have K1 := blk_new w2 (.cells #[.int .u32 x, .int .i64 y] 50)
    have BB := Below.alloc (Below.refl w2.heap.size w2) (Nat.le_refl _) (.cells #[.int .u32 x, .int .i64 y] 50)
    replace K := blk_below K BB
    replace B := below_step B BB
    refine (HR.out _).mono ?_
    rintro e' w3 ⟨rfl, hb⟩
    replace B := below_step B hb
    replace K := blk_below K hb
    replace K1 := blk_below K1 hb
    clear BB hb
    go_upto_region 5 with fail
    have K2 := blk_new w3 (.cells #[.int .u32 x, .int .i64 y] 53)
    have BB := Below.alloc (Below.refl w3.heap.size w3) (Nat.le_refl _) (.cells #[.int .u32 x, .int .i64 y] 53)
    replace K := blk_below K BB
    replace K1 := blk_below K1 BB
    replace B := below_step B BB
    clear BB
    generalize w3.alloc (.cells #[.int .u32 x, .int .i64 y] 53) = w4 at *
    generalize w2.heap.size = g1 at *
    generalize w3.heap.size = g2 at *
    have cK0 := (blk_cell K 0).trans rfl
    have cK1 := (blk_cell K 1).trans rfl
    go_wp2_with fail
    refine (HQ.out _ (HG.out.keep B)).mono ?_
    rintro e' w5 ⟨rfl, hb⟩
    clear cK0 cK1
    replace B := below_step B hb
    replace K := blk_below K hb
    replace K1 := blk_below K1 hb
    replace K2 := blk_below K2 hb
    clear hb
    have cK0 := (blk_cell K 0).trans rfl
    have cK1 := (blk_cell K 1).trans rfl
    go_wp2_with fail
    refine (HS.out _).mono ?_
    rintro e' w6 ⟨rfl, hb⟩
    clear cK0 cK1
    replace B := below_step B hb
    replace K := blk_below K hb
    replace K1 := blk_below K1 hb
    replace K2 := blk_below K2 hb
    clear hb
    have cK0 := (blk_cell K 0).trans rfl
    have cK1 := (blk_cell K 1).trans rfl
    go_wp2_with fail
    refine (HM.out _).mono ?_
    rintro e' w7 ⟨rfl, hb⟩
    have hb := hb.below
    clear cK0 cK1
    replace B := below_step B hb
    replace K := blk_below K hb
    replace K1 := blk_below K1 hb
    replace K2 := blk_below K2 hb
    clear hb
    have cK0 := (blk_cell K 0).trans rfl
    have cK1 := (blk_cell K 1).trans rfl
    go_wp2_with fail
    refine (HN.out _).mono ?_
    rintro e' w8 ⟨rfl, hb⟩
    have hb := hb.below
    clear cK0 cK1
    replace B := below_step B hb
    replace K := blk_below K hb
    replace K1 := blk_below K1 hb
    replace K2 := blk_below K2 hb
    clear hb
    go_upto_region 9 with fail
    have cK0 := (blk_cell K 0).trans rfl
    have cK1 := (blk_cell K 1).trans rfl
    have lK := blk_lt K
    have cK10 := (blk_cell K1 0).trans rfl
    have cK11 := (blk_cell K1 1).trans rfl
    have lK1 := blk_lt K1
    have cK20 := (blk_cell K2 0).trans rfl
    have cK21 := (blk_cell K2 1).trans rfl
    have lK2 := blk_lt K2
    refine wp_region_ext (by kernel_rfl) (by kernel_rfl) ?_
    repeat (go_big_quiet_step (first | (with_reducible exact ext_of (HK.out _)) | (with_reducible exact ext_of (HW.out _)) | (with_reducible exact ext_of (HX.out _))))
    refine wpQuiet_nil ?_
    rintro w9 ⟨⟨_, hb⟩, rfl⟩
    replace B := below_step B hb
    replace K := blk_below K hb
    clear cK0 cK1 cK10 cK11 cK20 cK21 lK lK1 lK2 hb K1 K2
    have cK0 := (blk_cell K 0).trans rfl
    have cK1 := (blk_cell K 1).trans rfl
    go_wp2_with fail
    go_ret
    exact ⟨rfl, B⟩
end Go.Proofs.YtgnahagnmodpdaaDoor
/-! Frame -/
namespace Go.Proofs.YtgnahagnmodpdaaDoor
open Go.RowKit Go.WideShapes Go.ChangeShapes Go.ChangeAt
set_option linter.unusedVariables false
set_option linter.unusedSimpArgs false
section
variable {H : Type} {enc : TypeId × Value → H} {P : Program}
theorem law_below {f : Func} {s : ChangeSpec} {apart fresh handsOn again : Bool} {W W' : World} {args : Array Value} {v : Value} {ds gs : List (DataW H)} {before pa pv : List MemPlace}
    (hW : DataW.Whole enc P f.params.toList s.vars apart W args.toList ds gs before)
    (hres : ∀ (b : Nat) (sp : Nat → Bool) (hd : Bool), DataW.TrodAll enc P W' b sp hd f.resultTypes.toList (v.resultList f.resultTypes.size) (s.fn H (ds ++ gs)).results [])
    (hargs : ∀ sp : Nat → Bool, (∀ p ∈ before, sp p.block = true) → DataW.TrodAll enc P W' 0 sp true f.params.toList args.toList (s.fn H (ds ++ gs)).args pa)
    (hvars : ∀ sp : Nat → Bool, (∀ p ∈ before, sp p.block = true) → DataW.TrodVars enc P W' sp s.vars (s.fn H (ds ++ gs)).vars pv)
    (hps : before = pa ++ pv) (hb : Below W.heap.size W W')
    (hok : ∀ (j : Nat) (t : TypeId) (r : Value), f.resultTypes[j]? = some t → (v.resultList f.resultTypes.size)[j]? = some r → Value.okWide P W' .any 0 t r) :
    s.post enc P f apart fresh handsOn again W args v W' := by
  have hlt : ∀ p ∈ before, p.block < W.heap.size := fun p hp => hW.lt p hp
  have hold : ∀ p ∈ before, (fun b => decide (b < W.heap.size)) p.block = true := fun p hp => by simpa using hlt p hp
  refine ⟨ds, gs, before, [], pa, pv, hW, hres _ _ _, hargs _ hold, hvars _ hold, World.keptBut_mono (fun p hp => ⟨hp, ?_⟩) (hb.frame (· ∈ before)), fun _ => ?_⟩
  · rw [hps, List.mem_append] at hp
    exact Or.inr hp
  · obtain ⟨_, _, _, _, _, hz, hn⟩ := hW
    refine ⟨hok, _, _, ([] ++ pa) ++ pv, ⟨[] ++ pa, pv, trodAll_append (hargs _ (fun _ _ => rfl)) (hres _ _ _), hvars _ (fun _ _ => rfl), rfl, ?_, ?_⟩, ?_⟩
    · intro b off hp
      have hin : MemPlace.cell b off ∈ before := by rw [hps]; simpa using hp
      rw [hb.frozen (hlt _ hin)]
      exact hz b off hin
    · intro ha
      have := hn ha
      rw [hps] at this
      simpa using this
    · intro p hp _
      rw [hps]
      simpa using hp
/-- All arguments read as they did, where all stays that was there. -/
theorem args_stay (hl : laidOutB P = true) {W W' : World} (hB : Below W.heap.size W W') {sp : Nat → Bool} :
    ∀ (ts : List TypeId) (vs : List Value) (ds : List (DataW H)) (ps : List MemPlace), (∀ t ∈ ts, P.readableRec t = true ∧ t < P.types.size) → DataW.TrodAll enc P W 0 (fun _ => true) true ts vs ds ps →
      (∀ p ∈ ps, p.block < W.heap.size) → (∀ p ∈ ps, sp p.block = true) → DataW.TrodAll enc P W' 0 sp true ts vs ds ps
  | [], vs, ds, ps, _, h, _, _ => by
    obtain ⟨rfl, rfl, rfl⟩ := trodAll_nil h
    exact trodAll_mk0
  | t :: ts, vs, ds, ps, hr, h, hlt, hs => by
    obtain ⟨v, vs1, d, ds1, a, b, rfl, rfl, rfl, h1, h2⟩ := trodAll_cons h
    have hlt' := hlt
    exact trodAll_cons_mk (WideElems.Trod_stays hl (hr t (by simp)).1 (hr t (by simp)).2 h1 (fun x hx => hB.same (hlt x (by simp [hx]))) (fun x hx => hs x (by simp [hx])))
      (args_stay hl hB ts vs1 ds1 b (fun t ht => hr t (by simp [ht])) h2 (fun p hp => hlt p (by simp [hp])) (fun p hp => hs p (by simp [hp])))
/-- THE STEP OF A LAW's ROW. -/
theorem law_post {f : Func} {s : ChangeSpec} {tb : TypeId} {W W' : World} {args : Array Value} {ds : List (DataW H)} {before : List MemPlace} (hv : s.vars = []) (hfn : s.fn H ds = { results := [.lit (.bool true)], args := ds })
    (hres : f.resultTypes = #[tb]) (hb : P.underlying tb = some .bool) (hl : laidOutB P = true) (hr : ∀ t ∈ f.params.toList, P.readableRec t = true ∧ t < P.types.size)
    (hW : DataW.Whole enc P f.params.toList s.vars false W args.toList ds [] before) (hB : Below W.heap.size W W') : s.post enc P f false true false false W args (.bool true) W' := by
  have hW' := hW
  obtain ⟨p, q, hA, hV, hpq, hfz, hnd⟩ := hW
  have hA : DataW.TrodAll enc P W 0 (fun _ => true) true f.params.toList args.toList ds p := hA
  rw [hv] at hV
  obtain ⟨_, rfl⟩ := trodVars_none hV
  have hlt : ∀ x ∈ before, x.block < W.heap.size := fun x hx => hW'.lt x hx
  subst hpq
  refine law_below (pa := p) (pv := []) hW' ?_ ?_ ?_ (by simp) hB ?_
  · intro b sp hd
    rw [List.append_nil, hfn, hres]
    exact trodAll_cons_mk (shut_bool hb true) trodAll_mk0
  · intro sp hs
    rw [List.append_nil, hfn]
    exact args_stay hl hB _ _ _ _ hr hA (fun x hx => hlt x (by simp [hx])) (fun x hx => hs x (by simp [hx]))
  · intro sp hs
    rw [List.append_nil, hfn, hv]
    rfl
  · exact ok_one hres rfl (okWide_bool_mk hb true)
end
end Go.Proofs.YtgnahagnmodpdaaDoor
/-! FourOpen -/
namespace Go.Proofs.YtgnahagnmodpdaaDoor
open Go.RowKit Go.WideShapes
set_option linter.unusedVariables false
set_option linter.unusedSimpArgs false
set_option maxRecDepth 100000 in
theorem i64_open {w : World} {base : Nat} {v : Value} (h : Cell.okWide Tryd.prog w .any base 3 v) : ∃ x : Int, v = .int .i64 x ∧ -9223372036854775808 ≤ x ∧ x ≤ 9223372036854775807 := by
  unfold Cell.okWide at h
  rw [Tryd.underlying3] at h
  cases v <;> simp [Cell.ok, Tryd.underlying3] at h
  rename_i k n
  obtain ⟨rfl, h1, h2⟩ := h
  exact ⟨n, rfl, by simpa [IntKind.min, IntKind.signed, IntKind.bits] using h1, by simpa [IntKind.max, IntKind.signed, IntKind.bits] using h2⟩
set_option maxRecDepth 100000 in
theorem u32_open {w : World} {base : Nat} {v : Value} (h : Cell.okWide Tryd.prog w .any base 22 v) : ∃ x : Int, v = .int .u32 x ∧ 0 ≤ x ∧ x ≤ 4294967295 := by
  unfold Cell.okWide at h
  rw [Tryd.underlying22] at h
  cases v <;> simp [Cell.ok, Tryd.underlying22] at h
  rename_i k n
  obtain ⟨rfl, h1, h2⟩ := h
  exact ⟨n, rfl, by simpa [IntKind.min, IntKind.signed] using h1, by simpa [IntKind.max, IntKind.signed, IntKind.bits] using h2⟩
theorem block_cells : Tryd.prog.cellsOf 50 = 2 := by kernel_rfl
theorem block_types : Tryd.prog.cellTypes Tryd.prog.depth 50 = some [22, 3] := by kernel_rfl
set_option maxRecDepth 100000 in
theorem block_open {w : World} {base : Nat} {v : Value} (h : Value.okWide Tryd.prog w .any base 50 v) :
    ∃ f b : Int, v = .agg #[.int .u32 f, .int .i64 b] ∧ (0 ≤ f ∧ f ≤ 4294967295) ∧ -9223372036854775808 ≤ b ∧ b ≤ 9223372036854775807 := by
  unfold Value.okWide at h
  rw [Tryd.underlying50] at h
  obtain ⟨cs, rfl, hsz, ts, hts, _, hc⟩ := h
  rw [block_cells] at hsz
  rw [block_types] at hts
  obtain rfl := (Option.some.inj hts).symm
  obtain ⟨u0, hu0, ok0⟩ := hc 0 cs[0] (Array.getElem?_eq_getElem (by omega))
  obtain ⟨u1, hu1, ok1⟩ := hc 1 cs[1] (Array.getElem?_eq_getElem (by omega))
  obtain rfl := Option.some.inj hu0
  obtain rfl := Option.some.inj hu1
  obtain ⟨f, ef, rf⟩ := u32_open ok0
  obtain ⟨b, eb, rb⟩ := i64_open ok1
  refine ⟨f, b, ?_, rf, rb⟩
  congr 1
  apply Array.ext_getElem?
  intro i
  match i with
  | 0 => rw [Array.getElem?_eq_getElem (by omega), ef]; rfl
  | 1 => rw [Array.getElem?_eq_getElem (by omega), eb]; rfl
  | i + 2 => rw [Array.getElem?_eq_none (by omega)]; rfl
end Go.Proofs.YtgnahagnmodpdaaDoor
/-! FourPrefixesCard -/
namespace Go.Proofs.YtgnahagnmodpdaaDoor.fnFourPrefixes
open Go.ChangeShapes Go.WideShapes Go.ChangeAt Go.RowKit Go.Proofs.YtgnahagnmodpdaaDoor
set_option linter.unusedVariables false
theorem own : ownKnob Tryd.prog.godebug = none := by kernel_rfl
theorem laidOut : laidOutB Tryd.prog = true := by kernel_rfl
theorem pow10_of {W : World} (hL : laidMetH Tryd.prog Rows.fourPrefixesRow.laid W) : Lib.TabIs Tryd.prog W "internal/strconv.uint64pow10" .u64 Lib.pow10Tab := by
  have h1 := laidMetH.filter (fun x => x.1 == "internal/strconv.uint64pow10") hL
  rw [show Rows.fourPrefixesRow.laid.filter (fun x => x.1 == "internal/strconv.uint64pow10") = [("internal/strconv.uint64pow10", Lib.tabData .u64 Lib.pow10Tab)] by kernel_rfl] at h1
  exact Lib.tabIs_of_head (g := 4) (n := 20) (rest := []) (by kernel_rfl) (by kernel_rfl) Tryd.underlying162 Tryd.underlying27 (by kernel_rfl) (by kernel_rfl) h1
theorem tz_of {W : World} (hL : laidMetH Tryd.prog Rows.fourPrefixesRow.laid W) : Lib.TabIs Tryd.prog W "math/bits.deBruijn64tab" .u8 (Lib.deBruijn64tab.map fun n : Nat => (n : Int)) := by
  have h1 := laidMetH.filter (fun x => x.1 == "math/bits.deBruijn64tab") hL
  rw [show Rows.fourPrefixesRow.laid.filter (fun x => x.1 == "math/bits.deBruijn64tab") = [("math/bits.deBruijn64tab", Lib.tabData .u8 (Lib.deBruijn64tab.map fun n : Nat => (n : Int)))] by kernel_rfl] at h1
  exact Lib.tabIs_of_head (g := 0) (n := 64) (rest := []) (by kernel_rfl) (by kernel_rfl) Tryd.underlying120 Tryd.underlying5 (by kernel_rfl) (by kernel_rfl) h1
theorem gw_of {W : World} (h : W.ShapedOpen Tryd.prog) (hL : laidMetH Tryd.prog Rows.fourPrefixesRow.laid W) : GW W where
  maxLen := Tryd.laysM219.s1_3 W h
  pow10 := pow10_of hL
  tz := tz_of hL
set_option maxRecDepth 100000 in
theorem contract (H : Type) (enc : TypeId × Value → H) (W : World) (base : Nat) (args : Array Value) (ds gs : List (DataW H)) (before : List MemPlace)
    (hval : ∀ (j : Nat) t v, Tryd.f9.params[j]? = some t → args[j]? = some v → Value.okWide Tryd.prog W .any base t v)
    (hW : DataW.Whole enc Tryd.prog Tryd.f9.params.toList Rows.fourPrefixesSpec.vars false W args.toList ds gs before) (hL : laidMetH Tryd.prog Rows.fourPrefixesRow.laid W) (hsh : W.ShapedOpen Tryd.prog) :
    Calls Tryd.prog 9 args W fun e W' => ∃ v, e = .returned v ∧ Rows.fourPrefixesSpec.post enc Tryd.prog Tryd.f9 false true false false W args v W' := by
  have hW' := hW
  obtain ⟨p, q, hA0, hV, rfl, hfz, hnd⟩ := hW
  have hA : DataW.TrodAll enc Tryd.prog W 0 (fun _ => true) true Tryd.f9.params.toList args.toList ds p := hA0
  rw [Tryd.params9] at hA hval
  obtain ⟨v0, vs0, d0, ds0, p0, q0, hargs, rfl, rfl, h0, r0⟩ := trodAll_cons hA
  obtain ⟨v1, vs1, d1, ds1, p1, q1, rfl, rfl, rfl, h1, r1⟩ := trodAll_cons r0
  obtain ⟨v2, vs2, d2, ds2, p2, q2, rfl, rfl, rfl, h2, r2⟩ := trodAll_cons r1
  obtain ⟨rfl, rfl, rfl⟩ := trodAll_nil r2
  obtain rfl : args = #[v0, v1, v2] := by cases args; simp_all
  obtain ⟨rfl, rfl⟩ := trodVars_none hV
  obtain ⟨s0, rfl, rfl, rfl, y0⟩ := Go.ChangeMaps.open_string Tryd.underlying9 (hval 0 9 v0 rfl rfl) h0
  obtain ⟨f1, b1, rfl, u1, w1⟩ := block_open (hval 1 50 v1 rfl rfl)
  obtain ⟨s2, rfl, rfl, rfl, y2⟩ := open_int Tryd.underlying22 (hval 2 22 v2 rfl rfl) h2
  have z2 : (0 : Int) ≤ s2 ∧ s2 ≤ 4294967295 := by
    have h := y2
    simp only [Lit.wf, Bool.and_eq_true, decide_eq_true_eq] at h
    exact h
  clear hA0
  have hG := gw_of hsh hL
  refine (prefixes_walk s0 f1 b1 s2 (Nat.le_trans y0 (by decide)) u1.1 u1.2 z2.1 z2.2 W hG).mono fun e W' ⟨he, hg⟩ => ?_
  subst he
  exact ⟨_, rfl, law_post (s := Rows.fourPrefixesSpec) (f := Tryd.f9) rfl rfl (tb := 4) rfl Tryd.underlying4 laidOut (by rw [Tryd.params9]; intro t ht; simp at ht; rcases ht with rfl | rfl | rfl <;> exact ⟨by kernel_rfl, of_decide_eq_true (by kernel_rfl)⟩) hW' hg⟩
def accepts : List Nat := [128, 191, 160, 191, 128, 159, 144, 191, 128, 143, 0, 0, 0, 0, 0, 0, 0, 0, 0, 0, 0, 0, 0, 0, 0, 0, 0, 0, 0, 0, 0, 0]
/-- A world for the witness: the settled one, the tables holding what their initialisers lay. -/
noncomputable def laidWorld (os : Os) : World := { World.holding Tryd.prog os ⟨#[], #[], []⟩ with heap := ((((((World.holding Tryd.prog os ⟨#[], #[], []⟩).heap.modify 3 fun | .cells _ t frozen => .cells (accepts.map fun (z : Nat) => Value.int .u8 z).toArray t frozen | o => o).modify 2 fun | .cells _ t frozen => .cells (Go.Pinned.utf8FirstZ.map fun (z : Nat) => Value.int .u8 z).toArray t frozen | o => o).modify 5 fun | .cells _ t frozen => .cells (([0, 1, 28, 2, 29, 14, 24, 3, 30, 22, 20, 15, 25, 17, 4, 8, 31, 27, 13, 23, 21, 19, 16, 7, 26, 12, 18, 6, 11, 5, 10, 9] : List Nat).map fun (z : Nat) => Value.int .u8 z).toArray t frozen | o => o).modify 0 fun | .cells _ t frozen => .cells ((Lib.deBruijn64tab : List Nat).map fun (z : Nat) => Value.int .u8 z).toArray t frozen | o => o).modify 4 fun | .cells _ t frozen => .cells (([1, 10, 100, 1000, 10000, 100000, 1000000, 10000000, 100000000, 1000000000, 10000000000, 100000000000, 1000000000000, 10000000000000, 100000000000000, 1000000000000000, 10000000000000000, 100000000000000000, 1000000000000000000, 10000000000000000000] : List Nat).map fun (z : Nat) => Value.int .u64 z).toArray t frozen | o => o) }
theorem laid_met (os : Os) : laidMet Tryd.prog Rows.fourPrefixesRow.laid ((laidWorld os).forCall (fun _ _ => 0) ⟨#[], #[.string ByteArray.empty, .agg #[.int .u32 0, .int .i64 0], .int .u32 0], []⟩).memory :=
  laidMet_of_run' 8 (by kernel_rfl) (by kernel_rfl)
theorem reads (os : Os) {H : Type} (enc : TypeId × Value → H) : ∃ places, DataW.whole enc Tryd.prog ((laidWorld os).forCall (fun _ _ => 0) ⟨#[], #[.string ByteArray.empty, .agg #[.int .u32 0, .int .i64 0], .int .u32 0], []⟩).memory Tryd.f9.params.toList Rows.fourPrefixesSpec.vars false (#[.string ByteArray.empty, .agg #[.int .u32 0, .int .i64 0], .int .u32 0] : Array Value).toList 8 = some ([.lit (.string []), .agg [.lit (.int .u32 0), .lit (.int .i64 0)], .lit (.int .u32 0)], [], places) :=
  ⟨[], by kernel_rfl⟩
set_option maxRecDepth 100000 in
theorem lifted (os : Os) (started : os.Started) (H : Type) (enc : TypeId × Value → H) (F : Stop.Interp) :
    ReturnsInHanded {} Tryd.checked os 9 .any ((OpenSpec.ofChange Rows.fourPrefixesSpec).preRow enc Tryd.prog Tryd.f9 Rows.fourPrefixesRow.domain false Rows.fourPrefixesRow.laid) (((OpenSpec.ofChange Rows.fourPrefixesSpec).at F).post enc Tryd.prog Tryd.f9 false true false false) := by
  obtain ⟨places, hx⟩ := reads os enc
  refine returnsInHanded_of_row (C := Tryd.checked) (s := OpenSpec.ofChange Rows.fourPrefixesSpec) own started (by kernel_rfl) Tryd.func9
    (witness_row_at (enc := enc) (C := Tryd.checked) false (laidWorld os) #[.string ByteArray.empty, .agg #[.int .u32 0, .int .i64 0], .int .u32 0] rfl (by kernel_rfl) (by kernel_rfl) (by kernel_rfl)
      (OpenSpec.preRow_of_cond 8 hx (by kernel_rfl) (fun k hk => by cases hk) (by kernel_rfl) (laid_met os))) ?_
  intro W base args ds gs before hval hW _ _ _ hL hsh _
  exact contract H enc W base args ds gs before hval hW hL hsh
theorem said : Rows.FourPrefixesSaid :=
  OpenClaim.holds_of_cond 9 Tryd.f9 rfl rfl rfl rfl rfl rfl rfl ⟨rfl, rfl, rfl, rfl, rfl⟩ rfl rfl rfl rfl rfl (by kernel_rfl) Tryd.func9 (by kernel_rfl)
    (of_decide_eq_true (by kernel_rfl)) (by unfold Func.isWrapper; first | (rw [if_pos (by decide +kernel)]; kernel_rfl) | (rw [if_neg (by decide +kernel)]; exact ⟨rfl, rfl⟩))
    (fun os started H enc _ F => by rw [OpenClaim.pre_eq_preRow]; exact lifted os started H enc F)
/-- No parameter wants a stand-in; the program's own looks are off. -/
theorem plain (f : FuncId) (fn : Func) (hf : Tryd.pinned.checked.prog.funcNamed "postern/posternlaw20.FourPrefixes" = some f) (hfn : Tryd.pinned.checked.prog.funcs[f]? = some fn) :
    false = Tryd.pinned.checked.prog.looks [] ∧ ∀ (j : Nat) t, fn.params[j]? = some t → Tryd.pinned.checked.prog.wantsStandIn t = false := by
  obtain rfl : f = 9 := Option.some.inj ((show Tryd.prog.funcNamed "postern/posternlaw20.FourPrefixes" = some 9 by kernel_rfl).symm.trans hf) |>.symm
  obtain rfl : fn = Tryd.f9 := (Option.some.inj (Tryd.func9.symm.trans hfn)).symm
  refine ⟨by kernel_rfl, fun j t ht => ?_⟩
  rw [Tryd.params9] at ht
  have hm := Array.mem_of_getElem? ht
  simp at hm
  rcases hm with rfl | rfl | rfl
  · exact (show Tryd.prog.wantsStandIn 9 = false by kernel_rfl)
  · exact (show Tryd.prog.wantsStandIn 50 = false by kernel_rfl)
  · exact (show Tryd.prog.wantsStandIn 22 = false by kernel_rfl)
theorem card : Rows.FourPrefixesCardSaid :=
  Claim7.holds_tied_plain_at .later [] _ _ _ _ said (fun _ h => by cases h) (by kernel_rfl) (fun _ h => by cases h) fourPrefixes_row_tie rfl ⟨rfl, rfl⟩ (by kernel_rfl) rfl plain (by kernel_rfl)
#print axioms card
end Go.Proofs.YtgnahagnmodpdaaDoor.fnFourPrefixes
