/- SixOrders: the walk of the law. -/
import Derived.Test.YtcgdjnmfeibnoaaSixWithin
import Derived.Test.YtcgdjnmfeibnoaaSixNext
import Derived.Test.YtcgdjnmfeibnoaaSixCmp
import Derived.Test.YtcgdjnmfeibnoaaSixPrint
import Derived.Deep.DeepCutAuto
import Derived.Lib.Hide
namespace Go.Proofs.Ytcgdjnmfeibnoaa
open Go.RowKit
set_option linter.unusedVariables false
set_option linter.unusedSimpArgs false

/-- What is kept from the first statement on: the two addresses, in boxes of the call's own. -/
def Boxes (w : World) (a0 a1 a2 a3 a4 a5 a6 a7 b0 b1 b2 b3 b4 b5 b6 b7 : Int) (W : World) : Prop :=
  Below w.heap.size w W ∧ w.heap.size < W.heap.size ∧ w.heap.size + 1 < W.heap.size ∧ C8 W w.heap.size a0 a1 a2 a3 a4 a5 a6 a7 ∧ C8 W (w.heap.size + 1) b0 b1 b2 b3 b4 b5 b6 b7

theorem Boxes.keep {w W W' : World} {a0 a1 a2 a3 a4 a5 a6 a7 b0 b1 b2 b3 b4 b5 b6 b7 : Int} (h : Boxes w a0 a1 a2 a3 a4 a5 a6 a7 b0 b1 b2 b3 b4 b5 b6 b7 W) (hb : Below W.heap.size W W') :
    Boxes w a0 a1 a2 a3 a4 a5 a6 a7 b0 b1 b2 b3 b4 b5 b6 b7 W' :=
  ⟨chain h.1 hb, Nat.lt_of_lt_of_le h.2.1 hb.size, Nat.lt_of_lt_of_le h.2.2.1 hb.size, C8_keep h.2.2.2.1 h.2.1 hb, C8_keep h.2.2.2.2 h.2.2.1 hb⟩

theorem tail_tail (v n : Int) : tailOf (v - tailOf v n) n = 0 := by
  unfold tailOf
  rw [Int.sub_emod, Int.emod_emod, Int.sub_self, Int.zero_emod]

set_option maxHeartbeats 4000000 in
set_option maxRecDepth 100000 in
theorem orders_walk (a0 a1 a2 a3 a4 a5 a6 a7 b0 b1 b2 b3 b4 b5 b6 b7 n : Int) (ha : R8 a0 a1 a2 a3 a4 a5 a6 a7) (hb : R8 b0 b1 b2 b3 b4 b5 b6 b7) (w : World) :
    Calls Try.prog 3 #[A8 a0 a1 a2 a3 a4 a5 a6 a7, A8 b0 b1 b2 b3 b4 b5 b6 b7, .int .i64 n] w fun e w' => e = .returned (.bool true) ∧ Below w.heap.size w w' := by
  go_enter Try.func3, Try.ntmps3
  go_wp2_with fail
  refine (next_walk _ _ _ _ _ _ _ _ ha _).mono ?_
  rintro e w1 ⟨n0, n1, n2, n3, n4, n5, n6, n7, ok, rfl, hn, hok, hno, hb1⟩
  have hs1 := hb1.size
  simp only [World.size_alloc] at hs1
  have l0 : w.heap.size < w1.heap.size := by omega
  have l1 : w.heap.size + 1 < w1.heap.size := by omega
  have K0 : C8 w1 w.heap.size a0 a1 a2 a3 a4 a5 a6 a7 := C8_keep ⟨by go_simp, by go_simp, by go_simp, by go_simp, by go_simp, by go_simp, by go_simp, by go_simp⟩ (by simp only [World.size_alloc]; omega) hb1
  have K1 : C8 w1 (w.heap.size + 1) b0 b1 b2 b3 b4 b5 b6 b7 := C8_keep ⟨by go_simp, by go_simp, by go_simp, by go_simp, by go_simp, by go_simp, by go_simp, by go_simp⟩ (by simp only [World.size_alloc]; omega) hb1
  have B1 : Below w.heap.size w w1 := chain (by go_grown) hb1
  clear hb1 hs1
  have HOK := Lib.hid hok
  have HNO := Lib.hid hno
  clear hok hno
  go_upto_region 2 with fail
  go_cut [42] (fun s W => s = .bool false ∧ Boxes w a0 a1 a2 a3 a4 a5 a6 a7 b0 b1 b2 b3 b4 b5 b6 b7 W)
  case first =>
    have K2 : C8 (w1.alloc (.cells #[.int .u16 n0, .int .u16 n1, .int .u16 n2, .int .u16 n3, .int .u16 n4, .int .u16 n5, .int .u16 n6, .int .u16 n7] 24)) w1.heap.size n0 n1 n2 n3 n4 n5 n6 n7 := ⟨by go_simp, by go_simp, by go_simp, by go_simp, by go_simp, by go_simp, by go_simp, by go_simp⟩
    have BA := B1.alloc (o := .cells #[.int .u16 n0, .int .u16 n1, .int .u16 n2, .int .u16 n3, .int .u16 n4, .int .u16 n5, .int .u16 n6, .int .u16 n7] 24) B1.size
    have KA0 := C8_keep K0 l0 ((Below.refl w1.heap.size w1).alloc (Nat.le_refl _) (.cells #[.int .u16 n0, .int .u16 n1, .int .u16 n2, .int .u16 n3, .int .u16 n4, .int .u16 n5, .int .u16 n6, .int .u16 n7] 24))
    have KA1 := C8_keep K1 l1 ((Below.refl w1.heap.size w1).alloc (Nat.le_refl _) (.cells #[.int .u16 n0, .int .u16 n1, .int .u16 n2, .int .u16 n3, .int .u16 n4, .int .u16 n5, .int .u16 n6, .int .u16 n7] 24))
    obtain ⟨W, hW⟩ : ∃ W, W = w1.alloc (.cells #[.int .u16 n0, .int .u16 n1, .int .u16 n2, .int .u16 n3, .int .u16 n4, .int .u16 n5, .int .u16 n6, .int .u16 n7] 24) := ⟨_, rfl⟩
    have m0 : w.heap.size < W.heap.size := by rw [hW]; simp only [World.size_alloc]; omega
    have m1 : w.heap.size + 1 < W.heap.size := by rw [hW]; simp only [World.size_alloc]; omega
    have m2 : w1.heap.size < W.heap.size := by rw [hW]; simp only [World.size_alloc]; omega
    rw [← hW] at K2 BA KA0 KA1 ⊢
    have HB : Boxes w a0 a1 a2 a3 a4 a5 a6 a7 b0 b1 b2 b3 b4 b5 b6 b7 W := ⟨BA, m0, m1, KA0, KA1⟩
    clear hW K0 K1 B1 l0 l1
    cases ok with
    | false =>
      go_wp2_with fail
      go_meet
      exact ⟨rfl, HB⟩
    | true =>
      have hv := HOK.out rfl
      have hlt : V8 a0 a1 a2 a3 a4 a5 a6 a7 < V8 n0 n1 n2 n3 n4 n5 n6 n7 := by omega
      have HV := Lib.hid hv
      clear hv
      go_wp2_with fail
      refine (compare_walk _ _ _ _ _ _ _ _ _ _ _ _ _ _ _ _ ha hn _).mono ?_
      rintro e w2 ⟨rfl, hb2⟩
      rw [cmpI_lt hlt]
      have J2 := C8_keep K2 m2 hb2
      have H2 := HB.keep hb2
      have H2' := H2
      obtain ⟨_, q0, q1, J0, J1⟩ := H2'
      have q2 := Nat.lt_of_lt_of_le m2 hb2.size
      clear KA0 KA1 BA K2 hb2 HB m0 m1 m2
      go_wp2_with fail
      refine (compare_walk _ _ _ _ _ _ _ _ _ _ _ _ _ _ _ _ hn ha _).mono ?_
      rintro e w3 ⟨rfl, hb3⟩
      rw [cmpI_gt hlt]
      have L2 := C8_keep J2 q2 hb3
      have H3 := H2.keep hb3
      have H3' := H3
      obtain ⟨_, r0, r1, L0, L1⟩ := H3'
      have r2 := Nat.lt_of_lt_of_le q2 hb3.size
      clear J0 J1 J2 q0 q1 q2 H2 hb3
      go_wp2_with fail
      refine (compare_walk _ _ _ _ _ _ _ _ _ _ _ _ _ _ _ _ ha hb _).mono ?_
      rintro e w4 ⟨rfl, hb4⟩
      have M2 := C8_keep L2 r2 hb4
      have H4 := H3.keep hb4
      have H4' := H4
      obtain ⟨_, s0, s1, M0, M1⟩ := H4'
      clear L0 L1 L2 r0 r1 r2 H3 hb4
      by_cases h1 : V8 a0 a1 a2 a3 a4 a5 a6 a7 < V8 b0 b1 b2 b3 b4 b5 b6 b7
      · rw [cmpI_lt h1]
        go_wp2_with fail
        refine (compare_walk _ _ _ _ _ _ _ _ _ _ _ _ _ _ _ _ hn hb _).mono ?_
        rintro e w5 ⟨rfl, hb5⟩
        have H5 := H4.keep hb5
        clear H4 M0 M1 M2
        by_cases h2 : V8 n0 n1 n2 n3 n4 n5 n6 n7 < V8 b0 b1 b2 b3 b4 b5 b6 b7
        · rw [cmpI_lt h2]
          go_wp2_with fail
          go_meet
          exact ⟨rfl, H5⟩
        · rw [cmpI_eq (by have := HV.out; omega)]
          go_wp2_with fail
          go_meet
          exact ⟨rfl, H5⟩
      · by_cases h2 : V8 b0 b1 b2 b3 b4 b5 b6 b7 < V8 a0 a1 a2 a3 a4 a5 a6 a7
        · rw [cmpI_gt h2]
          go_wp2_with fail
          go_meet
          exact ⟨rfl, H4⟩
        · rw [cmpI_eq (by omega)]
          go_wp2_with fail
          go_meet
          exact ⟨rfl, H4⟩
  case rest =>
    obtain ⟨rfl, HB⟩ := hcut
    have HB' := HB
    obtain ⟨_, q0, q1, J0, J1⟩ := HB'
    clear HOK HNO K0 K1 B1 l0 l1 hn
    go_upto_region 4 with fail
    go_cut [60] (fun s W => s = .bool false ∧ Boxes w a0 a1 a2 a3 a4 a5 a6 a7 b0 b1 b2 b3 b4 b5 b6 b7 W)
    case first =>
      by_cases h1 : V8 a0 a1 a2 a3 a4 a5 a6 a7 < V8 b0 b1 b2 b3 b4 b5 b6 b7
      · refine wp_region_ext (by kernel_rfl) (by kernel_rfl) ?_
        repeat (go_big_quiet_step (first | (with_reducible exact ext_of (compare_lt ha hb h1 _)) | (with_reducible exact ext_of (compare_gt hb ha h1 _))))
        refine wpQuiet_nil ?_
        rintro _ ⟨⟨w2, hb2⟩, rfl⟩
        go_wp2_with fail
        rw [eq8_dec ha hb, decide_eq_false (by omega)]
        go_meet
        exact ⟨rfl, HB.keep hb2⟩
      by_cases h2 : V8 b0 b1 b2 b3 b4 b5 b6 b7 < V8 a0 a1 a2 a3 a4 a5 a6 a7
      · refine wp_region_ext (by kernel_rfl) (by kernel_rfl) ?_
        repeat (go_big_quiet_step (first | (with_reducible exact ext_of (compare_gt ha hb h2 _)) | (with_reducible exact ext_of (compare_lt hb ha h2 _))))
        refine wpQuiet_nil ?_
        rintro _ ⟨⟨w2, hb2⟩, rfl⟩
        go_wp2_with fail
        rw [eq8_dec ha hb, decide_eq_false (by omega)]
        go_meet
        exact ⟨rfl, HB.keep hb2⟩
      · have h3 : V8 a0 a1 a2 a3 a4 a5 a6 a7 = V8 b0 b1 b2 b3 b4 b5 b6 b7 := by omega
        obtain ⟨rfl, rfl, rfl, rfl, rfl, rfl, rfl, rfl⟩ := V8_inj ha hb h3
        clear h1 h2 h3
        refine wp_region_ext (by kernel_rfl) (by kernel_rfl) ?_
        repeat (go_big_quiet_step (with_reducible exact ext_of (compare_eq ha ha rfl _)))
        refine wpQuiet_nil ?_
        rintro _ ⟨⟨w2, hb2⟩, rfl⟩
        go_wp2_with fail
        go_meet
        exact ⟨rfl, HB.keep hb2⟩
    case rest =>
      obtain ⟨rfl, HC⟩ := hcut
      have HC' := HC
      obtain ⟨_, p0, p1, L0, L1⟩ := HC'
      clear HB q0 q1 J0 J1
      by_cases hn0 : n < 0
      · go_wp2_with fail
        refine (mask_less _ _ _ _ _ _ _ _ n hn0 _).mono ?_
        rintro e w2 ⟨rfl, hb2⟩
        go_wp2_with fail
        refine (awake_walk _).mono ?_
        rintro e w3 ⟨rfl, hb3⟩
        go_wp2_with fail
        go_returns
        exact ⟨rfl, chain_alloc (chain HC.1 hb2) hb3⟩
      by_cases hn1 : 128 < n
      · go_wp2_with fail
        refine (mask_more _ _ _ _ _ _ _ _ n hn1 _).mono ?_
        rintro e w2 ⟨rfl, hb2⟩
        go_wp2_with fail
        refine (awake_walk _).mono ?_
        rintro e w3 ⟨rfl, hb3⟩
        go_wp2_with fail
        go_returns
        exact ⟨rfl, chain_alloc (chain HC.1 hb2) hb3⟩
      · go_wp2_with fail
        refine (mask_walk _ _ _ _ _ _ _ _ ha n (by omega) (by omega) _).mono ?_
        rintro e w2 ⟨m0, m1, m2, m3, m4, m5, m6, m7, rfl, hm, hvm, hb2⟩
        have H2 := HC.keep hb2
        have H2' := H2
        obtain ⟨_, r0, r1, M0, M1⟩ := H2'
        clear HC p0 p1 L0 L1
        have HVM := Lib.hid hvm
        clear hvm
        go_wp2_with fail
        refine (within_walk _ _ _ _ _ _ _ _ _ _ _ _ _ _ _ _ ha hm n (by omega) (by omega) _).mono ?_
        rintro e w3 ⟨rfl, hb3⟩
        have HM : Hid (tailOf (V8 m0 m1 m2 m3 m4 m5 m6 m7) n = 0) := by rw [HVM.out]; exact tail_tail _ _
        have hle : V8 m0 m1 m2 m3 m4 m5 m6 m7 ≤ V8 a0 a1 a2 a3 a4 a5 a6 a7 := by
          have h1 := HVM.out
          have h2 : 0 ≤ tailOf (V8 a0 a1 a2 a3 a4 a5 a6 a7) n := Int.emod_nonneg _ (by have := pow_pos2 (128 - n).toNat; omega)
          omega
        rw [show decide (V8 a0 a1 a2 a3 a4 a5 a6 a7 - tailOf (V8 a0 a1 a2 a3 a4 a5 a6 a7) n = V8 m0 m1 m2 m3 m4 m5 m6 m7 - tailOf (V8 m0 m1 m2 m3 m4 m5 m6 m7) n) = true from decide_eq_true (by have h1 := HVM.out; have h2 := HM.out; omega)]
        have B3 := chain_alloc H2.1 hb3
        obtain ⟨hc3, _, hs3⟩ := after hb3
        simp only [World.size_alloc] at hs3
        have t0 : w.heap.size < w3.heap.size := by omega
        have t2 : w2.heap.size < w3.heap.size := by omega
        go_wp2_with fail
        refine (awake_walk _).mono ?_
        rintro e w4 ⟨rfl, hb4⟩
        have B4 := chain B3 hb4
        obtain ⟨hc4, _, _⟩ := after hb4
        go_wp2_with fail
        refine (compare_walk _ _ _ _ _ _ _ _ _ _ _ _ _ _ _ _ hm ha _).mono ?_
        rintro e w5 ⟨rfl, hb5⟩
        have hcv : cmpI (V8 m0 m1 m2 m3 m4 m5 m6 m7) (V8 a0 a1 a2 a3 a4 a5 a6 a7) ≤ 0 := by
          unfold cmpI; split
          · omega
          · rw [if_neg (by omega)]; omega
        generalize cmpI (V8 m0 m1 m2 m3 m4 m5 m6 m7) (V8 a0 a1 a2 a3 a4 a5 a6 a7) = c at *
        go_wp2_with fail
        go_returns
        exact ⟨by simp [hcv], chain B4 hb5⟩
end Go.Proofs.Ytcgdjnmfeibnoaa
