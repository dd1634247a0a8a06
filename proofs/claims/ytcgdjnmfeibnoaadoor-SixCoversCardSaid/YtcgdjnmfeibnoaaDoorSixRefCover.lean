/- What the document's Cover answers: the fewest prefixes. -/
import Derived.Test.YtcgdjnmfeibnoaaDoorSixRefPre
import Derived.Test.YtcgdjnmfeibnoaaDoorSixCover
import Derived.Deep.CutBlock
import Derived.Deep.DeepCutAuto
namespace Go.Proofs.YtcgdjnmfeibnoaaDoor
open Go.RowKit
set_option linter.unusedVariables false
set_option linter.unusedSimpArgs false

theorem rpre_info : (Tryd.prog.info? 61).map (fun i => (i.zero, i.size, i.bytes)) = some (some (.agg #[.int .u16 0, .int .u16 0, .int .u16 0, .int .u16 0, .int .u16 0, .int .u16 0, .int .u16 0, .int .u16 0, .int .i64 0]), 9, 24) := by kernel_rfl

/-- Eight cells: a number. -/
abbrev CA (w : World) (b : Nat) (v : Int) : Prop := C8 w b (pc 0 v) (pc 1 v) (pc 2 v) (pc 3 v) (pc 4 v) (pc 5 v) (pc 6 v) (pc 7 v)
theorem CA.keep {w W : World} {b B : Nat} {v : Int} (h : CA w b v) (hb : b < B) (hB : Below B w W) : CA W b v := by
  obtain ⟨h0, h1, h2, h3, h4, h5, h6, h7⟩ := h
  exact ⟨(hB.cell (p := ⟨b, 0, none⟩) hb).trans h0, (hB.cell (p := ⟨b, 1, none⟩) hb).trans h1, (hB.cell (p := ⟨b, 2, none⟩) hb).trans h2, (hB.cell (p := ⟨b, 3, none⟩) hb).trans h3,
    (hB.cell (p := ⟨b, 4, none⟩) hb).trans h4, (hB.cell (p := ⟨b, 5, none⟩) hb).trans h5, (hB.cell (p := ⟨b, 6, none⟩) hb).trans h6, (hB.cell (p := ⟨b, 7, none⟩) hb).trans h7⟩
/-- Nine cells: a prefix. -/
abbrev CP (w : World) (b : Nat) (v : Int) (n : Nat) : Prop := CA w b v ∧ w.cell? ⟨b, 8, none⟩ = some (.int .i64 n)

/-- What is kept: the two numbers in their boxes, the row so far. -/
structure RB (w : World) (g t : Int) (s : Value) (done : List (Int × Nat)) (W : World) : Prop where
  c0 : CA W w.heap.size g
  c1 : CA W (w.heap.size + 1) t
  own : W.ownsRow (w.heap.size + 2) 61 9 s done.length (pcells done)
  below : Below w.heap.size w W
  size : w.heap.size + 2 ≤ W.heap.size
  fz : ∀ j, W.frozen? ⟨w.heap.size, j, none⟩ = false
theorem RB.keep {w W W' : World} {g t : Int} {s : Value} {done : List (Int × Nat)} (h : RB w g t s done W) (hb : Below W.heap.size W W') : RB w g t s done W' :=
  ⟨h.c0.keep (by have := h.size; omega) hb, h.c1.keep (by have := h.size; omega) hb, own_below h.own hb, chain h.below hb, Nat.le_trans h.size hb.size,
    fun j => (hb.frozen (p := ⟨w.heap.size, j, none⟩) (by have := h.size; simp; omega)).trans (h.fz j)⟩
theorem RB.set {w W : World} {g t : Int} {s : Value} {done : List (Int × Nat)} (h : RB w g t s done W) (a : Addr) (u : Value) (ha : w.heap.size + 2 ≤ a.block) (hne : ∀ k, s.ownBlock = some k → k ≠ a.block) : RB w g t s done (W.setCell a u) := by
  have ot : ∀ b o, b < w.heap.size + 2 → (W.setCell a u).cell? ⟨b, o, none⟩ = W.cell? ⟨b, o, none⟩ := fun b o hb => World.cell?_setCell_other _ _ _ _ (by intro e; subst e; simp at ha; omega)
  refine ⟨?_, ?_, ?_, h.below.setCell (by omega) _, by simpa using h.size, fun j => by simpa using h.fz j⟩
  · obtain ⟨h0, h1, h2, h3, h4, h5, h6, h7⟩ := h.c0
    exact ⟨(ot _ _ (by omega)).trans h0, (ot _ _ (by omega)).trans h1, (ot _ _ (by omega)).trans h2, (ot _ _ (by omega)).trans h3, (ot _ _ (by omega)).trans h4, (ot _ _ (by omega)).trans h5, (ot _ _ (by omega)).trans h6, (ot _ _ (by omega)).trans h7⟩
  · obtain ⟨h0, h1, h2, h3, h4, h5, h6, h7⟩ := h.c1
    exact ⟨(ot _ _ (by omega)).trans h0, (ot _ _ (by omega)).trans h1, (ot _ _ (by omega)).trans h2, (ot _ _ (by omega)).trans h3, (ot _ _ (by omega)).trans h4, (ot _ _ (by omega)).trans h5, (ot _ _ (by omega)).trans h6, (ot _ _ (by omega)).trans h7⟩
  · refine h.own.kept (row := some a.block) ⟨rfl, rfl, rfl, by simp, fun k _ hk => Below.heap_setCell _ _ _ _ (by simpa using hk)⟩ ?_
    cases hv : s.ownBlock with
    | none => exact Or.inl rfl
    | some k => exact Or.inr (by have := hne k hv; simpa using this)
theorem RB.moved {w W : World} {g g' t : Int} {s : Value} {done : List (Int × Nat)} (h : RB w g t s done W) : RB w g' t s done ((((((((W.setCell ⟨w.heap.size, 0, none⟩ (.int .u16 (pc 0 g'))).setCell ⟨w.heap.size, 1, none⟩ (.int .u16 (pc 1 g'))).setCell ⟨w.heap.size, 2, none⟩ (.int .u16 (pc 2 g'))).setCell ⟨w.heap.size, 3, none⟩ (.int .u16 (pc 3 g'))).setCell ⟨w.heap.size, 4, none⟩ (.int .u16 (pc 4 g'))).setCell ⟨w.heap.size, 5, none⟩ (.int .u16 (pc 5 g'))).setCell ⟨w.heap.size, 6, none⟩ (.int .u16 (pc 6 g'))).setCell ⟨w.heap.size, 7, none⟩ (.int .u16 (pc 7 g'))) := by
  obtain ⟨h0, h1, h2, h3, h4, h5, h6, h7⟩ := h.c0
  obtain ⟨k0, k1, k2, k3, k4, k5, k6, k7⟩ := h.c1
  refine ⟨⟨by go_cell, by go_cell, by go_cell, by go_cell, by go_cell, by go_cell, by go_cell, by go_cell⟩, ⟨by go_cell, by go_cell, by go_cell, by go_cell, by go_cell, by go_cell, by go_cell, by go_cell⟩, ?_, ?_, by simpa using h.size, fun j => by simpa using h.fz j⟩
  · iterate 8 (refine own_set ?_ _ _ (by simp))
    exact h.own
  · iterate 8 (refine Below.setCell ?_ (by simp) _)
    exact h.below
theorem CP.grown {W W' : World} {o : Obj} {row : Option Nat} {b : Nat} {g : Int} {k : Nat} (h : CP W b g k) (hb : b < W.heap.size) (hg : (W.alloc o).grownBy W' row) (hne : some b ≠ row) : CP W' b g k := by
  have hB : Below W.heap.size W (W.alloc o) := (Below.refl _ _).alloc (Nat.le_refl _) _
  obtain ⟨⟨h0, h1, h2, h3, h4, h5, h6, h7⟩, h8⟩ := h
  have st : ∀ j v, W.cell? ⟨b, j, none⟩ = some v → W'.cell? ⟨b, j, none⟩ = some v := fun j v hv => hg.cell ((hB.cell (p := ⟨b, j, none⟩) hb).trans hv) hne
  exact ⟨⟨st _ _ h0, st _ _ h1, st _ _ h2, st _ _ h3, st _ _ h4, st _ _ h5, st _ _ h6, st _ _ h7⟩, st _ _ h8⟩
theorem eq8_pc {u v : Int} (hu : Wide u) (hv : Wide v) : (pc 0 u == pc 0 v && (pc 1 u == pc 1 v && (pc 2 u == pc 2 v && (pc 3 u == pc 3 v && (pc 4 u == pc 4 v && (pc 5 u == pc 5 v && (pc 6 u == pc 6 v && pc 7 u == pc 7 v))))))) = decide (u = v) := by
  rw [eq8_dec (pc_r8 u) (pc_r8 v), pc_v8 hu, pc_v8 hv]
/-- What stands at the head of a round of cover. -/
def RefCoverRel (w : World) (f t : Int) (s : Value) (W : World) : Prop :=
  ∃ (g : Int) (done : List (Int × Nat)), Wide g ∧ coverL f t = done ++ coverL g t ∧ g ≤ t ∧ Phase done.length g t ∧ RB w g t s done W
/-- What stands at the head of a round of the search. -/
def RefKeepRel (w1 : World) (g t : Int) (s : Value) (W : World) : Prop :=
  ∃ k : Nat, k ≤ 128 ∧ s = .int .i64 k ∧ (∀ j, j < k → ¬ OkKeep g t j) ∧ Below w1.heap.size w1 W

theorem isPrefix_yes {v : Int} {k : Nat} (hv : Wide v) (hk : k ≤ 128) (hz : v % 2 ^ (128 - k) = 0) (w : World) :
    Calls Tryd.prog 26 #[PV v k] w fun e w' => e = .returned (.bool true) ∧ Below w.heap.size w w' :=
  (isPrefix_at hv k w).mono fun e w' ⟨he, hb⟩ => ⟨by rw [he, isPre_mod hk, decide_eq_true hz], hb⟩
theorem isPrefix_not {v : Int} {k : Nat} (hv : Wide v) (hk : k ≤ 128) (hz : ¬ v % 2 ^ (128 - k) = 0) (w : World) :
    Calls Tryd.prog 26 #[PV v k] w fun e w' => e = .returned (.bool false) ∧ Below w.heap.size w w' :=
  (isPrefix_at hv k w).mono fun e w' ⟨he, hb⟩ => ⟨by rw [he, isPre_mod hk, decide_eq_false hz], hb⟩
theorem cmpI_le {x y : Int} (h : x ≤ y) : cmpI x y ≤ 0 := by
  unfold cmpI; split
  · omega
  · rw [if_neg (by omega)]; omega
theorem cmpI_not {x y : Int} (h : ¬ x ≤ y) : ¬ cmpI x y ≤ 0 := by rw [cmpI_gt (by omega)]; omega
theorem RefKeepRel.next {w1 W : World} {g t : Int} {k : Nat} (hk : k < 128) (hl : ∀ j, j < k → ¬ OkKeep g t j) (hn : ¬ OkKeep g t k) (hb : Below w1.heap.size w1 W) : RefKeepRel w1 g t (.int .i64 ((k : Int) + 1)) W := by
  refine ⟨k + 1, by omega, by simp, fun j hj => ?_, hb⟩
  by_cases hjk : j = k
  · subst hjk; exact hn
  · exact hl j (by omega)
theorem ref_keep_meas {k : Nat} (h : k < 128) : 128 - (intOf (.int .i64 ((k : Int) + 1))).toNat < 128 - (intOf (.int .i64 (k : Int))).toNat := by simp [intOf]; omega

set_option maxHeartbeats 4000000 in
set_option maxRecDepth 100000 in
theorem refCover_walk (f t : Int) (hf : Wide f) (ht : Wide t) (hft : f ≤ t) (w : World) :
    Calls Tryd.prog 14 #[AV f, AV t] w fun e w' => ∃ v, e = .returned v ∧ w'.ownsRow w.heap.size 61 9 v (coverL f t).length (pcells (coverL f t)) ∧ Below w.heap.size w w' := by
  obtain ⟨i0, hi, hz0, hz1, hz2⟩ := info_parts rpre_info
  go_enter Tryd.func14, Tryd.ntmps14
  go_wp2_with fail
  go_loopw [5] (fun s W => RefCoverRel w f t s W) (fun s _ => 258 - sliceLen s)
  case atStart =>
    refine ⟨f, [], hf, rfl, hft, Or.inl ⟨by simp, by simp⟩, ⟨⟨by go_simp, by go_simp, by go_simp, by go_simp, by go_simp, by go_simp, by go_simp, by go_simp⟩, ⟨by go_simp, by go_simp, by go_simp, by go_simp, by go_simp, by go_simp, by go_simp, by go_simp⟩, ?_, by go_grown, by go_size, fun j => by go_simp⟩⟩
    have hmade := World.ownsRow_made (base := w.heap.size + 2) (e := 61) (size := 9) ((w.alloc (.cells #[.int .u16 (pc 0 f), .int .u16 (pc 1 f), .int .u16 (pc 2 f), .int .u16 (pc 3 f), .int .u16 (pc 4 f), .int .u16 (pc 5 f), .int .u16 (pc 6 f), .int .u16 (pc 7 f)] 30)).alloc (.cells #[.int .u16 (pc 0 t), .int .u16 (pc 1 t), .int .u16 (pc 2 t), .int .u16 (pc 3 t), .int .u16 (pc 4 t), .int .u16 (pc 5 t), .int .u16 (pc 6 t), .int .u16 (pc 7 t)] 30)) #[] 0 (by simp only [World.size_alloc]; omega) (by decide) rfl
    simp only [World.size_alloc] at hmade
    exact hmade
  case round =>
    obtain ⟨w1, rfl⟩ : ∃ w1 : World, w1 = wr := ⟨_, rfl⟩
    obtain ⟨g, done, hgw, hcov, hgt, hph, hcb⟩ := hrel
    obtain ⟨c00, c01, c02, c03, c04, c05, c06, c07⟩ := hcb.c0
    have HCOV := Lib.hid hcov
    have HI := Lib.hid hi
    have HZ0 := Lib.hid hz0
    have HZ1 := Lib.hid hz1
    have HZ2 := Lib.hid hz2
    have HSL := Lib.hid (own_len hcb.own)
    clear hcov hi hz0 hz1 hz2
    go_upto_block 2 with fail
    go_cut [7] (fun s W => ∃ k : Nat, Keep g t k ∧ CP W w1.heap.size g k ∧ w1.heap.size < W.heap.size ∧ RB w g t u5 done W)
    case first =>
      have hal : Below w1.heap.size w1 (w1.alloc (.cells #[.int .u16 (pc 0 g), .int .u16 (pc 1 g), .int .u16 (pc 2 g), .int .u16 (pc 3 g), .int .u16 (pc 4 g), .int .u16 (pc 5 g), .int .u16 (pc 6 g), .int .u16 (pc 7 g), .int .i64 128] 61)) := (Below.refl _ _).alloc (Nat.le_refl _) _
      obtain ⟨w2, hw2⟩ : ∃ w2, w2 = w1.alloc (.cells #[.int .u16 (pc 0 g), .int .u16 (pc 1 g), .int .u16 (pc 2 g), .int .u16 (pc 3 g), .int .u16 (pc 4 g), .int .u16 (pc 5 g), .int .u16 (pc 6 g), .int .u16 (pc 7 g), .int .i64 128] 61) := ⟨_, rfl⟩
      rw [← hw2] at hal ⊢
      have hp : CP w2 w1.heap.size g 128 := by rw [hw2]; exact ⟨⟨by go_simp, by go_simp, by go_simp, by go_simp, by go_simp, by go_simp, by go_simp, by go_simp⟩, by go_simp⟩
      have hfp : ∀ j, w2.frozen? ⟨w1.heap.size, j, none⟩ = false := by rw [hw2]; intro j; go_simp
      have hsz2 : w1.heap.size < w2.heap.size := by rw [hw2]; simp only [World.size_alloc]; omega
      have hcb2 := hcb.keep hal
      clear hw2 c00 c01 c02 c03 c04 c05 c06 c07
      go_wp2_with fail
      go_loopw [7] (fun s W => RefKeepRel w2 g t s W) (fun s _ => 128 - (intOf s).toNat)
      case atStart => exact ⟨0, by omega, rfl, fun j hj => absurd hj (Nat.not_lt_zero j), Below.refl _ _⟩
      case round =>
        obtain ⟨k, hk, rfl, hl, hbk⟩ := hrel
        have hcb3 := hcb2.keep hbk
        have hp3 : CA wr w1.heap.size g ∧ wr.cell? ⟨w1.heap.size, 8, none⟩ = some (.int .i64 128) := ⟨hp.1.keep hsz2 hbk, (hbk.cell (p := ⟨w1.heap.size, 8, none⟩) hsz2).trans hp.2⟩
        have hsz3 : w1.heap.size < wr.heap.size := Nat.lt_of_lt_of_le hsz2 hbk.size
        by_cases hlt : k < 128
        · obtain ⟨c00, c01, c02, c03, c04, c05, c06, c07⟩ := hcb3.c0
          obtain ⟨c10, c11, c12, c13, c14, c15, c16, c17⟩ := hcb3.c1
          have l0 : w.heap.size < wr.heap.size := by have := hcb3.size; omega
          have l1 : w.heap.size + 1 < wr.heap.size := by have := hcb3.size; omega
          have hf3 : ∀ j, wr.frozen? ⟨w1.heap.size, j, none⟩ = false := fun j => (hbk.frozen (p := ⟨w1.heap.size, j, none⟩) hsz2).trans (hfp j)
          clear hp hcb2 hfp
          go_wp2_with fail
          obtain ⟨w3, hw3⟩ : ∃ w3, w3 = wr.alloc (.cells #[.int .u16 (pc 0 g), .int .u16 (pc 1 g), .int .u16 (pc 2 g), .int .u16 (pc 3 g), .int .u16 (pc 4 g), .int .u16 (pc 5 g), .int .u16 (pc 6 g), .int .u16 (pc 7 g), .int .i64 k] 61) := ⟨_, rfl⟩
          have hal3 : Below wr.heap.size wr w3 := by rw [hw3]; exact (Below.refl _ _).alloc (Nat.le_refl _) _
          have hq : CP w3 wr.heap.size g k := by rw [hw3]; exact ⟨⟨by go_simp, by go_simp, by go_simp, by go_simp, by go_simp, by go_simp, by go_simp, by go_simp⟩, by go_simp⟩
          have hqs : wr.heap.size < w3.heap.size := by rw [hw3]; simp only [World.size_alloc]; omega
          rw [← hw3]
          clear hw3
          have hcb4 := hcb3.keep hal3
          have hp4 : CA w3 w1.heap.size g ∧ w3.cell? ⟨w1.heap.size, 8, none⟩ = some (.int .i64 128) := ⟨hp3.1.keep hsz3 hal3, (hal3.cell (p := ⟨w1.heap.size, 8, none⟩) hsz3).trans hp3.2⟩
          have hf4 : ∀ j, w3.frozen? ⟨w1.heap.size, j, none⟩ = false := fun j => (hal3.frozen (p := ⟨w1.heap.size, j, none⟩) hsz3).trans (hf3 j)
          have hsz4 : w1.heap.size < w3.heap.size := Nat.lt_trans hsz3 hqs
          have hb4 := chain hbk hal3
          clear c00 c01 c02 c03 c04 c05 c06 c07 c10 c11 c12 c13 c14 c15 c16 c17 l0 l1 hcb3 hp3 hf3 hal3 hbk
          obtain ⟨c10, c11, c12, c13, c14, c15, c16, c17⟩ := hcb4.c1
          obtain ⟨⟨q0, q1, q2, q3, q4, q5, q6, q7⟩, q8⟩ := hq
          have l1 : w.heap.size + 1 < w3.heap.size := by have := hcb4.size; omega
          have HL := Lib.hid hl
          clear hl
          by_cases hz : g % 2 ^ (128 - k) = 0
          · have hlw := last_wide hgw hk hz
            have HZ := Lib.hid hz
            clear hz
            refine wp_region_ext (by kernel_rfl) (by kernel_rfl) ?_
            repeat (go_big_quiet_step (first | (with_reducible exact ext_of (isPrefix_yes hgw hk HZ.out _)) | (with_reducible exact ext_of (refLast_at hgw hk HZ.out _)) | (with_reducible exact ext_of (refCompare_at hlw ht _))))
            refine wpQuiet_nil ?_
            rintro _ ⟨⟨w4, hb5⟩, rfl⟩
            have hcb5 := hcb4.keep hb5
            have hb6 := chain hb4 hb5
            by_cases hle : g + 2 ^ (128 - k) - 1 ≤ t
            · have hc := cmpI_le hle
              generalize cmpI (g + 2 ^ (128 - k) - 1) t = c at *
              have K0 := C8_keep ⟨q0, q1, q2, q3, q4, q5, q6, q7⟩ hqs hb5
              have K8 := (hb5.cell (p := ⟨wr.heap.size, 8, none⟩) hqs).trans q8
              have P0 := CA.keep hp4.1 hsz4 hb5
              have P8 := (hb5.cell (p := ⟨w1.heap.size, 8, none⟩) hsz4).trans hp4.2
              have F := fun j => (hb5.frozen (p := ⟨w1.heap.size, j, none⟩) hsz4).trans (hf4 j)
              have S1 := Nat.lt_of_lt_of_le hsz4 hb5.size
              clear q0 q1 q2 q3 q4 q5 q6 q7 q8 c10 c11 c12 c13 c14 c15 c16 c17 l1 hp4 hf4 hb4 hb5 hcb4 hb6
              obtain ⟨q0, q1, q2, q3, q4, q5, q6, q7⟩ := K0
              obtain ⟨p0, p1, p2, p3, p4, p5, p6, p7⟩ := P0
              have f0 := F 0
              have f1 := F 1
              have f2 := F 2
              have f3 := F 3
              have f4 := F 4
              have f5 := F 5
              have f6 := F 6
              have f7 := F 7
              have f8 := F 8
              clear F
              go_wp2_with fail
              go_meet
              refine ⟨k, ⟨hk, ⟨HZ.out, hle⟩, HL.out⟩, ⟨⟨by go_cell, by go_cell, by go_cell, by go_cell, by go_cell, by go_cell, by go_cell, by go_cell⟩, by go_cell⟩, by simpa using S1, ?_⟩
              iterate 9 (refine RB.set ?_ _ _ (by have := hcb.size; simp; omega) (fun k hk => by have := (hcb.own.lt k hk).2; simp; omega))
              exact hcb5
            · have hc := cmpI_not hle
              generalize cmpI (g + 2 ^ (128 - k) - 1) t = c at *
              have HLE := Lib.hid hle
              clear hle
              go_wp2_with fail
              exact ⟨RefKeepRel.next hlt HL.out (fun h => HLE.out h.2) hb6, ref_keep_meas hlt⟩
          · refine wp_region_ext (by kernel_rfl) (by kernel_rfl) ?_
            repeat (go_big_quiet_step (first | (with_reducible exact ext_of (isPrefix_not hgw hk hz _))))
            refine wpQuiet_nil ?_
            rintro _ ⟨⟨w4, hb5⟩, rfl⟩
            have hb6 := chain hb4 hb5
            have HZ := Lib.hid hz
            clear hz
            go_wp2_with fail
            exact ⟨RefKeepRel.next hlt HL.out (fun h => HZ.out h.1) hb6, ref_keep_meas hlt⟩
        · obtain rfl : k = 128 := by omega
          have HL := Lib.hid hl
          clear hl
          go_wp2_with fail
          go_meet
          exact ⟨128, ⟨Nat.le_refl _, ok_last hgt, HL.out⟩, hp3, hsz3, hcb3⟩
    case rest =>
      obtain ⟨k, hK, hp, hsz, hcb2⟩ := hcut
      have hn : done.length ≤ 257 := hph.le
      have hown := hcb2.own
      have hszb := hcb2.size
      have hne : some w1.heap.size ≠ u5.ownBlock := fun h => by have := (hcb.own.lt _ h.symm).2; omega
      have hpp := hp
      obtain ⟨⟨p0, p1, p2, p3, p4, p5, p6, p7⟩, p8⟩ := hp
      clear c00 c01 c02 c03 c04 c05 c06 c07
      have HK := Lib.hid hK
      have HNE := Lib.hid hne
      clear hne
      go_wp2_with (at_builtin; refine app_one rfl _ _ 33 rfl (w.heap.size + 2) 61 i0 (.agg #[.int .u16 0, .int .u16 0, .int .u16 0, .int .u16 0, .int .u16 0, .int .u16 0, .int .u16 0, .int .u16 0, .int .i64 0]) 9 24 Tryd.underlying33 HI.out HZ0.out HZ1.out HZ2.out rfl (by decide) _ _ _ rfl hown [.int .u16 (pc 0 g), .int .u16 (pc 1 g), .int .u16 (pc 2 g), .int .u16 (pc 3 g), .int .u16 (pc 4 g), .int .u16 (pc 5 g), .int .u16 (pc 6 g), .int .u16 (pc 7 g), .int .i64 k] rfl rfl (by simp [Value.oneCell']) (by unfold maxLen; omega) (by omega) hszb ?_; intro G cap w4 hG hown' hgrow hbel; have hp4 := CP.grown hpp hsz hgrow HNE.out; have q0 := hp4.1.1; have q1 := hp4.1.2.1; have q2 := hp4.1.2.2.1; have q3 := hp4.1.2.2.2.1; have q4 := hp4.1.2.2.2.2.1; have q5 := hp4.1.2.2.2.2.2.1; have q6 := hp4.1.2.2.2.2.2.2.1; have q7 := hp4.1.2.2.2.2.2.2.2; have q8 := hp4.2)
      have hcb4 : RB w g t (.slice (some ⟨G, 0, none⟩) (done.length + 1) cap) (done ++ [(g, k)]) w4 :=
        ⟨hcb2.c0.keep (B := w.heap.size + 2) (by omega) (hbel _ _ (Nat.le_refl _) (Below.refl _ _)), hcb2.c1.keep (B := w.heap.size + 2) (by omega) (hbel _ _ (Nat.le_refl _) (Below.refl _ _)), by rw [List.length_append, pcells_snoc]; exact hown', hbel _ _ (by omega) hcb2.below, Nat.le_trans hszb (by have := hgrow.size; simp only [World.size_alloc] at this; omega),
          fun j => ((hbel (w.heap.size + 2) wc (Nat.le_refl _) (Below.refl _ _)).frozen (p := ⟨w.heap.size, j, none⟩) (by simp)).trans (hcb2.fz j)⟩
      clear hown' hgrow hbel hcb2 hown hszb hp4 q0 q1 q2 q3 q4 q5 q6 q7 q8 p0 p1 p2 p3 p4 p5 p6 p7 p8 hpp
      have hlw := last_wide hgw HK.out.le HK.out.ok.1
      refine (refLast_at hgw HK.out.le HK.out.ok.1 _).mono ?_
      rintro e w5 ⟨rfl, hb5⟩
      have hcb5 := hcb4.keep hb5
      clear hb5 hcb4
      obtain ⟨c10, c11, c12, c13, c14, c15, c16, c17⟩ := hcb5.c1
      have l0 : w.heap.size < w5.heap.size := by have := hcb5.size; omega
      have l1 : w.heap.size + 1 < w5.heap.size := by have := hcb5.size; omega
      have hle := HK.out.ok.2
      obtain ⟨L, hL⟩ : ∃ L, L = g + 2 ^ (128 - k) - 1 := ⟨_, rfl⟩
      rw [← hL] at hlw hle ⊢
      have HL := Lib.hid hL
      clear hL hK
      by_cases hLt : L = t
      · subst hLt
        go_wp2_with fail
        go_returns
        rw [HCOV.out, coverL_last hgt HK.out (by have := HL.out; omega)]
        exact ⟨_, rfl, own_below (World.ownsRow.mono hcb5.own (by omega)) ((Below.refl _ _).alloc (Nat.le_refl _) _), hcb5.below.alloc (by have := hcb5.size; omega) _⟩
      · have h8 := eq8_pc hlw ht
        rw [decide_eq_false hLt] at h8
        have H8 := Lib.hid h8
        clear h8
        have hmax : L < 340282366920938463463374607431768211455 := by have := ht.2; omega
        have HLT := Lib.hid hLt
        clear hLt
        go_wp2_with fail
        · exfalso
          rename_i hh
          obtain ⟨e0, e1, e2, e3, e4, e5, e6, e7⟩ := hh
          have h8 := H8.out
          rw [e0, e1, e2, e3, e4, e5, e6, e7] at h8
          exact absurd h8 (by decide)
        · refine (refNext_at hlw hmax _).mono ?_
          rintro e w6 ⟨rfl, hb6⟩
          have hal : Below w5.heap.size w5 (w5.alloc (.cells #[.int .u16 (pc 0 L), .int .u16 (pc 1 L), .int .u16 (pc 2 L), .int .u16 (pc 3 L), .int .u16 (pc 4 L), .int .u16 (pc 5 L), .int .u16 (pc 6 L), .int .u16 (pc 7 L)] 30)) := (Below.refl _ _).alloc (Nat.le_refl _) _
          have hcb6 := (hcb5.keep hal).keep hb6
          clear hal hb6 hcb5 c10 c11 c12 c13 c14 c15 c16 c17 l0 l1
          obtain ⟨c00, c01, c02, c03, c04, c05, c06, c07⟩ := hcb6.c0
          have l0 : w.heap.size < w6.heap.size := by have := hcb6.size; omega
          have f0 := hcb6.fz 0
          have f1 := hcb6.fz 1
          have f2 := hcb6.fz 2
          have f3 := hcb6.fz 3
          have f4 := hcb6.fz 4
          have f5 := hcb6.fz 5
          have f6 := hcb6.fz 6
          have f7 := hcb6.fz 7
          go_wp2_with fail
          have hL1 : L + 1 = g + 2 ^ (128 - k) := by have := HL.out; omega
          have hle2 : L + 1 ≤ t := by have := HLT.out; omega
          refine ⟨⟨L + 1, done ++ [(g, k)], ⟨by have := hlw.1; omega, by omega⟩, ?_, hle2, ?_, ?_⟩, by rw [HSL.out]; show 258 - (done.length + 1) < _; omega⟩
          · rw [HCOV.out, coverL_more hgt HK.out (by omega), hL1]
            simp
          · rw [List.length_append, hL1]
            exact hph.step hgw.1 ht.2 HK.out (by omega)
          · exact hcb6.moved
end Go.Proofs.YtcgdjnmfeibnoaaDoor
