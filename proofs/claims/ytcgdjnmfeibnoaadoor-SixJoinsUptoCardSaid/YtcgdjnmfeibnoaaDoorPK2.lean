/- Several texts in one (wip/gen/pack.py): SixRefCover SixR8 SixJoin SixRefJoinZ. -/
import Derived.Deep.CutBlock
import Derived.Deep.DeepCutAuto
import Derived.Test.YtcgdjnmfeibnoaaDoorPK1
import Derived.Test.YtcgdjnmfeibnoaaDoorPK0
import Derived.Deep.WholeRow
/-! SixRefCover -/
namespace Go.Proofs.YtcgdjnmfeibnoaaDoor
open Go.RowKit
set_option linter.unusedVariables false
set_option linter.unusedSimpArgs false
theorem rpre_info : (Tryd.prog.info? 61).map (fun i => (i.zero, i.size, i.bytes)) = some (some (.agg #[.int .u16 0, .int .u16 0, .int .u16 0, .int .u16 0, .int .u16 0, .int .u16 0, .int .u16 0, .int .u16 0, .int .i64 0]), 9, 24) := by kernel_rfl
/-- Eight cells: a number. -/
abbrev CA (w : World) (b : Nat) (v : Int) : Prop := C8 w b (pc 0 v) (pc 1 v) (pc 2 v) (pc 3 v) (pc 4 v) (pc 5 v) (pc 6 v) (pc 7 v)
theorem CA.keep {w W : World} {b B : Nat} {v : Int} (h : CA w b v) (hb : b < B) (hB : Below B w W) : CA W b v := by
  obtain ⟨h0, h1, h2, h3, h4, h5, h6, h7⟩ := h
  exact ⟨(hB.cell (p := ⟨b, 0, none⟩) hb).trans h0, (hB.cell (p := ⟨b, 1, none⟩) hb).trans h1, (hB.cell (p := ⟨b, 2, none⟩) hb).trans h2, (hB.cell (p := ⟨b, 3, none⟩) hb).trans h3,
    (hB.cell (p := ⟨b, 4, none⟩) hb).trans h4, (hB.cell (p := ⟨b, 5, none⟩) hb).trans h5, (hB.cell (p := ⟨b, 6, none⟩) hb).trans h6, (hB.cell (p := ⟨b, 7, none⟩) hb).trans h7⟩
/-- Nine cells: a prefix. -/
abbrev CP (w : World) (b : Nat) (v : Int) (n : Nat) : Prop := CA w b v ∧ w.cell? ⟨b, 8, none⟩ = some (.int .i64 n)
/-- What is kept: the two numbers in their boxes, the row so far. -/
structure RB (w : World) (g t : Int) (s : Value) (done : List (Int × Nat)) (W : World) : Prop where
  c0 : CA W w.heap.size g
  c1 : CA W (w.heap.size + 1) t
  own : W.ownsRow (w.heap.size + 2) 61 9 s done.length (pcells done)
  below : Below w.heap.size w W
  size : w.heap.size + 2 ≤ W.heap.size
  fz : ∀ j, W.frozen? ⟨w.heap.size, j, none⟩ = false
theorem RB.keep {w W W' : World} {g t : Int} {s : Value} {done : List (Int × Nat)} (h : RB w g t s done W) (hb : Below W.heap.size W W') : RB w g t s done W' :=
  ⟨h.c0.keep (by have := h.size; omega) hb, h.c1.keep (by have := h.size; omega) hb, own_below h.own hb, chain h.below hb, Nat.le_trans h.size hb.size,
    fun j => (hb.frozen (p := ⟨w.heap.size, j, none⟩) (by have := h.size; simp; omega)).trans (h.fz j)⟩
theorem RB.set {w W : World} {g t : Int} {s : Value} {done : List (Int × Nat)} (h : RB w g t s done W) (a : Addr) (u : Value) (ha : w.heap.size + 2 ≤ a.block) (hne : ∀ k, s.ownBlock = some k → k ≠ a.block) : RB w g t s done (W.setCell a u) := by
  have ot : ∀ b o, b < w.heap.size + 2 → (W.setCell a u).cell? ⟨b, o, none⟩ = W.cell? ⟨b, o, none⟩ := fun b o hb => World.cell?_setCell_other _ _ _ _ (by intro e; subst e; simp at ha; omega)
  refine ⟨?_, ?_, ?_, h.below.setCell (by omega) _, by simpa using h.size, fun j => by simpa using h.fz j⟩
  · obtain ⟨h0, h1, h2, h3, h4, h5, h6, h7⟩ := h.c0
    exact ⟨(ot _ _ (by omega)).trans h0, (ot _ _ (by omega)).trans h1, (ot _ _ (by omega)).trans h2, (ot _ _ (by omega)).trans h3, (ot _ _ (by omega)).trans h4, (ot _ _ (by omega)).trans h5, (ot _ _ (by omega)).trans h6, (ot _ _ (by omega)).trans h7⟩
  · obtain ⟨h0, h1, h2, h3, h4, h5, h6, h7⟩ := h.c1
    exact ⟨(ot _ _ (by omega)).trans h0, (ot _ _ (by omega)).trans h1, (ot _ _ (by omega)).trans h2, (ot _ _ (by omega)).trans h3, (ot _ _ (by omega)).trans h4, (ot _ _ (by omega)).trans h5, (ot _ _ (by omega)).trans h6, (ot _ _ (by omega)).trans h7⟩
  · refine h.own.kept (row := some a.block) ⟨rfl, rfl, rfl, by simp, fun k _ hk => Below.heap_setCell _ _ _ _ (by simpa using hk)⟩ ?_
    cases hv : s.ownBlock with
    | none => exact Or.inl rfl
    | some k => exact Or.inr (by have := hne k hv; simpa using this)
theorem RB.moved {w W : World} {g g' t : Int} {s : Value} {done : List (Int × Nat)} (h : RB w g t s done W) : RB w g' t s done ((((((((W.setCell ⟨w.heap.size, 0, none⟩ (.int .u16 (pc 0 g'))).setCell ⟨w.heap.size, 1, none⟩ (.int .u16 (pc 1 g'))).setCell ⟨w.heap.size, 2, none⟩ (.int .u16 (pc 2 g'))).setCell ⟨w.heap.size, 3, none⟩ (.int .u16 (pc 3 g'))).setCell ⟨w.heap.size, 4, none⟩ (.int .u16 (pc 4 g'))).setCell ⟨w.heap.size, 5, none⟩ (.int .u16 (pc 5 g'))).setCell ⟨w.heap.size, 6, none⟩ (.int .u16 (pc 6 g'))).setCell ⟨w.heap.size, 7, none⟩ (.int .u16 (pc 7 g'))) := by
  obtain ⟨h0, h1, h2, h3, h4, h5, h6, h7⟩ := h.c0
  obtain ⟨k0, k1, k2, k3, k4, k5, k6, k7⟩ := h.c1
  refine ⟨⟨by go_cell, by go_cell, by go_cell, by go_cell, by go_cell, by go_cell, by go_cell, by go_cell⟩, ⟨by go_cell, by go_cell, by go_cell, by go_cell, by go_cell, by go_cell, by go_cell, by go_cell⟩, ?_, ?_, by simpa using h.size, fun j => by simpa using h.fz j⟩
  · iterate 8 (refine own_set ?_ _ _ (by simp))
    exact h.own
  · iterate 8 (refine Below.setCell ?_ (by simp) _)
    exact h.below
theorem CP.grown {W W' : World} {o : Obj} {row : Option Nat} {b : Nat} {g : Int} {k : Nat} (h : CP W b g k) (hb : b < W.heap.size) (hg : (W.alloc o).grownBy W' row) (hne : some b ≠ row) : CP W' b g k := by
  have hB : Below W.heap.size W (W.alloc o) := (Below.refl _ _).alloc (Nat.le_refl _) _
  obtain ⟨⟨h0, h1, h2, h3, h4, h5, h6, h7⟩, h8⟩ := h
  have st : ∀ j v, W.cell? ⟨b, j, none⟩ = some v → W'.cell? ⟨b, j, none⟩ = some v := fun j v hv => hg.cell ((hB.cell (p := ⟨b, j, none⟩) hb).trans hv) hne
  exact ⟨⟨st _ _ h0, st _ _ h1, st _ _ h2, st _ _ h3, st _ _ h4, st _ _ h5, st _ _ h6, st _ _ h7⟩, st _ _ h8⟩
theorem eq8_pc {u v : Int} (hu : Wide u) (hv : Wide v) : (pc 0 u == pc 0 v && (pc 1 u == pc 1 v && (pc 2 u == pc 2 v && (pc 3 u == pc 3 v && (pc 4 u == pc 4 v && (pc 5 u == pc 5 v && (pc 6 u == pc 6 v && pc 7 u == pc 7 v))))))) = decide (u = v) := by
  rw [eq8_dec (pc_r8 u) (pc_r8 v), pc_v8 hu, pc_v8 hv]
/-- What stands at the head of a round of cover. -/
def RefCoverRel (w : World) (f t : Int) (s : Value) (W : World) : Prop :=
  ∃ (g : Int) (done : List (Int × Nat)), Wide g ∧ coverL f t = done ++ coverL g t ∧ g ≤ t ∧ Phase done.length g t ∧ RB w g t s done W
/-- What stands at the head of a round of the search. -/
def RefKeepRel (w1 : World) (g t : Int) (s : Value) (W : World) : Prop :=
  ∃ k : Nat, k ≤ 128 ∧ s = .int .i64 k ∧ (∀ j, j < k → ¬ OkKeep g t j) ∧ Below w1.heap.size w1 W
theorem isPrefix_yes {v : Int} {k : Nat} (hv : Wide v) (hk : k ≤ 128) (hz : v % 2 ^ (128 - k) = 0) (w : World) :
    Calls Tryd.prog 26 #[PV v k] w fun e w' => e = .returned (.bool true) ∧ Below w.heap.size w w' :=
  (isPrefix_at hv k w).mono fun e w' ⟨he, hb⟩ => ⟨by rw [he, isPre_mod hk, decide_eq_true hz], hb⟩
theorem isPrefix_not {v : Int} {k : Nat} (hv : Wide v) (hk : k ≤ 128) (hz : ¬ v % 2 ^ (128 - k) = 0) (w : World) :
    Calls Tryd.prog 26 #[PV v k] w fun e w' => e = .returned (.bool false) ∧ Below w.heap.size w w' :=
  (isPrefix_at hv k w).mono fun e w' ⟨he, hb⟩ => ⟨by rw [he, isPre_mod hk, decide_eq_false hz], hb⟩
theorem cmpI_le {x y : Int} (h : x ≤ y) : cmpI x y ≤ 0 := by
  unfold cmpI; split
  · omega
  · rw [if_neg (by omega)]; omega
theorem cmpI_not {x y : Int} (h : ¬ x ≤ y) : ¬ cmpI x y ≤ 0 := by rw [cmpI_gt (by omega)]; omega
theorem RefKeepRel.next {w1 W : World} {g t : Int} {k : Nat} (hk : k < 128) (hl : ∀ j, j < k → ¬ OkKeep g t j) (hn : ¬ OkKeep g t k) (hb : Below w1.heap.size w1 W) : RefKeepRel w1 g t (.int .i64 ((k : Int) + 1)) W := by
  refine ⟨k + 1, by omega, by simp, fun j hj => ?_, hb⟩
  by_cases hjk : j = k
  · subst hjk; exact hn
  · exact hl j (by omega)
theorem ref_keep_meas {k : Nat} (h : k < 128) : 128 - (intOf (.int .i64 ((k : Int) + 1))).toNat < 128 - (intOf (.int .i64 (k : Int))).toNat := by simp [intOf]; omega
set_option maxHeartbeats 4000000 in
set_option maxRecDepth 100000 in
theorem refCover_walk (f t : Int) (hf : Wide f) (ht : Wide t) (hft : f ≤ t) (w : World) :
    Calls Tryd.prog 14 #[AV f, AV t] w fun e w' => ∃ v, e = .returned v ∧ w'.ownsRow w.heap.size 61 9 v (coverL f t).length (pcells (coverL f t)) ∧ Below w.heap.size w w' := by
  obtain ⟨i0, hi, hz0, hz1, hz2⟩ := info_parts rpre_info
  go_enter Tryd.func14, Tryd.ntmps14
  go_wp2_with fail
  go_loopw [5] (fun s W => RefCoverRel w f t s W) (fun s _ => 258 - sliceLen s)
  case atStart =>
    refine ⟨f, [], hf, rfl, hft, Or.inl ⟨by simp, by simp⟩, ⟨⟨by go_simp, by go_simp, by go_simp, by go_simp, by go_simp, by go_simp, by go_simp, by go_simp⟩, ⟨by go_simp, by go_simp, by go_simp, by go_simp, by go_simp, by go_simp, by go_simp, by go_simp⟩, ?_, by go_grown, by go_size, fun j => by go_simp⟩⟩
    have hmade := World.ownsRow_made (base := w.heap.size + 2) (e := 61) (size := 9) ((w.alloc (.cells #[.int .u16 (pc 0 f), .int .u16 (pc 1 f), .int .u16 (pc 2 f), .int .u16 (pc 3 f), .int .u16 (pc 4 f), .int .u16 (pc 5 f), .int .u16 (pc 6 f), .int .u16 (pc 7 f)] 30)).alloc (.cells #[.int .u16 (pc 0 t), .int .u16 (pc 1 t), .int .u16 (pc 2 t), .int .u16 (pc 3 t), .int .u16 (pc 4 t), .int .u16 (pc 5 t), .int .u16 (pc 6 t), .int .u16 (pc 7 t)] 30)) #[] 0 (by simp only [World.size_alloc]; omega) (by decide) rfl
    simp only [World.size_alloc] at hmade
    exact hmade
  case round =>
    obtain ⟨w1, rfl⟩ : ∃ w1 : World, w1 = wr := ⟨_, rfl⟩
    obtain ⟨g, done, hgw, hcov, hgt, hph, hcb⟩ := hrel
    obtain ⟨c00, c01, c02, c03, c04, c05, c06, c07⟩ := hcb.c0
    have HCOV := Lib.hid hcov
    have HI := Lib.hid hi
    have HZ0 := Lib.hid hz0
    have HZ1 := Lib.hid hz1
    have HZ2 := Lib.hid hz2
    have HSL := Lib.hid (own_len hcb.own)
    clear hcov hi hz0 hz1 hz2
    go_upto_block 2 with fail
    go_cut [7] (fun s W => ∃ k : Nat, Keep g t k ∧ CP W w1.heap.size g k ∧ w1.heap.size < W.heap.size ∧ RB w g t u5 done W)
    case first =>
      have hal : Below w1.heap.size w1 (w1.alloc (.cells #[.int .u16 (pc 0 g), .int .u16 (pc 1 g), .int .u16 (pc 2 g), .int .u16 (pc 3 g), .int .u16 (pc 4 g), .int .u16 (pc 5 g), .int .u16 (pc 6 g), .int .u16 (pc 7 g), .int .i64 128] 61)) := (Below.refl _ _).alloc (Nat.le_refl _) _
      obtain ⟨w2, hw2⟩ : ∃ w2, w2 = w1.alloc (.cells #[.int .u16 (pc 0 g), .int .u16 (pc 1 g), .int .u16 (pc 2 g), .int .u16 (pc 3 g), .int .u16 (pc 4 g), .int .u16 (pc 5 g), .int .u16 (pc 6 g), .int .u16 (pc 7 g), .int .i64 128] 61) := ⟨_, rfl⟩
      rw [← hw2] at hal ⊢
      have hp : CP w2 w1.heap.size g 128 := by rw [hw2]; exact ⟨⟨by go_simp, by go_simp, by go_simp, by go_simp, by go_simp, by go_simp, by go_simp, by go_simp⟩, by go_simp⟩
      have hfp : ∀ j, w2.frozen? ⟨w1.heap.size, j, none⟩ = false := by rw [hw2]; intro j; go_simp
      have hsz2 : w1.heap.size < w2.heap.size := by rw [hw2]; simp only [World.size_alloc]; omega
      have hcb2 := hcb.keep hal
      clear hw2 c00 c01 c02 c03 c04 c05 c06 c07
      go_wp2_with fail
      go_loopw [7] (fun s W => RefKeepRel w2 g t s W) (fun s _ => 128 - (intOf s).toNat)
      case atStart => exact ⟨0, by omega, rfl, fun j hj => absurd hj (Nat.not_lt_zero j), Below.refl _ _⟩
      case round =>
        obtain ⟨k, hk, rfl, hl, hbk⟩ := hrel
        have hcb3 := hcb2.keep hbk
        have hp3 : CA wr w1.heap.size g ∧ wr.cell? ⟨w1.heap.size, 8, none⟩ = some (.int .i64 128) := ⟨hp.1.keep hsz2 hbk, (hbk.cell (p := ⟨w1.heap.size, 8, none⟩) hsz2).trans hp.2⟩
        have hsz3 : w1.heap.size < wr.heap.size := Nat.lt_of_lt_of_le hsz2 hbk.size
        by_cases hlt : k < 128
        · obtain ⟨c00, c01, c02, c03, c04, c05, c06, c07⟩ := hcb3.c0
          obtain ⟨c10, c11, c12, c13, c14, c15, c16, c17⟩ := hcb3.c1
          have l0 : w.heap.size < wr.heap.size := by have := hcb3.size; omega
          have l1 : w.heap.size + 1 < wr.heap.size := by have := hcb3.size; omega
          have hf3 : ∀ j, wr.frozen? ⟨w1.heap.size, j, none⟩ = false := fun j => (hbk.frozen (p := ⟨w1.heap.size, j, none⟩) hsz2).trans (hfp j)
          clear hp hcb2 hfp
          go_wp2_with fail
          obtain ⟨w3, hw3⟩ : ∃ w3, w3 = wr.alloc (.cells #[.int .u16 (pc 0 g), .int .u16 (pc 1 g), .int .u16 (pc 2 g), .int .u16 (pc 3 g), .int .u16 (pc 4 g), .int .u16 (pc 5 g), .int .u16 (pc 6 g), .int .u16 (pc 7 g), .int .i64 k] 61) := ⟨_, rfl⟩
          have hal3 : Below wr.heap.size wr w3 := by rw [hw3]; exact (Below.refl _ _).alloc (Nat.le_refl _) _
          have hq : CP w3 wr.heap.size g k := by rw [hw3]; exact ⟨⟨by go_simp, by go_simp, by go_simp, by go_simp, by go_simp, by go_simp, by go_simp, by go_simp⟩, by go_simp⟩
          have hqs : wr.heap.size < w3.heap.size := by rw [hw3]; simp only [World.size_alloc]; omega
          rw [← hw3]
          clear hw3
          have hcb4 := hcb3.keep hal3
          have hp4 : CA w3 w1.heap.size g ∧ w3.cell? ⟨w1.heap.size, 8, none⟩ = some (.int .i64 128) := ⟨hp3.1.keep hsz3 hal3, (hal3.cell (p := ⟨w1.heap.size, 8, none⟩) hsz3).trans hp3.2⟩
          have hf4 : ∀ j, w3.frozen? ⟨w1.heap.size, j, none⟩ = false := fun j => (hal3.frozen (p := ⟨w1.heap.size, j, none⟩) hsz3).trans (hf3 j)
          have hsz4 : w1.heap.size < w3.heap.size := Nat.lt_trans hsz3 hqs
          have hb4 := chain hbk hal3
          clear c00 c01 c02 c03 c04 c05 c06 c07 c10 c11 c12 c13 c14 c15 c16 c17 l0 l1 hcb3 hp3 hf3 hal3 hbk
          obtain ⟨c10, c11, c12, c13, c14, c15, c16, c17⟩ := hcb4.c1
          obtain ⟨⟨q0, q1, q2, q3, q4, q5, q6, q7⟩, q8⟩ := hq
          have l1 : w.heap.size + 1 < w3.heap.size := by have := hcb4.size; omega
          have HL := Lib.hid hl
          clear hl
          by_cases hz : g % 2 ^ (128 - k) = 0
          · have hlw := last_wide hgw hk hz
            have HZ := Lib.hid hz
            clear hz
            refine wp_region_ext (by kernel_rfl) (by kernel_rfl) ?_
            repeat (go_big_quiet_step (first | (with_reducible exact ext_of (isPrefix_yes hgw hk HZ.out _)) | (with_reducible exact ext_of (refLast_at hgw hk HZ.out _)) | (with_reducible exact ext_of (refCompare_at hlw ht _))))
            refine wpQuiet_nil ?_
            rintro _ ⟨⟨w4, hb5⟩, rfl⟩
            have hcb5 := hcb4.keep hb5
            have hb6 := chain hb4 hb5
            by_cases hle : g + 2 ^ (128 - k) - 1 ≤ t
            · have hc := cmpI_le hle
              generalize cmpI (g + 2 ^ (128 - k) - 1) t = c at *
              have K0 := C8_keep ⟨q0, q1, q2, q3, q4, q5, q6, q7⟩ hqs hb5
              have K8 := (hb5.cell (p := ⟨wr.heap.size, 8, none⟩) hqs).trans q8
              have P0 := CA.keep hp4.1 hsz4 hb5
              have P8 := (hb5.cell (p := ⟨w1.heap.size, 8, none⟩) hsz4).trans hp4.2
              have F := fun j => (hb5.frozen (p := ⟨w1.heap.size, j, none⟩) hsz4).trans (hf4 j)
              have S1 := Nat.lt_of_lt_of_le hsz4 hb5.size
              clear q0 q1 q2 q3 q4 q5 q6 q7 q8 c10 c11 c12 c13 c14 c15 c16 c17 l1 hp4 hf4 hb4 hb5 hcb4 hb6
              obtain ⟨q0, q1, q2, q3, q4, q5, q6, q7⟩ := K0
              obtain ⟨p0, p1, p2, p3, p4, p5, p6, p7⟩ := P0
              have f0 := F 0
              have f1 := F 1
              have f2 := F 2
              have f3 := F 3
              have f4 := F 4
              have f5 := F 5
              have f6 := F 6
              have f7 := F 7
              have f8 := F 8
              clear F
              go_wp2_with fail
              go_meet
              refine ⟨k, ⟨hk, ⟨HZ.out, hle⟩, HL.out⟩, ⟨⟨by go_cell, by go_cell, by go_cell, by go_cell, by go_cell, by go_cell, by go_cell, by go_cell⟩, by go_cell⟩, by simpa using S1, ?_⟩
              iterate 9 (refine RB.set ?_ _ _ (by have := hcb.size; simp; omega) (fun k hk => by have := (hcb.own.lt k hk).2; simp; omega))
              exact hcb5
            · have hc := cmpI_not hle
              generalize cmpI (g + 2 ^ (128 - k) - 1) t = c at *
              have HLE := Lib.hid hle
              clear hle
              go_wp2_with fail
              exact ⟨RefKeepRel.next hlt HL.out (fun h => HLE.out h.2) hb6, ref_keep_meas hlt⟩
          · refine wp_region_ext (by kernel_rfl) (by kernel_rfl) ?_
            repeat (go_big_quiet_step (first | (with_reducible exact ext_of (isPrefix_not hgw hk hz _))))
            refine wpQuiet_nil ?_
            rintro _ ⟨⟨w4, hb5⟩, rfl⟩
            have hb6 := chain hb4 hb5
            have HZ := Lib.hid hz
            clear hz
            go_wp2_with fail
            exact ⟨RefKeepRel.next hlt HL.out (fun h => HZ.out h.1) hb6, ref_keep_meas hlt⟩
        · obtain rfl : k = 128 := by omega
          have HL := Lib.hid hl
          clear hl
          go_wp2_with fail
          go_meet
          exact ⟨128, ⟨Nat.le_refl _, ok_last hgt, HL.out⟩, hp3, hsz3, hcb3⟩
    case rest =>
      obtain ⟨k, hK, hp, hsz, hcb2⟩ := hcut
      have hn : done.length ≤ 257 := hph.le
      have hown := hcb2.own
      have hszb := hcb2.size
      have hne : some w1.heap.size ≠ u5.ownBlock := fun h => by have := (hcb.own.lt _ h.symm).2; omega
      have hpp := hp
      obtain ⟨⟨p0, p1, p2, p3, p4, p5, p6, p7⟩, p8⟩ := hp
      clear c00 c01 c02 c03 c04 c05 c06 c07
      have HK := Lib.hid hK
      have HNE := Lib.hid hne
      clear hne
      go_wp2_with (at_builtin; refine app_one rfl _ _ 33 rfl (w.heap.size + 2) 61 i0 (.agg #[.int .u16 0, .int .u16 0, .int .u16 0, .int .u16 0, .int .u16 0, .int .u16 0, .int .u16 0, .int .u16 0, .int .i64 0]) 9 24 Tryd.underlying33 HI.out HZ0.out HZ1.out HZ2.out rfl (by decide) _ _ _ rfl hown [.int .u16 (pc 0 g), .int .u16 (pc 1 g), .int .u16 (pc 2 g), .int .u16 (pc 3 g), .int .u16 (pc 4 g), .int .u16 (pc 5 g), .int .u16 (pc 6 g), .int .u16 (pc 7 g), .int .i64 k] rfl rfl (by simp [Value.oneCell']) (by unfold maxLen; omega) (by omega) hszb ?_; intro G cap w4 hG hown' hgrow hbel; have hp4 := CP.grown hpp hsz hgrow HNE.out; have q0 := hp4.1.1; have q1 := hp4.1.2.1; have q2 := hp4.1.2.2.1; have q3 := hp4.1.2.2.2.1; have q4 := hp4.1.2.2.2.2.1; have q5 := hp4.1.2.2.2.2.2.1; have q6 := hp4.1.2.2.2.2.2.2.1; have q7 := hp4.1.2.2.2.2.2.2.2; have q8 := hp4.2)
      have hcb4 : RB w g t (.slice (some ⟨G, 0, none⟩) (done.length + 1) cap) (done ++ [(g, k)]) w4 :=
        ⟨hcb2.c0.keep (B := w.heap.size + 2) (by omega) (hbel _ _ (Nat.le_refl _) (Below.refl _ _)), hcb2.c1.keep (B := w.heap.size + 2) (by omega) (hbel _ _ (Nat.le_refl _) (Below.refl _ _)), by rw [List.length_append, pcells_snoc]; exact hown', hbel _ _ (by omega) hcb2.below, Nat.le_trans hszb (by have := hgrow.size; simp only [World.size_alloc] at this; omega),
          fun j => ((hbel (w.heap.size + 2) wc (Nat.le_refl _) (Below.refl _ _)).frozen (p := ⟨w.heap.size, j, none⟩) (by simp)).trans (hcb2.fz j)⟩
      clear hown' hgrow hbel hcb2 hown hszb hp4 q0 q1 q2 q3 q4 q5 q6 q7 q8 p0 p1 p2 p3 p4 p5 p6 p7 p8 hpp
      have hlw := last_wide hgw HK.out.le HK.out.ok.1
      refine (refLast_at hgw HK.out.le HK.out.ok.1 _).mono ?_
      rintro e w5 ⟨rfl, hb5⟩
      have hcb5 := hcb4.keep hb5
      clear hb5 hcb4
      obtain ⟨c10, c11, c12, c13, c14, c15, c16, c17⟩ := hcb5.c1
      have l0 : w.heap.size < w5.heap.size := by have := hcb5.size; omega
      have l1 : w.heap.size + 1 < w5.heap.size := by have := hcb5.size; omega
      have hle := HK.out.ok.2
      obtain ⟨L, hL⟩ : ∃ L, L = g + 2 ^ (128 - k) - 1 := ⟨_, rfl⟩
      rw [← hL] at hlw hle ⊢
      have HL := Lib.hid hL
      clear hL hK
      by_cases hLt : L = t
      · subst hLt
        go_wp2_with fail
        go_returns
        rw [HCOV.out, coverL_last hgt HK.out (by have := HL.out; omega)]
        exact ⟨_, rfl, own_below (World.ownsRow.mono hcb5.own (by omega)) ((Below.refl _ _).alloc (Nat.le_refl _) _), hcb5.below.alloc (by have := hcb5.size; omega) _⟩
      · have h8 := eq8_pc hlw ht
        rw [decide_eq_false hLt] at h8
        have H8 := Lib.hid h8
        clear h8
        have hmax : L < 340282366920938463463374607431768211455 := by have := ht.2; omega
        have HLT := Lib.hid hLt
        clear hLt
        go_wp2_with fail
        · exfalso
          rename_i hh
          obtain ⟨e0, e1, e2, e3, e4, e5, e6, e7⟩ := hh
          have h8 := H8.out
          rw [e0, e1, e2, e3, e4, e5, e6, e7] at h8
          exact absurd h8 (by decide)
        · refine (refNext_at hlw hmax _).mono ?_
          rintro e w6 ⟨rfl, hb6⟩
          have hal : Below w5.heap.size w5 (w5.alloc (.cells #[.int .u16 (pc 0 L), .int .u16 (pc 1 L), .int .u16 (pc 2 L), .int .u16 (pc 3 L), .int .u16 (pc 4 L), .int .u16 (pc 5 L), .int .u16 (pc 6 L), .int .u16 (pc 7 L)] 30)) := (Below.refl _ _).alloc (Nat.le_refl _) _
          have hcb6 := (hcb5.keep hal).keep hb6
          clear hal hb6 hcb5 c10 c11 c12 c13 c14 c15 c16 c17 l0 l1
          obtain ⟨c00, c01, c02, c03, c04, c05, c06, c07⟩ := hcb6.c0
          have l0 : w.heap.size < w6.heap.size := by have := hcb6.size; omega
          have f0 := hcb6.fz 0
          have f1 := hcb6.fz 1
          have f2 := hcb6.fz 2
          have f3 := hcb6.fz 3
          have f4 := hcb6.fz 4
          have f5 := hcb6.fz 5
          have f6 := hcb6.fz 6
          have f7 := hcb6.fz 7
          go_wp2_with fail
          have hL1 : L + 1 = g + 2 ^ (128 - k) := by have := HL.out; omega
          have hle2 : L + 1 ≤ t := by have := HLT.out; omega
          refine ⟨⟨L + 1, done ++ [(g, k)], ⟨by have := hlw.1; omega, by omega⟩, ?_, hle2, ?_, ?_⟩, by rw [HSL.out]; show 258 - (done.length + 1) < _; omega⟩
          · rw [HCOV.out, coverL_more hgt HK.out (by omega), hL1]
            simp
          · rw [List.length_append, hL1]
            exact hph.step hgw.1 ht.2 HK.out (by omega)
          · exact hcb6.moved
end Go.Proofs.YtcgdjnmfeibnoaaDoor
/-! SixR8 -/
namespace Go.Proofs.YtcgdjnmfeibnoaaDoor
open Go.RowKit Go.Lib Go.Proofs.YtcgdjnmfeibnoaaDoorW.PrintWords
set_option linter.unusedVariables false
set_option linter.unusedSimpArgs false
@[irreducible] def storeR (x v : Value) : Sem Unit := Instr.storeAt 30 x v
@[go_sem ↓ high] theorem storeR_of (x v : Value) : Instr.storeAt 30 x v = storeR x v := by unfold storeR; rfl
theorem storeR_old {W : World} {g : Nat} {old : Array Value} (h : W.heap[g]? = some (.cells old 30 (0, 0))) (ho : old.size = 8) (y0 y1 y2 y3 y4 y5 y6 y7 : Int) :
    (storeR (.pointer (some ⟨g, 0, none⟩)) (.agg #[.int .u16 y0, .int .u16 y1, .int .u16 y2, .int .u16 y3, .int .u16 y4, .int .u16 y5, .int .u16 y6, .int .u16 y7])).run Tryd.prog W = .ok () (W.setRow g #[.int .u16 y0, .int .u16 y1, .int .u16 y2, .int .u16 y3, .int .u16 y4, .int .u16 y5, .int .u16 y6, .int .u16 y7]) := by
  unfold storeR
  simp only [Instr.storeAt, Instr.sureAddr, Sem.run_bind, Sem.run_pure, Result.andThen]
  exact run_storeVar_row _ _ 30 30 old #[.int .u16 y0, .int .u16 y1, .int .u16 y2, .int .u16 y3, .int .u16 y4, .int .u16 y5, .int .u16 y6, .int .u16 y7] h (by kernel_rfl) ho (by simp [Value.oneCell'])
@[go_sem] theorem storeR_new {n : Nat} (W : World) (z0 z1 z2 z3 z4 z5 z6 z7 y0 y1 y2 y3 y4 y5 y6 y7 : Int) (hn : n = W.heap.size) :
    (storeR (.pointer (some ⟨n, 0, none⟩)) (.agg #[.int .u16 y0, .int .u16 y1, .int .u16 y2, .int .u16 y3, .int .u16 y4, .int .u16 y5, .int .u16 y6, .int .u16 y7])).run Tryd.prog (W.alloc (.cells #[.int .u16 z0, .int .u16 z1, .int .u16 z2, .int .u16 z3, .int .u16 z4, .int .u16 z5, .int .u16 z6, .int .u16 z7] 30)) = .ok () (W.alloc (.cells #[.int .u16 y0, .int .u16 y1, .int .u16 y2, .int .u16 y3, .int .u16 y4, .int .u16 y5, .int .u16 y6, .int .u16 y7] 30)) := by
  subst hn
  rw [storeR_old (heap_alloc_new W _) rfl]
  congr 1
  exact World.setRow_alloc_new W _ _ 30
theorem setRow_at {W : World} {g : Nat} {old c : Array Value} {t : TypeId} (h : W.heap[g]? = some (.cells old t (0, 0))) : (W.setRow g c).heap[g]? = some (.cells c t (0, 0)) := by
  simp [World.setRow, Array.getElem?_modify, h]
theorem below_setRow {B : Nat} {w W : World} (h : Below B w W) {g : Nat} (hg : B ≤ g) (c : Array Value) : Below B w (W.setRow g c) := by
  refine ⟨h.os, h.tape, h.output, ?_, fun k hk => ?_⟩
  · have := h.size
    simpa [World.setRow] using this
  · have := h.block k hk
    rw [← this]
    simp only [World.setRow, Array.getElem?_modify]
    rw [if_neg (by omega)]
/-- The same, the world behind it named. -/
theorem storeR_names {wr W : World} {g : Nat} (hb : Below wr.heap.size wr W) (hg : wr.heap.size ≤ g) (h : W.heap[g]? = some (.cells #[.int .u16 0, .int .u16 0, .int .u16 0, .int .u16 0, .int .u16 0, .int .u16 0, .int .u16 0, .int .u16 0] 30 (0, 0))) (y0 y1 y2 y3 y4 y5 y6 y7 : Int) :
    ∃ wB, (storeR (.pointer (some ⟨g, 0, none⟩)) (.agg #[.int .u16 y0, .int .u16 y1, .int .u16 y2, .int .u16 y3, .int .u16 y4, .int .u16 y5, .int .u16 y6, .int .u16 y7])).run Tryd.prog W = .ok () wB ∧ Below wr.heap.size wr wB ∧ wB.heap[g]? = some (.cells #[.int .u16 y0, .int .u16 y1, .int .u16 y2, .int .u16 y3, .int .u16 y4, .int .u16 y5, .int .u16 y6, .int .u16 y7] 30 (0, 0)) :=
  ⟨_, storeR_old h rfl y0 y1 y2 y3 y4 y5 y6 y7, below_setRow hb hg _, setRow_at h⟩
end Go.Proofs.YtcgdjnmfeibnoaaDoor
/-! SixJoin -/
namespace Go.Proofs.YtcgdjnmfeibnoaaDoor
open Go.RowKit Go.Lib Go.Sort Go.Proofs.YtcgdjnmfeibnoaaDoorW.PrintWords
set_option linter.unusedVariables false
set_option linter.unusedSimpArgs false
/-- A prefix as a range. -/
def rngZ (x : Pz) : Int × Int := (x.v, x.v + 2 ^ (128 - x.n).toNat - 1)
/-- The prefixes of ranges. -/
def coverJ (acc : List (Int × Int)) : List (Int × Nat) := acc.flatMap fun r => coverL r.1 r.2
theorem coverJ_snoc (acc : List (Int × Int)) (a t : Int) : coverJ (acc ++ [(a, t)]) = coverJ acc ++ coverL a t := by simp [coverJ]
theorem coverL_few {f t : Int} (hf : Wide f) (ht : Wide t) (h : f ≤ t) : (coverL f t).length ≤ 258 := by
  have key : ∀ (n : Nat) (g : Int) (k : Nat), (t + 1 - g).toNat ≤ n → 0 ≤ g → g ≤ t → Phase k g t → k + (coverL g t).length ≤ 258 := by
    intro n
    induction n with
    | zero => intro g k hn h0 hg; omega
    | succ n ih =>
      intro g k hn h0 hg hp
      have hK := keepOf_keep hg
      have hp2 := pow_pos2 (128 - keepOf g t)
      by_cases hm : g + 2 ^ (128 - keepOf g t) ≤ t
      · rw [coverL_more hg hK hm, List.length_cons]
        have := ih _ (k + 1) (by omega) (by omega) hm (hp.step h0 ht.2 hK hm)
        omega
      · rw [coverL_last hg hK hm]
        have := hp.le
        simp
        omega
  have := key _ f 0 (Nat.le_refl _) hf.1 h (Or.inl ⟨by omega, by simp⟩)
  omega
theorem pcells_one (l : List (Int × Nat)) : ∀ q ∈ pcells l, q.oneCell' = true := by
  intro q hq
  obtain ⟨x, _, hx⟩ := List.mem_flatMap.1 hq
  simp [pcell] at hx
  rcases hx with rfl | rfl | rfl | rfl | rfl | rfl | rfl | rfl | rfl <;> rfl
theorem pcells_app (a b : List (Int × Nat)) : pcells (a ++ b) = pcells a ++ pcells b := by simp [pcells]
theorem own_set_ne {W : World} {base size n : Nat} {e : TypeId} {v : Value} {xs : List Value} (h : W.ownsRow base e size v n xs) (a : Addr) (u : Value) (ha : ∀ k, v.ownBlock = some k → k ≠ a.block) : (W.setCell a u).ownsRow base e size v n xs :=
  h.kept (row := some a.block) ⟨rfl, rfl, rfl, by simp, fun k _ hk => Below.heap_setCell _ _ _ _ (by simpa using hk)⟩ (by
    cases hv : v.ownBlock with
    | none => exact Or.inl rfl
    | some k => exact Or.inr (by have := ha k hv; simpa using this))
/-- A box that holds a number. -/
def WB (W : World) (b : Nat) (v : Int) : Prop := W.heap[b]? = some (.cells #[.int .u64 (v / 18446744073709551616), .int .u64 (v % 18446744073709551616)] 74 (0, 0))
/-- Every prefix is one, every number in range. -/
def okZ (D : List Pz) : Prop := ∀ x ∈ D, isZ x = true ∧ Wide x.a
/-- Where the loop over the sorted prefixes stands. -/
def JZ (w3 : World) (D : List Pz) (s v : Value) (W : World) : Prop := ∃ (i : Nat) (A : Option Addr) (c : Nat) (acc : List (Int × Int)), s = .slice A (D.length - i) c ∧ D.length - i ≤ c ∧ i ≤ D.length ∧ RdZ w3 A (D.drop i) ∧
  W.ownsRow w3.heap.size 53 9 v (coverJ acc).length (pcells (coverJ acc)) ∧ Below w3.heap.size w3 W ∧ sweepL (D.map rngZ) = acc ++ sweepL ((D.drop i).map rngZ) ∧ (coverJ acc).length ≤ 258 * i
/-- Where the inner loop stands: a range at hand. -/
structure IZ (w3 : World) (D : List Pz) (acc : List (Int × Int)) (a : Int) (bf bt : Nat) (v : Value) (j : Nat) (t : Int) (W : World) : Prop where
  wide : Wide t
  le : a ≤ t
  kf : WB W bf a
  kt : WB W bt t
  lt : bf < bt
  far : ∀ k, v.ownBlock = some k → k < bt
  own : W.ownsRow w3.heap.size 53 9 v (coverJ acc).length (pcells (coverJ acc))
  lo : w3.heap.size ≤ bf
  below : Below w3.heap.size w3 W
  sw : sweepL (D.map rngZ) = acc ++ sweep a t ((D.drop j).map rngZ)
/-- What is left of the sorted prefixes. -/
def CutS (w3 : World) (D : List Pz) (i : Nat) (s : Value) : Prop := ∃ (A : Option Addr) (c : Nat), s = .slice A (D.length - i) c ∧ D.length - i ≤ c ∧ RdZ w3 A (D.drop i)
theorem rdz_tail {W : World} {g o : Nat} {x : Pz} {l : List Pz} (h : RdZ W (some ⟨g, o, none⟩) (x :: l)) : RdZ W (some ⟨g, o + 9, none⟩) l := by
  intro k y hk
  obtain ⟨g', o', e, hg, hc⟩ := h (k + 1) y (by simpa using hk)
  obtain ⟨rfl, rfl⟩ : g = g' ∧ o = o' := by simpa using e
  refine ⟨g, o + 9, rfl, hg, fun j hj => ?_⟩
  rw [show o + 9 + (k * 9 + j) = o + ((k + 1) * 9 + j) by omega]
  exact hc j hj
theorem cutS_next {w3 : World} {D : List Pz} {i g o cs : Nat} (hi : i < D.length) (hcs : D.length - i ≤ cs) (h : RdZ w3 (some ⟨g, o, none⟩) (D.drop i)) : (cs = 1 → CutS w3 D (i + 1) (.slice (some ⟨g, o, none⟩) (D.length - i - 1) (cs - 1))) ∧ CutS w3 D (i + 1) (.slice (some ⟨g, o + 9, none⟩) (D.length - i - 1) (cs - 1)) := by
  constructor
  · intro h1
    refine ⟨_, _, by rw [Nat.sub_sub], by omega, ?_⟩
    rw [List.drop_of_length_le (by omega)]
    exact rdz_nil _ _
  · refine ⟨_, _, by rw [Nat.sub_sub], by omega, ?_⟩
    rw [List.drop_eq_getElem_cons hi] at h
    exact rdz_tail h
theorem IZ.keep {w3 : World} {D : List Pz} {acc : List (Int × Int)} {a : Int} {bf bt : Nat} {v : Value} {j : Nat} {t : Int} {W W' : World} (h : IZ w3 D acc a bf bt v j t W) (hb : Below W.heap.size W W') : IZ w3 D acc a bf bt v j t W' :=
  ⟨h.wide, h.le, blk_below h.kf hb, blk_below h.kt hb, h.lt, h.far, own_below h.own hb, h.lo, below_step h.below hb, h.sw⟩
theorem IZ.step {w3 : World} {D : List Pz} {acc : List (Int × Int)} {a : Int} {bf bt : Nat} {v : Value} {j : Nat} {t : Int} {W : World} {y : Pz} (h : IZ w3 D acc a bf bt v j t W) (hy : D[j]? = some y) (hle : (rngZ y).1 ≤ t + 1) : sweepL (D.map rngZ) = acc ++ sweep a (max t (rngZ y).2) ((D.drop (j + 1)).map rngZ) := by
  obtain ⟨hlt, e⟩ := List.getElem?_eq_some_iff.1 hy
  rw [h.sw, List.drop_eq_getElem_cons hlt, e, List.map_cons, sweep, if_pos hle]
theorem IZ.stay {w3 : World} {D : List Pz} {acc : List (Int × Int)} {a : Int} {bf bt : Nat} {v : Value} {j : Nat} {t : Int} {W : World} {y : Pz} (h : IZ w3 D acc a bf bt v j t W) (hy : D[j]? = some y) (hle : (rngZ y).1 ≤ t + 1) (hm : (rngZ y).2 ≤ t) : IZ w3 D acc a bf bt v (j + 1) t W :=
  ⟨h.wide, h.le, h.kf, h.kt, h.lt, h.far, h.own, h.lo, h.below, by rw [h.step hy hle, Int.max_eq_left hm]⟩
theorem IZ.move {w3 : World} {D : List Pz} {acc : List (Int × Int)} {a : Int} {bf bt : Nat} {v : Value} {j : Nat} {t : Int} {W : World} {y : Pz} (h : IZ w3 D acc a bf bt v j t W) (hy : D[j]? = some y) (hle : (rngZ y).1 ≤ t + 1) (hw : Wide (rngZ y).2) (hm : t < (rngZ y).2) :
    IZ w3 D acc a bf bt v (j + 1) (rngZ y).2 ((W.setCell ⟨bt, 0, none⟩ (.int .u64 ((rngZ y).2 / 18446744073709551616))).setCell ⟨bt, 1, none⟩ (.int .u64 ((rngZ y).2 % 18446744073709551616))) :=
  ⟨hw, by have := h.le; omega, blk_far (blk_far h.kf (Nat.ne_of_lt h.lt) _) (Nat.ne_of_lt h.lt) _, blk_put (blk_put h.kt 0 _ rfl) 1 _ rfl, h.lt, h.far,
    own_set_ne (own_set_ne h.own _ _ (fun k hk => Nat.ne_of_lt (h.far k hk))) _ _ (fun k hk => Nat.ne_of_lt (h.far k hk)), h.lo,
    (h.below.setCell (Nat.le_trans h.lo (Nat.le_of_lt h.lt)) _).setCell (Nat.le_trans h.lo (Nat.le_of_lt h.lt)) _, by rw [h.step hy hle, Int.max_eq_right (by omega)]⟩
theorem cutS_if {w3 : World} {D : List Pz} {i g o cs : Nat} (hi : i < D.length) (hcs : D.length - i ≤ cs) (h : RdZ w3 (some ⟨g, o, none⟩) (D.drop i)) : CutS w3 D (i + 1) (.slice (if cs = 1 then some ⟨g, o, none⟩ else some ⟨g, o + 9, none⟩) (D.length - i - 1) (cs - 1)) := by
  by_cases h1 : cs = 1
  · rw [if_pos h1]
    exact (cutS_next hi hcs h).1 h1
  · rw [if_neg h1]
    exact (cutS_next hi hcs h).2
theorem sweep_stop {a t : Int} : ∀ {L : List (Int × Int)}, (∀ r, L[0]? = some r → ¬ r.1 ≤ t + 1) → sweep a t L = (a, t) :: sweepL L
  | [], _ => rfl
  | r :: L, h => by
    rw [sweep, if_neg (h r rfl)]
    rfl
theorem exit_jz {w3 w4 : World} {D : List Pz} {acc : List (Int × Int)} {a t : Int} {i j cs : Nat} {As : Option Addr} {v4 : Value} (hij : i < j) (hj : j ≤ D.length) (hcs : D.length - j ≤ cs) (hR : RdZ w3 As (D.drop j))
    (hown : w4.ownsRow w3.heap.size 53 9 v4 ((coverJ acc).length + (coverL a t).length) (pcells (coverJ acc) ++ pcells (coverL a t))) (hB : Below w3.heap.size w3 w4)
    (hsw : sweepL (D.map rngZ) = acc ++ sweep a t ((D.drop j).map rngZ)) (hst : ∀ r, ((D.drop j).map rngZ)[0]? = some r → ¬ r.1 ≤ t + 1) (hl : (coverJ acc).length ≤ 258 * i) (hf : (coverL a t).length ≤ 258) :
    JZ w3 D (.slice As (D.length - j) cs) v4 w4 := by
  refine ⟨j, As, cs, acc ++ [(a, t)], rfl, hcs, hj, hR, ?_, hB, ?_, ?_⟩
  · rw [coverJ_snoc, List.length_append, pcells_app]
    exact hown
  · rw [hsw, sweep_stop hst, List.append_assoc]
    rfl
  · rw [coverJ_snoc, List.length_append]
    omega
theorem rngZ_ok {x : Pz} (h : isZ x = true) (hw : Wide x.a) : 0 ≤ x.n ∧ x.n ≤ 128 ∧ x.v = x.a ∧ x.a % 2 ^ (128 - x.n.toNat) = 0 ∧ (rngZ x).2 = x.a + 2 ^ (128 - x.n.toNat) - 1 := by
  have hv := Pz.v_wide hw
  unfold isZ isPre at h
  have h := of_decide_eq_true h
  rw [hv] at h
  unfold tailOf at h
  have e : (128 - x.n).toNat = 128 - x.n.toNat := by omega
  rw [e] at h
  refine ⟨h.1, h.2.1, hv, h.2.2, ?_⟩
  unfold rngZ
  rw [hv, e]
/-- The last address of a prefix, put in a box. -/
def LB (W2 : World) (t : Int) (s : Value) (W : World) : Prop := ∃ b, s = .pointer (some ⟨b, 0, none⟩) ∧ WB W b t ∧ Below W2.heap.size W2 W ∧ W2.heap.size ≤ b
theorem wlast_z {x : Pz} (h : isZ x = true) (hw : Wide x.a) (w : World) : Calls Tryd.prog 58 #[WV x.a, .int .i64 x.n] w fun e w' => e = .returned (WV (rngZ x).2) ∧ Below w.heap.size w w' := by
  obtain ⟨h0, h1, h2, h3, h4⟩ := rngZ_ok h hw
  have := wlast_at (n := x.n.toNat) hw (by omega) h3 w
  rw [show ((x.n.toNat : Nat) : Int) = x.n by omega] at this
  rw [h4]
  exact this
theorem wide_z {x : Pz} (h : isZ x = true) (hw : Wide x.a) : Wide (rngZ x).2 ∧ x.a ≤ (rngZ x).2 := by
  obtain ⟨h0, h1, h2, h3, h4⟩ := rngZ_ok h hw
  have := last_wide (n := x.n.toNat) hw (by omega) h3
  have hp := pow_pos2 (128 - x.n.toNat)
  rw [h4]
  exact ⟨this, by omega⟩
set_option maxHeartbeats 4000000 in
set_option maxRecDepth 100000 in
theorem joinZ_walk (A : Option Addr) (c : Nat) (l : List Pz) (w : World) (hr : RdZ w A l) (hn : l.length ≤ 1048576) (hb : badZ l = -1) (hok : okZ l) (hT : Tab w) (hg : 0 < w.heap.size) :
    Calls Tryd.prog 19 #[.slice A l.length c] w fun e w' => ∃ v, e = .returned (.tuple #[v, .int .i64 0, .int .i64 0]) ∧ w'.ownsRow w.heap.size 53 9 v (coverJ (joinR [] (l.map rngZ))).length (pcells (coverJ (joinR [] (l.map rngZ)))) ∧ Below w.heap.size w w' := by
  obtain ⟨i0, hi0, hz0, hz1, hz2⟩ := pre_info9
  have HI0 := Lib.hid hi0
  have HZ0 := Lib.hid hz0
  have HZ1 := Lib.hid hz1
  have HZ2 := Lib.hid hz2
  clear hi0 hz0 hz1 hz2
  have HI := c_idxZ A c l w hr (by omega)
  rw [hb] at HI
  have HI := Lib.hid HI
  have HR := Lib.hid hr
  have HT := Lib.hid hT
  clear hr hT hb
  go_enter Tryd.func19, Tryd.ntmps19
  go_wp2_with fail
  refine HI.out.mono ?_
  rintro e w1 ⟨rfl, hb⟩
  clear HI
  have B := Lib.hid hb
  clear hb
  go_wp2_with fail
  refine (cloneZ_walk A c l _ (HR.out.keep B.out) (by omega)).mono ?_
  rintro e w2 ⟨v, rfl, hR, hb⟩
  have hR := Lib.hid (World.ownsRow.mono hR B.out.size)
  have B := Lib.hid (below_step B.out hb)
  clear hb
  go_wp2_with fail
  refine (sortZ_walk v l w w2 hR.out (by omega) B.out).mono ?_
  rintro e w3 ⟨rfl, D, A', c', rfl, hcc, hC, hb, hp, ha⟩
  clear hR
  have B := Lib.hid hb
  have HD := Lib.hid (And.intro hC (And.intro hp ha))
  clear hb hC hp ha
  go_wp2_with fail
  have hDl : D.length = l.length := HD.out.2.1.length_eq
  have hokD : okZ D := fun x hx => hok x (HD.out.2.1.subset hx)
  have HOK := Lib.hid hokD
  clear hok hokD
  rw [← hDl]
  rw [← hDl] at hn hcc
  have HDL := Lib.hid hDl
  clear hDl
  go_loopw [6, 7] (fun s v W => JZ w3 D s v W) (fun s _ _ => sliceLen s)
  case atStart => exact ⟨0, A', c', [], by simp, by simpa using hcc, Nat.zero_le _, by simpa using HD.out.1, ⟨by simp [coverJ, pcells], .inl ⟨rfl, rfl⟩⟩, Below.refl _ _, rfl, by simp [coverJ]⟩
  case round =>
    obtain ⟨i, As, cs, acc, rfl, hcs, hi, hRd, hown, hB, hsw, hlen⟩ := hrel
    have HRd := Lib.hid hRd
    have HO := Lib.hid hown
    have HBW := Lib.hid hB
    have HSW := Lib.hid hsw
    clear hRd hown hB hsw
    by_cases hlt : i < D.length
    · obtain ⟨x, hx⟩ : ∃ x, D[i]? = some x := ⟨D[i], List.getElem?_eq_getElem hlt⟩
      have hx0 : (D.drop i)[0]? = some x := by rw [List.getElem?_drop]; exact hx
      obtain ⟨g, o, rfl, hg0, hc⟩ := (HRd.out.keep HBW.out) 0 x hx0
      have c0 := (hc 0 (by decide)).trans (show (zc x)[0]? = some (.int .u16 (pc 0 x.a)) from rfl)
      have c1 := (hc 1 (by decide)).trans (show (zc x)[1]? = some (.int .u16 (pc 1 x.a)) from rfl)
      have c2 := (hc 2 (by decide)).trans (show (zc x)[2]? = some (.int .u16 (pc 2 x.a)) from rfl)
      have c3 := (hc 3 (by decide)).trans (show (zc x)[3]? = some (.int .u16 (pc 3 x.a)) from rfl)
      have c4 := (hc 4 (by decide)).trans (show (zc x)[4]? = some (.int .u16 (pc 4 x.a)) from rfl)
      have c5 := (hc 5 (by decide)).trans (show (zc x)[5]? = some (.int .u16 (pc 5 x.a)) from rfl)
      have c6 := (hc 6 (by decide)).trans (show (zc x)[6]? = some (.int .u16 (pc 6 x.a)) from rfl)
      have c7 := (hc 7 (by decide)).trans (show (zc x)[7]? = some (.int .u16 (pc 7 x.a)) from rfl)
      have c8 := (hc 8 (by decide)).trans (show (zc x)[8]? = some (.int .i64 x.n) from rfl)
      simp only [Nat.zero_mul, Nat.zero_add, Nat.add_zero] at c0 c1 c2 c3 c4 c5 c6 c7 c8
      clear hc
      have hxD : x ∈ D := List.mem_of_getElem? hx
      have HX := Lib.hid (And.intro hx (HOK.out x hxD))
      clear hx hx0 hxD
      have hpos : 0 < D.length - i := by omega
      have hW := wideOf_at _ _ _ _ _ _ _ _ (pc_r8 x.a)
      rw [pc_v8 HX.out.2.2] at hW
      have HWO := Lib.hid hW
      clear hW
      go_wp2_with fail
      refine (HWO.out _).mono ?_
      rintro e W1 ⟨rfl, hb1⟩
      have HB1 := Lib.hid (below_step HBW.out hb1)
      have hg3 : g < w3.heap.size := (HRd.out 0 x (by rw [List.getElem?_drop]; exact HX.out.1)).elim fun g' h => h.elim fun o' h => by
        have e : g = g' ∧ o = o' := by simpa using h.1
        rw [e.1]
        exact h.2.1
      have c8 := (hb1.cell (p := ⟨g, o + 8, none⟩) hg0).trans c8
      have hO := Lib.hid (own_below HO.out hb1)
      clear hb1 hg0 c0 c1 c2 c3 c4 c5 c6 c7 HO
      have hgW1 : g < W1.heap.size := Nat.lt_of_lt_of_le hg3 HB1.out.size
      go_wp2_with fail
      have hWf : WB (W1.alloc (.cells #[.int .u64 (x.a / 18446744073709551616), .int .u64 (x.a % 18446744073709551616)] 74)) W1.heap.size x.a := blk_new _ _
      have HB2 := Lib.hid (HB1.out.alloc HB1.out.size (.cells #[.int .u64 (x.a / 18446744073709551616), .int .u64 (x.a % 18446744073709551616)] 74))
      have hO := Lib.hid (own_below hO.out ((Below.refl _ _).alloc (Nat.le_refl _) (.cells #[.int .u64 (x.a / 18446744073709551616), .int .u64 (x.a % 18446744073709551616)] 74)))
      have c8 : (W1.alloc (.cells #[.int .u64 (x.a / 18446744073709551616), .int .u64 (x.a % 18446744073709551616)] 74)).cell? ⟨g, o + 8, none⟩ = some (.int .i64 x.n) := (((Below.refl _ _).alloc (Nat.le_refl _) _ : Below W1.heap.size W1 (W1.alloc (.cells #[.int .u64 (x.a / 18446744073709551616), .int .u64 (x.a % 18446744073709551616)] 74))).cell (p := ⟨g, o + 8, none⟩) hgW1).trans c8
      have hW1l : w3.heap.size ≤ W1.heap.size := HB1.out.size
      generalize W1.heap.size = bf at *
      generalize W1.alloc (.cells #[.int .u64 (x.a / 18446744073709551616), .int .u64 (x.a % 18446744073709551616)] 74) = W2 at *
      have q0 := (blk_cell hWf 0).trans (show _ = some (Value.int .u64 (x.a / 18446744073709551616)) from rfl)
      have q1 := (blk_cell hWf 1).trans (show _ = some (Value.int .u64 (x.a % 18446744073709551616)) from rfl)
      have hlf := blk_lt hWf
      have hgW2 : g < W2.heap.size := Nat.lt_of_lt_of_le hg3 HB2.out.size
      have HWf := Lib.hid hWf
      have HLA := Lib.hid (wlast_z HX.out.2.1 HX.out.2.2)
      obtain ⟨t0, et0⟩ : ∃ t, t = (rngZ x).2 := ⟨_, rfl⟩
      rw [← et0] at HLA
      have ET0 := Lib.hid et0
      clear hWf et0 hgW1
      have nb1 : bf ≠ W2.heap.size := Nat.ne_of_lt hlf
      have nb2 : g ≠ W2.heap.size := Nat.ne_of_lt hgW2
      have nb3 : W2.heap.size ≠ bf := (Nat.ne_of_lt hlf).symm
      have nb4 : W2.heap.size ≠ g := (Nat.ne_of_lt hgW2).symm
      go_cut [9] (fun s W => LB W2 t0 s W)
      case first =>
        go_region_held3 (fun w' => w'.cell? ⟨bf, 0, none⟩ = some (.int .u64 (x.a / 18446744073709551616)) ∧ w'.cell? ⟨bf, 1, none⟩ = some (.int .u64 (x.a % 18446744073709551616)) ∧ w'.cell? ⟨g, o + 8, none⟩ = some (.int .i64 x.n))
          (first | go_keep | (refine ⟨?_, ?_, ?_⟩ <;> assumption) | (refine ⟨?_, ?_, ?_⟩ <;> (rw [World.cell?_setCell_other _ _ _ _ (by simp; omega), World.cell?_setCell_other _ _ _ _ (by simp; omega)]; assumption)))
          (first
          | (go_at_call 58
             refine (HLA.out _).mono ?_
             rintro e w5 ⟨rfl, hb5⟩
             have HB5 : Below W2.heap.size W2 w5 := by first | exact hb5 | exact below_step ((Below.refl _ _).alloc (Nat.le_refl _) _) hb5 | exact below_step (bdn (Below.refl _ _) 1) hb5 | exact below_step (bdn ((Below.refl _ _).alloc (Nat.le_refl _) _) 1) hb5
             have d0 := (HB5.cell (p := ⟨bf, 0, none⟩) hlf).trans q0
             have d1 := (HB5.cell (p := ⟨bf, 1, none⟩) hlf).trans q1
             have d2 := (HB5.cell (p := ⟨g, o + 8, none⟩) hgW2).trans c8
             have hl5 : W2.heap.size ≤ w5.heap.size := HB5.size
             have hl6 : bf < w5.heap.size := Nat.lt_of_lt_of_le hlf HB5.size
             have hl7 : g < w5.heap.size := Nat.lt_of_lt_of_le hgW2 HB5.size
             have hz0 : w5.heap[W2.heap.size]? = some (.cells #[.int .u64 0, .int .u64 0] 74 (0, 0)) := by first | exact blk_below (blk_new _ _) hb5 | exact blk_below (blk_drew (blk_new _ _)) hb5
             have z0 := (blk_cell hz0 0).trans (show _ = some (Value.int .u64 0) from rfl)
             have z1 := (blk_cell hz0 1).trans (show _ = some (Value.int .u64 0) from rfl)
             have f0 := blk_frozen hz0 0
             have f1 := blk_frozen hz0 1
             have hzl := blk_lt hz0)
          | (go_at_call 58
             refine (HLA.out _).mono ?_
             rintro e w5 ⟨rfl, hb5⟩
             have HB5 : Below W2.heap.size W2 w5 := by first | exact hb5 | exact below_step (bdn (Below.refl _ _) 1) hb5
             have d0 := (HB5.cell (p := ⟨bf, 0, none⟩) hlf).trans q0
             have d1 := (HB5.cell (p := ⟨bf, 1, none⟩) hlf).trans q1
             have d2 := (HB5.cell (p := ⟨g, o + 8, none⟩) hgW2).trans c8
             have hl5 : W2.heap.size ≤ w5.heap.size := HB5.size
             have hl6 : bf < w5.heap.size := Nat.lt_of_lt_of_le hlf HB5.size
             have hl7 : g < w5.heap.size := Nat.lt_of_lt_of_le hgW2 HB5.size))
        all_goals go_wp2_with fail
        all_goals go_meet
        · exact ⟨_, rfl, blk_new _ _, HB5.alloc HB5.size _, HB5.size⟩
        · exact ⟨_, rfl, blk_put (blk_put hz0 0 _ rfl) 1 _ rfl, (HB5.setCell (Nat.le_refl _) _).setCell (Nat.le_refl _) _, Nat.le_refl _⟩
      case rest =>
        obtain ⟨bt, rfl, hWt, hbt, hlt2⟩ := hcut
        have HB3 := Lib.hid (below_step HB2.out hbt)
        have HFAR := Lib.hid (fun (k : Nat) (hk : u7.ownBlock = some k) => Nat.lt_of_lt_of_le (hO.out.lt k hk).2 hlt2)
        have hO := Lib.hid (own_below hO.out hbt)
        have HWf := Lib.hid (show WB wc bf x.a from blk_below HWf.out hbt)
        have HWt := Lib.hid hWt
        have HLB := Lib.hid (And.intro hlf hlt2)
        clear hbt hWt c8 q0 q1 hlf hgW2 nb1 nb2 nb3 nb4 hlt2
        have hcs1 : 1 ≤ cs := by omega
        have hm1 : 1 ≤ D.length - i := by omega
        go_upto_region 10 with fail
        go_cut [6] (fun s W => W = wc ∧ CutS w3 D (i + 1) s)
        case first =>
          go_wp2_with fail
          all_goals go_meet
          · rename_i h
            have h2 := (cutS_next hlt hcs HRd.out).1 h
            rw [h] at h2
            exact ⟨rfl, h2⟩
          · exact ⟨rfl, (cutS_next hlt hcs HRd.out).2⟩
        case rest =>
          obtain ⟨rfl, hS⟩ := hcut
          have hfst := wide_z HX.out.2.1 HX.out.2.2
          rw [← ET0.out] at hfst
          have hstart : IZ w3 D acc x.a bf bt u7 (i + 1) t0 wc := by
            refine ⟨hfst.1, hfst.2, HWf.out, HWt.out, Nat.lt_of_lt_of_le HLB.out.1 HLB.out.2, fun k hk => ?_, hO.out, hW1l, HB3.out, ?_⟩
            · exact HFAR.out k hk
            · rw [HSW.out, List.drop_eq_getElem_cons hlt, List.map_cons]
              have e : D[i] = x := (List.getElem?_eq_some_iff.1 HX.out.1).2
              rw [e]
              show acc ++ sweep (rngZ x).1 (rngZ x).2 _ = _
              rw [← ET0.out, show (rngZ x).1 = x.a from (rngZ_ok HX.out.2.1 HX.out.2.2).2.2.1]
          have HST := Lib.hid (And.intro hS hstart)
          clear hS hstart hfst hO HWf HWt HB3 HLB
          go_wp2_with fail
          go_loopw [6] (fun s W => ∃ j t, i < j ∧ j ≤ D.length ∧ CutS w3 D j s ∧ IZ w3 D acc x.a bf bt u7 j t W) (fun s _ => sliceLen s)
          case atStart => exact ⟨i + 1, t0, by omega, by omega, HST.out.1, HST.out.2⟩
          case round =>
            obtain ⟨j, t, hij, hj, ⟨As', cs', rfl, hcs', hRd'⟩, hZ⟩ := hrel
            have HZ := Lib.hid hZ
            have HRj := Lib.hid hRd'
            clear hZ hRd'
            by_cases hjl : j < D.length
            · obtain ⟨y, hy⟩ : ∃ y, D[j]? = some y := ⟨D[j], List.getElem?_eq_getElem hjl⟩
              have hy0 : (D.drop j)[0]? = some y := by rw [List.getElem?_drop]; exact hy
              obtain ⟨g', o', rfl, hg', hc⟩ := HRj.out 0 y hy0
              have hc : ∀ k, k < 9 → wr.cell? ⟨g', o' + (0 * 9 + k), none⟩ = (zc y)[k]? := fun k hk => (HZ.out.below.cell (p := ⟨g', o' + (0 * 9 + k), none⟩) hg').trans (hc k hk)
              have c0 := (hc 0 (by decide)).trans (show (zc y)[0]? = some (.int .u16 (pc 0 y.a)) from rfl)
              have c1 := (hc 1 (by decide)).trans (show (zc y)[1]? = some (.int .u16 (pc 1 y.a)) from rfl)
              have c2 := (hc 2 (by decide)).trans (show (zc y)[2]? = some (.int .u16 (pc 2 y.a)) from rfl)
              have c3 := (hc 3 (by decide)).trans (show (zc y)[3]? = some (.int .u16 (pc 3 y.a)) from rfl)
              have c4 := (hc 4 (by decide)).trans (show (zc y)[4]? = some (.int .u16 (pc 4 y.a)) from rfl)
              have c5 := (hc 5 (by decide)).trans (show (zc y)[5]? = some (.int .u16 (pc 5 y.a)) from rfl)
              have c6 := (hc 6 (by decide)).trans (show (zc y)[6]? = some (.int .u16 (pc 6 y.a)) from rfl)
              have c7 := (hc 7 (by decide)).trans (show (zc y)[7]? = some (.int .u16 (pc 7 y.a)) from rfl)
              have c8 := (hc 8 (by decide)).trans (show (zc y)[8]? = some (.int .i64 y.n) from rfl)
              simp only [Nat.zero_mul, Nat.zero_add, Nat.add_zero] at c0 c1 c2 c3 c4 c5 c6 c7 c8
              clear hc
              have HY := Lib.hid (And.intro hy (HOK.out y (List.mem_of_getElem? hy)))
              clear hy hy0
              have hposj : 0 < D.length - j := by omega
              have t0 := (blk_cell HZ.out.kt 0).trans (show _ = some (Value.int .u64 (t / 18446744073709551616)) from rfl)
              have t1 := (blk_cell HZ.out.kt 1).trans (show _ = some (Value.int .u64 (t % 18446744073709551616)) from rfl)
              have hlt1 := blk_lt HZ.out.kt
              have hWy := wideOf_at _ _ _ _ _ _ _ _ (pc_r8 y.a)
              rw [pc_v8 HY.out.2.2] at hWy
              have HWY := Lib.hid hWy
              clear hWy
              by_cases hmx : t < 340282366920938463463374607431768211455
              · have HNX := Lib.hid (wnext_more HZ.out.wide hmx)
                go_wp2_with fail
                refine (HNX.out _).mono ?_
                rintro e V1 ⟨rfl, hv1⟩
                have hgr : g' < wr.heap.size := Nat.lt_of_lt_of_le hg' HZ.out.below.size
                have c0 := (hv1.cell (p := ⟨g', o', none⟩) hgr).trans c0
                have c1 := (hv1.cell (p := ⟨g', o' + 1, none⟩) hgr).trans c1
                have c2 := (hv1.cell (p := ⟨g', o' + 2, none⟩) hgr).trans c2
                have c3 := (hv1.cell (p := ⟨g', o' + 3, none⟩) hgr).trans c3
                have c4 := (hv1.cell (p := ⟨g', o' + 4, none⟩) hgr).trans c4
                have c5 := (hv1.cell (p := ⟨g', o' + 5, none⟩) hgr).trans c5
                have c6 := (hv1.cell (p := ⟨g', o' + 6, none⟩) hgr).trans c6
                have c7 := (hv1.cell (p := ⟨g', o' + 7, none⟩) hgr).trans c7
                have c8 := (hv1.cell (p := ⟨g', o' + 8, none⟩) hgr).trans c8
                have Z1 := Lib.hid ((HZ.out.keep hv1).keep ((Below.refl _ _).alloc (Nat.le_refl _) (.cells #[.int .u64 ((t + 1) / 18446744073709551616), .int .u64 ((t + 1) % 18446744073709551616)] 74)))
                have hgr1 := Nat.lt_of_lt_of_le hgr hv1.size
                clear t0 t1 hlt1 hv1 hgr HNX
                go_wp2_with fail
                have hn1 : WB (V1.alloc (.cells #[.int .u64 ((t + 1) / 18446744073709551616), .int .u64 ((t + 1) % 18446744073709551616)] 74)) V1.heap.size (t + 1) := blk_new _ _
                refine (HWY.out _).mono ?_
                rintro e V2 ⟨rfl, hv2⟩
                have c8 := (hv2.cell (p := ⟨g', o' + 8, none⟩) (Nat.lt_of_lt_of_le hgr1 (by simp))).trans ((((Below.refl _ _).alloc (Nat.le_refl _) (.cells #[.int .u64 ((t + 1) / 18446744073709551616), .int .u64 ((t + 1) % 18446744073709551616)] 74) : Below V1.heap.size V1 (V1.alloc (.cells #[.int .u64 ((t + 1) / 18446744073709551616), .int .u64 ((t + 1) % 18446744073709551616)] 74))).cell (p := ⟨g', o' + 8, none⟩) hgr1).trans c8)
                have Z2 := Lib.hid ((Z1.out.keep hv2).keep ((Below.refl _ _).alloc (Nat.le_refl _) (.cells #[.int .u64 (y.a / 18446744073709551616), .int .u64 (y.a % 18446744073709551616)] 74)))
                have hn2 : WB (V2.alloc (.cells #[.int .u64 (y.a / 18446744073709551616), .int .u64 (y.a % 18446744073709551616)] 74)) V1.heap.size (t + 1) := blk_alloc (blk_below hn1 hv2) _
                have hy2 : WB (V2.alloc (.cells #[.int .u64 (y.a / 18446744073709551616), .int .u64 (y.a % 18446744073709551616)] 74)) V2.heap.size y.a := blk_new _ _
                have hgr2 : g' < V2.heap.size := Nat.lt_of_lt_of_le (Nat.lt_of_lt_of_le hgr1 (by simp)) hv2.size
                have c8 := (((Below.refl _ _).alloc (Nat.le_refl _) (.cells #[.int .u64 (y.a / 18446744073709551616), .int .u64 (y.a % 18446744073709551616)] 74) : Below V2.heap.size V2 (V2.alloc (.cells #[.int .u64 (y.a / 18446744073709551616), .int .u64 (y.a % 18446744073709551616)] 74))).cell (p := ⟨g', o' + 8, none⟩) hgr2).trans c8
                have hgr3 : g' < (V2.alloc (.cells #[.int .u64 (y.a / 18446744073709551616), .int .u64 (y.a % 18446744073709551616)] 74)).heap.size := Nat.lt_of_lt_of_le hgr2 (by simp)
                clear c0 c1 c2 c3 c4 c5 c6 c7 hv2 Z1 hn1 hgr1 hgr2
                go_upto_region 14 with fail
                generalize V1.heap.size = b1 at *
                generalize V2.heap.size = b2 at *
                generalize V2.alloc (.cells #[.int .u64 (y.a / 18446744073709551616), .int .u64 (y.a % 18446744073709551616)] 74) = V3 at *
                have n0 := (blk_cell hn2 0).trans (show _ = some (Value.int .u64 ((t + 1) / 18446744073709551616)) from rfl)
                have n1 := (blk_cell hn2 1).trans (show _ = some (Value.int .u64 ((t + 1) % 18446744073709551616)) from rfl)
                have y0 := (blk_cell hy2 0).trans (show _ = some (Value.int .u64 (y.a / 18446744073709551616)) from rfl)
                have y1 := (blk_cell hy2 1).trans (show _ = some (Value.int .u64 (y.a % 18446744073709551616)) from rfl)
                have hb1l := blk_lt hn2
                have hb2l := blk_lt hy2
                have HY2 := Lib.hid hy2
                clear hn2 hy2
                have hw1 : Wide (t + 1) := ⟨by have := Z2.out.wide.1; omega, by omega⟩
                have HLS := Lib.hid (less_at hw1 HY.out.2.2)
                clear hw1
                by_cases hbr : t + 1 < y.a
                · rw [decide_eq_true hbr] at HLS
                  go_wp2_with fail
                  refine (HLS.out _).mono ?_
                  rintro e V4 ⟨rfl, hv4⟩
                  have Z4 := Lib.hid (Z2.out.keep hv4)
                  clear n0 n1 y0 y1 hb1l hb2l hv4 Z2 c8 hgr3
                  have t0 := (blk_cell Z4.out.kt 0).trans (show _ = some (Value.int .u64 (t / 18446744073709551616)) from rfl)
                  have t1 := (blk_cell Z4.out.kt 1).trans (show _ = some (Value.int .u64 (t % 18446744073709551616)) from rfl)
                  have r0 := (blk_cell Z4.out.kf 0).trans (show _ = some (Value.int .u64 (x.a / 18446744073709551616)) from rfl)
                  have r1 := (blk_cell Z4.out.kf 1).trans (show _ = some (Value.int .u64 (x.a % 18446744073709551616)) from rfl)
                  have hlt1 := blk_lt Z4.out.kt
                  have hlf1 := blk_lt Z4.out.kf
                  go_wp2_with fail
                  have hBw := below_step B.out Z4.out.below
                  refine (cover_walk x.a t HX.out.2.2 Z4.out.wide Z4.out.le _ (Nat.lt_of_lt_of_le hg hBw.size) (HT.out.keep (B := w.heap.size) hg hBw)).mono ?_
                  rintro e V5 ⟨u, rfl, hou, hbv⟩
                  have hfew := coverL_few HX.out.2.2 Z4.out.wide Z4.out.le
                  have hB4 := below_step Z4.out.below hbv
                  clear t0 t1 r0 r1 hlt1 hlf1 hBw
                  go_wp2_with (at_builtin; refine app_row rfl (.tmp 70) (.tmp 73) 25 rfl w3.heap.size 53 i0 (.agg #[.int .u16 0, .int .u16 0, .int .u16 0, .int .u16 0, .int .u16 0, .int .u16 0, .int .u16 0, .int .u16 0, .int .i64 0]) 9 24 Tryd.underlying25 HI0.out HZ0.out HZ1.out HZ2.out rfl (by decide) u7 (coverJ acc).length (pcells (coverJ acc)) rfl (own_below Z4.out.own hbv) u V4.heap.size (coverL x.a t).length (pcells (coverL x.a t)) rfl hou (pcells_one _) (by unfold maxLen; omega) (by omega) hB4.size ?_; intro v4 w4 hown4 hbel4)
                  refine ⟨exit_jz hij hj hcs' HRj.out hown4 (hbel4 _ _ (Nat.le_refl _) hB4) Z4.out.sw (fun r hr => ?_) hlen hfew, ?_⟩
                  · rw [List.getElem?_map, List.getElem?_drop, Nat.add_zero, HY.out.1] at hr
                    obtain rfl := Option.some.inj hr
                    rw [show (rngZ y).1 = y.a from (rngZ_ok HY.out.2.1 HY.out.2.2).2.2.1]
                    omega
                  · show D.length - j < D.length - i
                    omega
                · rw [decide_eq_false hbr] at HLS
                  go_wp2_with fail
                  refine (HLS.out _).mono ?_
                  rintro e V4 ⟨rfl, hv4⟩
                  have Z4 := Lib.hid (Z2.out.keep hv4)
                  have hy4 : WB V4 b2 y.a := blk_below HY2.out hv4
                  have c8 := (hv4.cell (p := ⟨g', o' + 8, none⟩) hgr3).trans c8
                  have hgr4 : g' < V4.heap.size := Nat.lt_of_lt_of_le hgr3 hv4.size
                  clear n0 n1 y0 y1 hb1l hb2l hv4 Z2 hgr3
                  have y0 := (blk_cell hy4 0).trans (show _ = some (Value.int .u64 (y.a / 18446744073709551616)) from rfl)
                  have y1 := (blk_cell hy4 1).trans (show _ = some (Value.int .u64 (y.a % 18446744073709551616)) from rfl)
                  have hb2l := blk_lt hy4
                  have HLY := Lib.hid (wlast_z HY.out.2.1 HY.out.2.2)
                  obtain ⟨ty, ety⟩ : ∃ t, t = (rngZ y).2 := ⟨_, rfl⟩
                  rw [← ety] at HLY
                  have ETY := Lib.hid ety
                  clear ety hy4
                  go_upto_region 15 with fail
                  have mb1 : b2 ≠ V4.heap.size := Nat.ne_of_lt hb2l
                  have mb2 : g' ≠ V4.heap.size := Nat.ne_of_lt hgr4
                  have mb3 : V4.heap.size ≠ b2 := (Nat.ne_of_lt hb2l).symm
                  have mb4 : V4.heap.size ≠ g' := (Nat.ne_of_lt hgr4).symm
                  go_cut [13] (fun s W => LB V4 ty s W)
                  case first =>
                    go_region_held3 (fun w' => w'.cell? ⟨b2, 0, none⟩ = some (.int .u64 (y.a / 18446744073709551616)) ∧ w'.cell? ⟨b2, 1, none⟩ = some (.int .u64 (y.a % 18446744073709551616)) ∧ w'.cell? ⟨g', o' + 8, none⟩ = some (.int .i64 y.n))
                      (first | go_keep | (refine ⟨?_, ?_, ?_⟩ <;> assumption) | (refine ⟨?_, ?_, ?_⟩ <;> (rw [World.cell?_setCell_other _ _ _ _ (by simp; omega), World.cell?_setCell_other _ _ _ _ (by simp; omega)]; assumption)))
                      (first
                      | (go_at_call 58
                         refine (HLY.out _).mono ?_
                         rintro e w5 ⟨rfl, hb5⟩
                         have HB5 : Below V4.heap.size V4 w5 := by first | exact hb5 | exact below_step ((Below.refl _ _).alloc (Nat.le_refl _) _) hb5 | exact below_step (bdn (Below.refl _ _) 1) hb5 | exact below_step (bdn ((Below.refl _ _).alloc (Nat.le_refl _) _) 1) hb5
                         have d0 := (HB5.cell (p := ⟨b2, 0, none⟩) hb2l).trans y0
                         have d1 := (HB5.cell (p := ⟨b2, 1, none⟩) hb2l).trans y1
                         have d2 := (HB5.cell (p := ⟨g', o' + 8, none⟩) hgr4).trans c8
                         have hl5 : V4.heap.size ≤ w5.heap.size := HB5.size
                         have hl6 : b2 < w5.heap.size := Nat.lt_of_lt_of_le hb2l HB5.size
                         have hl7 : g' < w5.heap.size := Nat.lt_of_lt_of_le hgr4 HB5.size
                         have hz0 : w5.heap[V4.heap.size]? = some (.cells #[.int .u64 0, .int .u64 0] 74 (0, 0)) := by first | exact blk_below (blk_new _ _) hb5 | exact blk_below (blk_drew (blk_new _ _)) hb5
                         have z0 := (blk_cell hz0 0).trans (show _ = some (Value.int .u64 0) from rfl)
                         have z1 := (blk_cell hz0 1).trans (show _ = some (Value.int .u64 0) from rfl)
                         have f0 := blk_frozen hz0 0
                         have f1 := blk_frozen hz0 1
                         have hzl := blk_lt hz0)
                      | (go_at_call 58
                         refine (HLY.out _).mono ?_
                         rintro e w5 ⟨rfl, hb5⟩
                         have HB5 : Below V4.heap.size V4 w5 := by first | exact hb5 | exact below_step (bdn (Below.refl _ _) 1) hb5
                         have d0 := (HB5.cell (p := ⟨b2, 0, none⟩) hb2l).trans y0
                         have d1 := (HB5.cell (p := ⟨b2, 1, none⟩) hb2l).trans y1
                         have d2 := (HB5.cell (p := ⟨g', o' + 8, none⟩) hgr4).trans c8
                         have hl5 : V4.heap.size ≤ w5.heap.size := HB5.size
                         have hl6 : b2 < w5.heap.size := Nat.lt_of_lt_of_le hb2l HB5.size
                         have hl7 : g' < w5.heap.size := Nat.lt_of_lt_of_le hgr4 HB5.size))
                    all_goals go_wp2_with fail
                    all_goals go_meet
                    · exact ⟨_, rfl, blk_new _ _, HB5.alloc HB5.size _, HB5.size⟩
                    · exact ⟨_, rfl, blk_put (blk_put hz0 0 _ rfl) 1 _ rfl, (HB5.setCell (Nat.le_refl _) _).setCell (Nat.le_refl _) _, Nat.le_refl _⟩
                  case rest =>
                    obtain ⟨bl, rfl, hWl, hbl, hll⟩ := hcut
                    have Z5 := Lib.hid (Z4.out.keep hbl)
                    have HLT5 := Lib.hid (Nat.lt_of_lt_of_le (blk_lt Z4.out.kt) hll)
                    have k0 := (blk_cell Z5.out.kt 0).trans (show _ = some (Value.int .u64 (t / 18446744073709551616)) from rfl)
                    have k1 := (blk_cell Z5.out.kt 1).trans (show _ = some (Value.int .u64 (t % 18446744073709551616)) from rfl)
                    have l0 := (blk_cell hWl 0).trans (show _ = some (Value.int .u64 (ty / 18446744073709551616)) from rfl)
                    have l1 := (blk_cell hWl 1).trans (show _ = some (Value.int .u64 (ty % 18446744073709551616)) from rfl)
                    have hkl := blk_lt Z5.out.kt
                    have hll2 := blk_lt hWl
                    have HWL := Lib.hid hWl
                    have hwy := wide_z HY.out.2.1 HY.out.2.2
                    rw [← ETY.out] at hwy
                    have HLS2 := Lib.hid (less_at Z5.out.wide hwy.1)
                    have hle1 : (rngZ y).1 ≤ t + 1 := by
                      rw [show (rngZ y).1 = y.a from (rngZ_ok HY.out.2.1 HY.out.2.2).2.2.1]
                      omega
                    have HLE1 := Lib.hid hle1
                    have HWY2 := Lib.hid hwy.1
                    clear hWl hbl hll y0 y1 c8 hgr4 hb2l mb1 mb2 mb3 mb4 hwy hle1 Z4
                    by_cases hty : t < ty
                    · rw [decide_eq_true hty] at HLS2
                      go_wp2_with fail
                      refine (HLS2.out _).mono ?_
                      rintro e V6 ⟨rfl, hv6⟩
                      have Z6 := Lib.hid (Z5.out.keep hv6)
                      have hWl6 := blk_below HWL.out hv6
                      clear k0 k1 l0 l1 hkl hll2 hv6 Z5
                      have k0 := (blk_cell Z6.out.kt 0).trans (show _ = some (Value.int .u64 (t / 18446744073709551616)) from rfl)
                      have k1 := (blk_cell Z6.out.kt 1).trans (show _ = some (Value.int .u64 (t % 18446744073709551616)) from rfl)
                      have f0 := blk_frozen Z6.out.kt 0
                      have f1 := blk_frozen Z6.out.kt 1
                      have l0 := (blk_cell hWl6 0).trans (show _ = some (Value.int .u64 (ty / 18446744073709551616)) from rfl)
                      have l1 := (blk_cell hWl6 1).trans (show _ = some (Value.int .u64 (ty % 18446744073709551616)) from rfl)
                      have hkl := blk_lt Z6.out.kt
                      have hll2 := blk_lt hWl6
                      clear hWl6
                      have Z7 := Z6.out.move HY.out.1 HLE1.out (by rw [← ETY.out]; exact HWY2.out) (by rw [← ETY.out]; exact hty)
                      rw [← ETY.out] at Z7
                      have Z7 := Lib.hid Z7
                      have hcs1' : 1 ≤ cs' := by omega
                      have hm1' : 1 ≤ D.length - j := by omega
                      go_wp2_with fail
                      exact ⟨⟨j + 1, ty, by omega, by omega, cutS_if hjl hcs' HRj.out, Z7.out⟩, by show D.length - j - 1 < D.length - j; omega⟩
                    · rw [decide_eq_false hty] at HLS2
                      go_wp2_with fail
                      refine (HLS2.out _).mono ?_
                      rintro e V6 ⟨rfl, hv6⟩
                      have Z6 := Lib.hid (Z5.out.keep hv6)
                      clear k0 k1 l0 l1 hkl hll2 hv6 Z5
                      have Z7 := Lib.hid (Z6.out.stay HY.out.1 HLE1.out (by rw [← ETY.out]; omega))
                      have hcs1' : 1 ≤ cs' := by omega
                      have hm1' : 1 ≤ D.length - j := by omega
                      go_wp2_with fail
                      exact ⟨⟨j + 1, t, by omega, by omega, cutS_if hjl hcs' HRj.out, Z7.out⟩, by show D.length - j - 1 < D.length - j; omega⟩
              · have HNX := Lib.hid (wnext_none HZ.out.wide hmx)
                go_wp2_with fail
                refine (HNX.out _).mono ?_
                rintro e V1 ⟨⟨k1, k2, rfl⟩, hv1⟩
                have hgr : g' < wr.heap.size := Nat.lt_of_lt_of_le hg' HZ.out.below.size
                have c0 := (hv1.cell (p := ⟨g', o', none⟩) hgr).trans c0
                have c1 := (hv1.cell (p := ⟨g', o' + 1, none⟩) hgr).trans c1
                have c2 := (hv1.cell (p := ⟨g', o' + 2, none⟩) hgr).trans c2
                have c3 := (hv1.cell (p := ⟨g', o' + 3, none⟩) hgr).trans c3
                have c4 := (hv1.cell (p := ⟨g', o' + 4, none⟩) hgr).trans c4
                have c5 := (hv1.cell (p := ⟨g', o' + 5, none⟩) hgr).trans c5
                have c6 := (hv1.cell (p := ⟨g', o' + 6, none⟩) hgr).trans c6
                have c7 := (hv1.cell (p := ⟨g', o' + 7, none⟩) hgr).trans c7
                have c8 := (hv1.cell (p := ⟨g', o' + 8, none⟩) hgr).trans c8
                have Z1 := Lib.hid ((HZ.out.keep hv1).keep ((Below.refl _ _).alloc (Nat.le_refl _) (.cells #[.int .u64 k1, .int .u64 k2] 74)))
                have hgr1 := Nat.lt_of_lt_of_le hgr hv1.size
                clear t0 t1 hlt1 hv1 hgr HNX
                go_wp2_with fail
                refine (HWY.out _).mono ?_
                rintro e V2 ⟨rfl, hv2⟩
                have c8 := (hv2.cell (p := ⟨g', o' + 8, none⟩) (Nat.lt_of_lt_of_le hgr1 (by simp))).trans ((((Below.refl _ _).alloc (Nat.le_refl _) (.cells #[.int .u64 k1, .int .u64 k2] 74) : Below V1.heap.size V1 (V1.alloc (.cells #[.int .u64 k1, .int .u64 k2] 74))).cell (p := ⟨g', o' + 8, none⟩) hgr1).trans c8)
                have Z4 := Lib.hid ((Z1.out.keep hv2).keep ((Below.refl _ _).alloc (Nat.le_refl _) (.cells #[.int .u64 (y.a / 18446744073709551616), .int .u64 (y.a % 18446744073709551616)] 74)))
                have hy4 : WB (V2.alloc (.cells #[.int .u64 (y.a / 18446744073709551616), .int .u64 (y.a % 18446744073709551616)] 74)) V2.heap.size y.a := blk_new _ _
                have hgr2 : g' < V2.heap.size := Nat.lt_of_lt_of_le (Nat.lt_of_lt_of_le hgr1 (by simp)) hv2.size
                have c8 := (((Below.refl _ _).alloc (Nat.le_refl _) (.cells #[.int .u64 (y.a / 18446744073709551616), .int .u64 (y.a % 18446744073709551616)] 74) : Below V2.heap.size V2 (V2.alloc (.cells #[.int .u64 (y.a / 18446744073709551616), .int .u64 (y.a % 18446744073709551616)] 74))).cell (p := ⟨g', o' + 8, none⟩) hgr2).trans c8
                have hgr4 : g' < (V2.alloc (.cells #[.int .u64 (y.a / 18446744073709551616), .int .u64 (y.a % 18446744073709551616)] 74)).heap.size := Nat.lt_of_lt_of_le hgr2 (by simp)
                have hbr : y.a ≤ t + 1 := by have := HY.out.2.2.2; omega
                clear c0 c1 c2 c3 c4 c5 c6 c7 hv2 Z1 hgr1 hgr2
                go_upto_region 14 with fail
                generalize V1.heap.size = b1 at *
                generalize V2.heap.size = b2 at *
                generalize V2.alloc (.cells #[.int .u64 (y.a / 18446744073709551616), .int .u64 (y.a % 18446744073709551616)] 74) = V4 at *
                have y0 := (blk_cell hy4 0).trans (show _ = some (Value.int .u64 (y.a / 18446744073709551616)) from rfl)
                have y1 := (blk_cell hy4 1).trans (show _ = some (Value.int .u64 (y.a % 18446744073709551616)) from rfl)
                have hb2l := blk_lt hy4
                have HLY := Lib.hid (wlast_z HY.out.2.1 HY.out.2.2)
                obtain ⟨ty, ety⟩ : ∃ t, t = (rngZ y).2 := ⟨_, rfl⟩
                rw [← ety] at HLY
                have ETY := Lib.hid ety
                clear ety hy4
                go_upto_region 15 with fail
                have mb1 : b2 ≠ V4.heap.size := Nat.ne_of_lt hb2l
                have mb2 : g' ≠ V4.heap.size := Nat.ne_of_lt hgr4
                have mb3 : V4.heap.size ≠ b2 := (Nat.ne_of_lt hb2l).symm
                have mb4 : V4.heap.size ≠ g' := (Nat.ne_of_lt hgr4).symm
                go_cut [13] (fun s W => LB V4 ty s W)
                case first =>
                  go_region_held3 (fun w' => w'.cell? ⟨b2, 0, none⟩ = some (.int .u64 (y.a / 18446744073709551616)) ∧ w'.cell? ⟨b2, 1, none⟩ = some (.int .u64 (y.a % 18446744073709551616)) ∧ w'.cell? ⟨g', o' + 8, none⟩ = some (.int .i64 y.n))
                    (first | go_keep | (refine ⟨?_, ?_, ?_⟩ <;> assumption) | (refine ⟨?_, ?_, ?_⟩ <;> (rw [World.cell?_setCell_other _ _ _ _ (by simp; omega), World.cell?_setCell_other _ _ _ _ (by simp; omega)]; assumption)))
                    (first
                    | (go_at_call 58
                       refine (HLY.out _).mono ?_
                       rintro e w5 ⟨rfl, hb5⟩
                       have HB5 : Below V4.heap.size V4 w5 := by first | exact hb5 | exact below_step ((Below.refl _ _).alloc (Nat.le_refl _) _) hb5 | exact below_step (bdn (Below.refl _ _) 1) hb5 | exact below_step (bdn ((Below.refl _ _).alloc (Nat.le_refl _) _) 1) hb5
                       have d0 := (HB5.cell (p := ⟨b2, 0, none⟩) hb2l).trans y0
                       have d1 := (HB5.cell (p := ⟨b2, 1, none⟩) hb2l).trans y1
                       have d2 := (HB5.cell (p := ⟨g', o' + 8, none⟩) hgr4).trans c8
                       have hl5 : V4.heap.size ≤ w5.heap.size := HB5.size
                       have hl6 : b2 < w5.heap.size := Nat.lt_of_lt_of_le hb2l HB5.size
                       have hl7 : g' < w5.heap.size := Nat.lt_of_lt_of_le hgr4 HB5.size
                       have hz0 : w5.heap[V4.heap.size]? = some (.cells #[.int .u64 0, .int .u64 0] 74 (0, 0)) := by first | exact blk_below (blk_new _ _) hb5 | exact blk_below (blk_drew (blk_new _ _)) hb5
                       have z0 := (blk_cell hz0 0).trans (show _ = some (Value.int .u64 0) from rfl)
                       have z1 := (blk_cell hz0 1).trans (show _ = some (Value.int .u64 0) from rfl)
                       have f0 := blk_frozen hz0 0
                       have f1 := blk_frozen hz0 1
                       have hzl := blk_lt hz0)
                    | (go_at_call 58
                       refine (HLY.out _).mono ?_
                       rintro e w5 ⟨rfl, hb5⟩
                       have HB5 : Below V4.heap.size V4 w5 := by first | exact hb5 | exact below_step (bdn (Below.refl _ _) 1) hb5
                       have d0 := (HB5.cell (p := ⟨b2, 0, none⟩) hb2l).trans y0
                       have d1 := (HB5.cell (p := ⟨b2, 1, none⟩) hb2l).trans y1
                       have d2 := (HB5.cell (p := ⟨g', o' + 8, none⟩) hgr4).trans c8
                       have hl5 : V4.heap.size ≤ w5.heap.size := HB5.size
                       have hl6 : b2 < w5.heap.size := Nat.lt_of_lt_of_le hb2l HB5.size
                       have hl7 : g' < w5.heap.size := Nat.lt_of_lt_of_le hgr4 HB5.size))
                  all_goals go_wp2_with fail
                  all_goals go_meet
                  · exact ⟨_, rfl, blk_new _ _, HB5.alloc HB5.size _, HB5.size⟩
                  · exact ⟨_, rfl, blk_put (blk_put hz0 0 _ rfl) 1 _ rfl, (HB5.setCell (Nat.le_refl _) _).setCell (Nat.le_refl _) _, Nat.le_refl _⟩
                case rest =>
                  obtain ⟨bl, rfl, hWl, hbl, hll⟩ := hcut
                  have Z5 := Lib.hid (Z4.out.keep hbl)
                  have HLT5 := Lib.hid (Nat.lt_of_lt_of_le (blk_lt Z4.out.kt) hll)
                  have k0 := (blk_cell Z5.out.kt 0).trans (show _ = some (Value.int .u64 (t / 18446744073709551616)) from rfl)
                  have k1 := (blk_cell Z5.out.kt 1).trans (show _ = some (Value.int .u64 (t % 18446744073709551616)) from rfl)
                  have l0 := (blk_cell hWl 0).trans (show _ = some (Value.int .u64 (ty / 18446744073709551616)) from rfl)
                  have l1 := (blk_cell hWl 1).trans (show _ = some (Value.int .u64 (ty % 18446744073709551616)) from rfl)
                  have hkl := blk_lt Z5.out.kt
                  have hll2 := blk_lt hWl
                  have HWL := Lib.hid hWl
                  have hwy := wide_z HY.out.2.1 HY.out.2.2
                  rw [← ETY.out] at hwy
                  have HLS2 := Lib.hid (less_at Z5.out.wide hwy.1)
                  have hle1 : (rngZ y).1 ≤ t + 1 := by
                    rw [show (rngZ y).1 = y.a from (rngZ_ok HY.out.2.1 HY.out.2.2).2.2.1]
                    omega
                  have HLE1 := Lib.hid hle1
                  have HWY2 := Lib.hid hwy.1
                  clear hWl hbl hll y0 y1 c8 hgr4 hb2l mb1 mb2 mb3 mb4 hwy hle1 Z4
                  by_cases hty : t < ty
                  · rw [decide_eq_true hty] at HLS2
                    go_wp2_with fail
                    refine (HLS2.out _).mono ?_
                    rintro e V6 ⟨rfl, hv6⟩
                    have Z6 := Lib.hid (Z5.out.keep hv6)
                    have hWl6 := blk_below HWL.out hv6
                    clear k0 k1 l0 l1 hkl hll2 hv6 Z5
                    have k0 := (blk_cell Z6.out.kt 0).trans (show _ = some (Value.int .u64 (t / 18446744073709551616)) from rfl)
                    have k1 := (blk_cell Z6.out.kt 1).trans (show _ = some (Value.int .u64 (t % 18446744073709551616)) from rfl)
                    have f0 := blk_frozen Z6.out.kt 0
                    have f1 := blk_frozen Z6.out.kt 1
                    have l0 := (blk_cell hWl6 0).trans (show _ = some (Value.int .u64 (ty / 18446744073709551616)) from rfl)
                    have l1 := (blk_cell hWl6 1).trans (show _ = some (Value.int .u64 (ty % 18446744073709551616)) from rfl)
                    have hkl := blk_lt Z6.out.kt
                    have hll2 := blk_lt hWl6
                    clear hWl6
                    have Z7 := Z6.out.move HY.out.1 HLE1.out (by rw [← ETY.out]; exact HWY2.out) (by rw [← ETY.out]; exact hty)
                    rw [← ETY.out] at Z7
                    have Z7 := Lib.hid Z7
                    have hcs1' : 1 ≤ cs' := by omega
                    have hm1' : 1 ≤ D.length - j := by omega
                    go_wp2_with fail
                    exact ⟨⟨j + 1, ty, by omega, by omega, cutS_if hjl hcs' HRj.out, Z7.out⟩, by show D.length - j - 1 < D.length - j; omega⟩
                  · rw [decide_eq_false hty] at HLS2
                    go_wp2_with fail
                    refine (HLS2.out _).mono ?_
                    rintro e V6 ⟨rfl, hv6⟩
                    have Z6 := Lib.hid (Z5.out.keep hv6)
                    clear k0 k1 l0 l1 hkl hll2 hv6 Z5
                    have Z7 := Lib.hid (Z6.out.stay HY.out.1 HLE1.out (by rw [← ETY.out]; omega))
                    have hcs1' : 1 ≤ cs' := by omega
                    have hm1' : 1 ≤ D.length - j := by omega
                    go_wp2_with fail
                    exact ⟨⟨j + 1, t, by omega, by omega, cutS_if hjl hcs' HRj.out, Z7.out⟩, by show D.length - j - 1 < D.length - j; omega⟩
            · have hj0 : D.length - j = 0 := by omega
              have t0 := (blk_cell HZ.out.kt 0).trans (show _ = some (Value.int .u64 (t / 18446744073709551616)) from rfl)
              have t1 := (blk_cell HZ.out.kt 1).trans (show _ = some (Value.int .u64 (t % 18446744073709551616)) from rfl)
              have r0 := (blk_cell HZ.out.kf 0).trans (show _ = some (Value.int .u64 (x.a / 18446744073709551616)) from rfl)
              have r1 := (blk_cell HZ.out.kf 1).trans (show _ = some (Value.int .u64 (x.a % 18446744073709551616)) from rfl)
              have hlt1 := blk_lt HZ.out.kt
              have hlf1 := blk_lt HZ.out.kf
              go_wp2_with fail
              have hBw := below_step B.out HZ.out.below
              refine (cover_walk x.a t HX.out.2.2 HZ.out.wide HZ.out.le _ (Nat.lt_of_lt_of_le hg hBw.size) (HT.out.keep (B := w.heap.size) hg hBw)).mono ?_
              rintro e V ⟨u, rfl, hou, hbv⟩
              have hfew := coverL_few HX.out.2.2 HZ.out.wide HZ.out.le
              have hB4 := below_step HZ.out.below hbv
              clear t0 t1 r0 r1 hlt1 hlf1 hBw
              go_wp2_with (at_builtin; refine app_row rfl (.tmp 70) (.tmp 73) 25 rfl w3.heap.size 53 i0 (.agg #[.int .u16 0, .int .u16 0, .int .u16 0, .int .u16 0, .int .u16 0, .int .u16 0, .int .u16 0, .int .u16 0, .int .i64 0]) 9 24 Tryd.underlying25 HI0.out HZ0.out HZ1.out HZ2.out rfl (by decide) u7 (coverJ acc).length (pcells (coverJ acc)) rfl (own_below HZ.out.own hbv) u wr.heap.size (coverL x.a t).length (pcells (coverL x.a t)) rfl hou (pcells_one _) (by unfold maxLen; omega) (by omega) hB4.size ?_; intro v4 w4 hown4 hbel4)
              refine ⟨?_, ?_⟩
              · rw [← hj0]
                refine exit_jz hij hj hcs' HRj.out hown4 (hbel4 _ _ (Nat.le_refl _) hB4) HZ.out.sw (fun r hr => ?_) hlen hfew
                rw [List.drop_of_length_le (by omega)] at hr
                cases hr
              · show 0 < D.length - i
                omega
    · have hi0 : D.length - i = 0 := by omega
      go_wp2_with fail
      go_returns
      have hend : joinR [] (l.map rngZ) = acc := by
        have h := HSW.out
        rw [List.drop_of_length_le (by omega)] at h
        have hle : ∀ r ∈ l.map rngZ, r.1 ≤ r.2 := by
          intro r hr
          obtain ⟨z, hz, rfl⟩ := List.mem_map.1 hr
          have hz' := HOK.out z (HD.out.2.1.symm.subset hz)
          have h5 := rngZ_ok hz'.1 hz'.2
          have h6 := pow_pos2 (128 - z.n.toNat)
          rw [h5.2.2.2.2]
          show z.v ≤ _
          rw [h5.2.2.1]
          omega
        have hasc : Asc (D.map rngZ) := by
          unfold Asc
          rw [List.pairwise_map]
          exact HD.out.2.2
        rw [← sweep_join _ _ hle hasc (HD.out.2.1.map rngZ), h]
        simp [sweepL]
      rw [hend]
      exact ⟨_, rfl, World.ownsRow.mono HO.out B.out.size, below_step B.out HBW.out⟩
end Go.Proofs.YtcgdjnmfeibnoaaDoor
/-! SixRefJoinZ -/
namespace Go.Proofs.YtcgdjnmfeibnoaaDoor
open Go.RowKit Go.Lib Go.Proofs.YtcgdjnmfeibnoaaDoorW.PrintWords
set_option linter.unusedVariables false
set_option linter.unusedSimpArgs false
/-- Where the insertion stands. -/
def InsRel (w : World) (l : List Pz) (v i : Value) (W : World) : Prop := ∃ (k : Nat) (S : List Pz), k ≤ l.length ∧ i = .int .i64 k ∧ W.ownsRow w.heap.size 61 9 v S.length (zcs S) ∧ S.Perm (l.take k) ∧ AscZ S ∧ Below w.heap.size w W
/-- Where the search for a place stands. -/
def AtRel (w1 : World) (S : List Pz) (x : Pz) (i : Value) (W : World) : Prop := ∃ k : Nat, k ≤ S.length ∧ i = .int .i64 k ∧ (∀ y ∈ S.drop k, x.v ≤ y.v) ∧ Below w1.heap.size w1 W
/-- A row of one prefix made behind an empty row that then grows. -/
theorem one_newer {wc w4 : World} (x : Pz) (e : TypeId) (E0 : Obj) (h : World.grownBy ((wc.alloc E0).alloc (.cells (zc x).toArray e)).drew w4 (Value.slice (some ⟨wc.heap.size, 0, none⟩) 0 0).ownBlock) : w4.ownsRow wc.heap.size e 9 (.slice (some ⟨wc.heap.size + 1, 0, none⟩) 1 1) 1 (zc x) := by
  have h1 := own_one (B := wc.heap.size) (wc.alloc E0) x e (by simp)
  simp only [World.size_alloc] at h1
  have h2 : (((wc.alloc E0).alloc (.cells (zc x).toArray e)).drew).ownsRow wc.heap.size e 9 (.slice (some ⟨wc.heap.size + 1, 0, none⟩) 1 1) 1 (zc x) := h1
  exact h2.kept h (Or.inr (by simp [Value.ownBlock]))
/-- A row of one prefix made ahead of an empty row that then grows. -/
theorem one_elder {wc w4 : World} (x : Pz) (e : TypeId) (E0 : Obj) (h : World.grownBy ((wc.alloc (.cells (zc x).toArray e)).alloc E0).drew w4 (Value.slice (some ⟨wc.heap.size + 1, 0, none⟩) 0 0).ownBlock) : w4.ownsRow wc.heap.size e 9 (.slice (some ⟨wc.heap.size, 0, none⟩) 1 1) 1 (zc x) := by
  have h1 := own_belowS (own_one (B := wc.heap.size) wc x e (Nat.le_refl _)) ((Below.refl _ _).alloc (Nat.le_refl _) E0)
  have h2 : (((wc.alloc (.cells (zc x).toArray e)).alloc E0).drew).ownsRow wc.heap.size e 9 (.slice (some ⟨wc.heap.size, 0, none⟩) 1 1) 1 (zc x) := h1
  exact h2.kept h (Or.inr (by simp [Value.ownBlock]))
theorem none_newer {wc : World} (e : TypeId) (E0 : Obj) : ((wc.alloc E0).alloc (.cells #[] e)).drew.ownsRow wc.heap.size e 9 (.slice (some ⟨wc.heap.size + 1, 0, none⟩) 0 0) 0 (zcs []) := by
  have h1 : ((wc.alloc E0).alloc (.cells #[] e)).ownsRow wc.heap.size e 9 (.slice (some ⟨(wc.alloc E0).heap.size, 0, none⟩) 0 0) 0 (zcs []) := World.ownsRow.mono (own_none (wc.alloc E0) e) (by rw [World.size_alloc]; omega)
  simp only [World.size_alloc] at h1
  exact h1
theorem ins_perm {x : Pz} {S l : List Pz} {i k : Nat} (h : S.Perm (l.take i)) (hx : l[i]? = some x) : (insZ x S k).Perm (l.take (i + 1)) := by
  rw [List.take_add_one, hx]
  exact (insZ_perm x S k).trans ((h.cons x).trans (List.perm_append_singleton x _).symm)
theorem blk_new2 (W : World) (o o' : Obj) : ((W.alloc o).alloc o').heap[W.heap.size + 1]? = some o' := by
  have := blk_new (W.alloc o) o'
  rwa [World.size_alloc] at this
/-- A variable that holds an address. -/
def BX (W : World) (b : Nat) (v : Int) : Prop := W.heap[b]? = some (.cells #[.int .u16 (pc 0 v), .int .u16 (pc 1 v), .int .u16 (pc 2 v), .int .u16 (pc 3 v), .int .u16 (pc 4 v), .int .u16 (pc 5 v), .int .u16 (pc 6 v), .int .u16 (pc 7 v)] 30 (0, 0))
theorem BX.below {W W' : World} {b : Nat} {v : Int} (h : BX W b v) (hb : Below W.heap.size W W') : BX W' b v := blk_below h hb
theorem BX.lt {W : World} {b : Nat} {v : Int} (h : BX W b v) : b < W.heap.size := blk_lt h
theorem bx_new (W : World) (v : Int) : BX (W.alloc (.cells #[.int .u16 (pc 0 v), .int .u16 (pc 1 v), .int .u16 (pc 2 v), .int .u16 (pc 3 v), .int .u16 (pc 4 v), .int .u16 (pc 5 v), .int .u16 (pc 6 v), .int .u16 (pc 7 v)] 30)) W.heap.size v := blk_new _ _
theorem setRow_else {W : World} {g b : Nat} {c : Array Value} (h : b ≠ g) : (W.setRow g c).heap[b]? = W.heap[b]? := by
  simp only [World.setRow, Array.getElem?_modify]
  rw [if_neg (fun e => h e.symm)]
/-- A store into a variable that holds an address, whatever it held. -/
theorem store_to {W : World} {g : Nat} {old : Array Value} (h : W.heap[g]? = some (.cells old 30 (0, 0))) (ho : old.size = 8) (v : Int) :
    ∃ wB, (storeR (.pointer (some ⟨g, 0, none⟩)) (.agg #[.int .u16 (pc 0 v), .int .u16 (pc 1 v), .int .u16 (pc 2 v), .int .u16 (pc 3 v), .int .u16 (pc 4 v), .int .u16 (pc 5 v), .int .u16 (pc 6 v), .int .u16 (pc 7 v)])).run Tryd.prog W = .ok () wB ∧ BX wB g v ∧ (∀ B w0, B ≤ g → Below B w0 W → Below B w0 wB) ∧ (∀ b, b ≠ g → wB.heap[b]? = W.heap[b]?) ∧ W.grownBy wB (some g) :=
  ⟨_, storeR_old h ho _ _ _ _ _ _ _ _, setRow_at h, fun B w0 hB hw => below_setRow hw hB _, fun b hb => setRow_else hb, ⟨rfl, rfl, rfl, by simp [World.setRow], fun k _ hk => setRow_else (fun e => hk (by rw [e]))⟩⟩
/-- A store into a new variable behind which one more was made. -/
@[go_sem] theorem storeR_new2 {n : Nat} (W : World) (o : Obj) (z0 z1 z2 z3 z4 z5 z6 z7 y0 y1 y2 y3 y4 y5 y6 y7 : Int) (hn : n = W.heap.size) :
    (storeR (.pointer (some ⟨n, 0, none⟩)) (.agg #[.int .u16 y0, .int .u16 y1, .int .u16 y2, .int .u16 y3, .int .u16 y4, .int .u16 y5, .int .u16 y6, .int .u16 y7])).run Tryd.prog ((W.alloc (.cells #[.int .u16 z0, .int .u16 z1, .int .u16 z2, .int .u16 z3, .int .u16 z4, .int .u16 z5, .int .u16 z6, .int .u16 z7] 30)).alloc o) = .ok () ((W.alloc (.cells #[.int .u16 y0, .int .u16 y1, .int .u16 y2, .int .u16 y3, .int .u16 y4, .int .u16 y5, .int .u16 y6, .int .u16 y7] 30)).alloc o) := by
  subst hn
  rw [storeR_old (blk_alloc (blk_new W _) o) rfl]
  congr 1
  simp only [World.setRow, World.alloc]
  congr 1
  apply Array.ext_getElem?
  intro i
  rw [Array.getElem?_modify]
  by_cases h : W.heap.size = i
  · subst h
    simp [Array.getElem?_push]
  · have h' : ¬ i = W.heap.size := fun e => h e.symm
    rw [if_neg h]
    simp [Array.getElem?_push, h']
/-- The document's Last of a prefix. -/
theorem rlast_z {x : Pz} (h : isZ x = true) (hw : Wide x.a) (w : World) : Calls Tryd.prog 40 #[PV x.a x.n] w fun e w' => e = .returned (AV (rngZ x).2) ∧ Below w.heap.size w w' := by
  obtain ⟨h0, h1, h2, h3, h4⟩ := rngZ_ok h hw
  have := refLast_at (n := x.n.toNat) hw (by omega) h3 w
  rw [show ((x.n.toNat : Nat) : Int) = x.n by omega] at this
  rw [h4]
  exact this
theorem rnext_max {v : Int} (hv : Wide v) (h : ¬ v < 340282366920938463463374607431768211455) (w : World) : Calls Tryd.prog 41 #[AV v] w fun e w' => (∃ y0 y1 y2 y3 y4 y5 y6 y7 : Int, e = .returned (.tuple #[A8 y0 y1 y2 y3 y4 y5 y6 y7, .bool false])) ∧ Below w.heap.size w w' := by
  have hN := refNext_walk _ _ _ _ _ _ _ _ (pc_r8 v) w
  rw [pc_v8 hv] at hN
  refine hN.mono ?_
  rintro e w' ⟨y0, y1, y2, y3, y4, y5, y6, y7, ok, rfl, hr, h1, h2, hb⟩
  cases ok with
  | false => exact ⟨⟨_, _, _, _, _, _, _, _, rfl⟩, hb⟩
  | true =>
    have := v8_wide hr
    rw [h1 rfl] at this
    have := this.2
    omega
/-- Where the sweep stands. -/
def KZ (w3 : World) (D : List Pz) (s v : Value) (W : World) : Prop := ∃ (i : Nat) (acc : List (Int × Int)), v = .int .i64 i ∧ i ≤ D.length ∧ W.ownsRow w3.heap.size 61 9 s (coverJ acc).length (pcells (coverJ acc)) ∧ Below w3.heap.size w3 W ∧ sweepL (D.map rngZ) = acc ++ sweepL ((D.drop i).map rngZ) ∧ (coverJ acc).length ≤ 258 * i
/-- Where it stands within a range. -/
structure IR (w3 : World) (D : List Pz) (acc : List (Int × Int)) (a : Int) (bf bt : Nat) (v : Value) (j : Nat) (t : Int) (W : World) : Prop where
  wide : Wide t
  le : a ≤ t
  kf : BX W bf a
  kt : BX W bt t
  ne : bf ≠ bt
  far : ∀ k, v.ownBlock = some k → k ≠ bt
  own : W.ownsRow w3.heap.size 61 9 v (coverJ acc).length (pcells (coverJ acc))
  lo : w3.heap.size ≤ bf
  lo2 : w3.heap.size ≤ bt
  below : Below w3.heap.size w3 W
  sw : sweepL (D.map rngZ) = acc ++ sweep a t ((D.drop j).map rngZ)
theorem IR.keep {w3 : World} {D : List Pz} {acc : List (Int × Int)} {a : Int} {bf bt : Nat} {v : Value} {j : Nat} {t : Int} {W W' : World} (h : IR w3 D acc a bf bt v j t W) (hb : Below W.heap.size W W') : IR w3 D acc a bf bt v j t W' :=
  ⟨h.wide, h.le, h.kf.below hb, h.kt.below hb, h.ne, h.far, own_below h.own hb, h.lo, h.lo2, below_step h.below hb, h.sw⟩
theorem IR.step {w3 : World} {D : List Pz} {acc : List (Int × Int)} {a : Int} {bf bt : Nat} {v : Value} {j : Nat} {t : Int} {W : World} {y : Pz} (h : IR w3 D acc a bf bt v j t W) (hy : D[j]? = some y) (hle : (rngZ y).1 ≤ t + 1) : sweepL (D.map rngZ) = acc ++ sweep a (max t (rngZ y).2) ((D.drop (j + 1)).map rngZ) := by
  obtain ⟨hlt, e⟩ := List.getElem?_eq_some_iff.1 hy
  rw [h.sw, List.drop_eq_getElem_cons hlt, e, List.map_cons, sweep, if_pos hle]
theorem IR.stay {w3 : World} {D : List Pz} {acc : List (Int × Int)} {a : Int} {bf bt : Nat} {v : Value} {j : Nat} {t : Int} {W : World} {y : Pz} (h : IR w3 D acc a bf bt v j t W) (hy : D[j]? = some y) (hle : (rngZ y).1 ≤ t + 1) (hm : (rngZ y).2 ≤ t) : IR w3 D acc a bf bt v (j + 1) t W :=
  ⟨h.wide, h.le, h.kf, h.kt, h.ne, h.far, h.own, h.lo, h.lo2, h.below, by rw [h.step hy hle, Int.max_eq_left hm]⟩
theorem IR.move {w3 : World} {D : List Pz} {acc : List (Int × Int)} {a : Int} {bf bt : Nat} {v : Value} {j : Nat} {t : Int} {W W' : World} {y : Pz} (h : IR w3 D acc a bf bt v j t W) (hy : D[j]? = some y) (hle : (rngZ y).1 ≤ t + 1) (hw : Wide (rngZ y).2) (hm : t < (rngZ y).2) (hx : BX W' bt (rngZ y).2) (hbel : ∀ B w0, B ≤ bt → Below B w0 W → Below B w0 W') (hoth : ∀ b, b ≠ bt → W'.heap[b]? = W.heap[b]?) (hg : W.grownBy W' (some bt)) :
    IR w3 D acc a bf bt v (j + 1) (rngZ y).2 W' :=
  ⟨hw, by have := h.le; omega, (hoth bf h.ne).trans h.kf, hx, h.ne, h.far, h.own.kept hg (by
      cases hv : v.ownBlock with
      | none => exact Or.inl rfl
      | some k => exact Or.inr (by have := h.far k hv; simpa using this)), h.lo, h.lo2, hbel _ _ h.lo2 h.below, by rw [h.step hy hle, Int.max_eq_right (by omega)]⟩
/-- Two variables that hold a range. -/
def RB17 (w0 : World) (a t : Int) (s u : Value) (W : World) : Prop := ∃ bf bt, s = .pointer (some ⟨bf, 0, none⟩) ∧ u = .pointer (some ⟨bt, 0, none⟩) ∧ BX W bf a ∧ BX W bt t ∧ bf ≠ bt ∧ w0.heap.size ≤ bf ∧ w0.heap.size ≤ bt ∧ Below w0.heap.size w0 W
theorem rb17_ab {w0 w1 : World} (hB : Below w0.heap.size w0 w1) (a t : Int) : RB17 w0 a t (.pointer (some ⟨w1.heap.size, 0, none⟩)) (.pointer (some ⟨w1.heap.size + 1, 0, none⟩)) ((w1.alloc (.cells #[.int .u16 (pc 0 a), .int .u16 (pc 1 a), .int .u16 (pc 2 a), .int .u16 (pc 3 a), .int .u16 (pc 4 a), .int .u16 (pc 5 a), .int .u16 (pc 6 a), .int .u16 (pc 7 a)] 30)).alloc (.cells #[.int .u16 (pc 0 t), .int .u16 (pc 1 t), .int .u16 (pc 2 t), .int .u16 (pc 3 t), .int .u16 (pc 4 t), .int .u16 (pc 5 t), .int .u16 (pc 6 t), .int .u16 (pc 7 t)] 30)) :=
  ⟨_, _, rfl, rfl, blk_alloc (bx_new w1 a) _, blk_new2 _ _ _, by omega, hB.size, Nat.le_succ_of_le hB.size, (hB.alloc hB.size _).alloc (hB.alloc hB.size _).size _⟩
theorem rb17_ba {w0 w1 : World} (hB : Below w0.heap.size w0 w1) (a t : Int) : RB17 w0 a t (.pointer (some ⟨w1.heap.size + 1, 0, none⟩)) (.pointer (some ⟨w1.heap.size, 0, none⟩)) ((w1.alloc (.cells #[.int .u16 (pc 0 t), .int .u16 (pc 1 t), .int .u16 (pc 2 t), .int .u16 (pc 3 t), .int .u16 (pc 4 t), .int .u16 (pc 5 t), .int .u16 (pc 6 t), .int .u16 (pc 7 t)] 30)).alloc (.cells #[.int .u16 (pc 0 a), .int .u16 (pc 1 a), .int .u16 (pc 2 a), .int .u16 (pc 3 a), .int .u16 (pc 4 a), .int .u16 (pc 5 a), .int .u16 (pc 6 a), .int .u16 (pc 7 a)] 30)) :=
  ⟨_, _, rfl, rfl, blk_new2 _ _ _, blk_alloc (bx_new w1 t) _, by omega, Nat.le_succ_of_le hB.size, hB.size, (hB.alloc hB.size _).alloc (hB.alloc hB.size _).size _⟩
theorem exit_kz {w3 w4 : World} {D : List Pz} {acc : List (Int × Int)} {a t : Int} {i j : Nat} {v4 : Value} (hij : i < j) (hj : j ≤ D.length)
    (hown : w4.ownsRow w3.heap.size 61 9 v4 ((coverJ acc).length + (coverL a t).length) (pcells (coverJ acc) ++ pcells (coverL a t))) (hB : Below w3.heap.size w3 w4)
    (hsw : sweepL (D.map rngZ) = acc ++ sweep a t ((D.drop j).map rngZ)) (hst : ∀ r, ((D.drop j).map rngZ)[0]? = some r → ¬ r.1 ≤ t + 1) (hl : (coverJ acc).length ≤ 258 * i) (hf : (coverL a t).length ≤ 258) :
    KZ w3 D v4 (.int .i64 j) w4 := by
  refine ⟨j, acc ++ [(a, t)], rfl, hj, ?_, hB, ?_, ?_⟩
  · rw [coverJ_snoc, List.length_append, pcells_app]
    exact hown
  · rw [hsw, sweep_stop hst, List.append_assoc]
    rfl
  · rw [coverJ_snoc, List.length_append]
    omega
set_option maxHeartbeats 4000000 in
set_option maxRecDepth 100000 in
theorem refJoinZ_walk (A : Option Addr) (c : Nat) (l : List Pz) (w : World) (hr : RdZ w A l) (hn : l.length ≤ 1048576) (hok : ∀ x ∈ l, isZ x = true ∧ Wide x.a) :
    Calls Tryd.prog 20 #[.slice A l.length c] w fun e w' => ∃ v, e = .returned (.tuple #[v, .int .i64 0, .int .i64 0]) ∧ w'.ownsRow w.heap.size 61 9 v (coverJ (joinR [] (l.map rngZ))).length (pcells (coverJ (joinR [] (l.map rngZ)))) ∧ Below w.heap.size w w' := by
  have HR := Lib.hid hr
  have HOK := Lib.hid hok
  clear hr hok
  go_enter Tryd.func20, Tryd.ntmps20
  go_wp2_with fail
  go_loopw [5] (fun i W => AllRel w l i W) (fun i _ => l.length - (intOf i).toNat)
  case atStart => exact ⟨0, Nat.zero_le _, rfl, fun j y h => absurd h (Nat.not_lt_zero _), Below.refl _ _⟩
  case round =>
    obtain ⟨k, hk, rfl, hall, hb⟩ := hrel
    have HALL := Lib.hid hall
    have HB := Lib.hid hb
    clear hall hb
    by_cases hlt : k < l.length
    · obtain ⟨x, hx⟩ : ∃ x, l[k]? = some x := ⟨l[k], List.getElem?_eq_getElem hlt⟩
      obtain ⟨g, o, rfl, hg, hc⟩ := (HR.out.keep HB.out) k x hx
      have c0 := (hc 0 (by decide)).trans (show (zc x)[0]? = some (.int .u16 (pc 0 x.a)) from rfl)
      have c1 := (hc 1 (by decide)).trans (show (zc x)[1]? = some (.int .u16 (pc 1 x.a)) from rfl)
      have c2 := (hc 2 (by decide)).trans (show (zc x)[2]? = some (.int .u16 (pc 2 x.a)) from rfl)
      have c3 := (hc 3 (by decide)).trans (show (zc x)[3]? = some (.int .u16 (pc 3 x.a)) from rfl)
      have c4 := (hc 4 (by decide)).trans (show (zc x)[4]? = some (.int .u16 (pc 4 x.a)) from rfl)
      have c5 := (hc 5 (by decide)).trans (show (zc x)[5]? = some (.int .u16 (pc 5 x.a)) from rfl)
      have c6 := (hc 6 (by decide)).trans (show (zc x)[6]? = some (.int .u16 (pc 6 x.a)) from rfl)
      have c7 := (hc 7 (by decide)).trans (show (zc x)[7]? = some (.int .u16 (pc 7 x.a)) from rfl)
      have c8 := (hc 8 (by decide)).trans (show (zc x)[8]? = some (.int .i64 x.n) from rfl)
      simp only [Nat.add_zero, ← Nat.add_assoc] at c0 c1 c2 c3 c4 c5 c6 c7 c8
      clear hc
      have HX := Lib.hid hx
      clear hx
      have hIs := fun w => refIsPrefix_walk _ _ _ _ _ _ _ _ (pc_r8 x.a) x.n w
      rw [show isPre (V8 (pc 0 x.a) (pc 1 x.a) (pc 2 x.a) (pc 3 x.a) (pc 4 x.a) (pc 5 x.a) (pc 6 x.a) (pc 7 x.a)) x.n = isZ x from rfl] at hIs
      have HIs := Lib.hid hIs
      clear hIs
      go_wp2_with fail
      refine (HIs.out _).mono ?_
      rintro e w1 ⟨rfl, hb1⟩
      have HB1 := Lib.hid (below_step HB.out hb1)
      clear hb1 c0 c1 c2 c3 c4 c5 c6 c7 c8 hg
      have hz := (HOK.out x (List.mem_of_getElem? HX.out)).1
      rw [hz]
      have HZ := Lib.hid hz
      clear hz
      go_wp2_with fail
      exact ⟨⟨k + 1, by omega, by simp, step_all HALL.out HX.out HZ.out, HB1.out⟩, by simp [intOf]; omega⟩
    · obtain rfl : k = l.length := by omega
      clear HALL
      go_wp2_with fail
      go_loopw [6, 7] (fun v i W => InsRel w l v i W) (fun _ i _ => l.length - (intOf i).toNat)
      case atStart => exact ⟨0, [], Nat.zero_le _, rfl, World.ownsRow.mono (own_none _ _) HB.out.size, List.Perm.refl _, List.Pairwise.nil, HB.out.alloc HB.out.size _⟩
      case round =>
        obtain ⟨i, S, hi, rfl, hown, hperm, hasc, hb⟩ := hrel
        have HO := Lib.hid hown
        have HP := Lib.hid (And.intro hperm hasc)
        have HB2 := Lib.hid hb
        clear hown hperm hasc hb
        have hSl : S.length = i := by
          have := HP.out.1.length_eq
          rw [List.length_take] at this
          omega
        by_cases hlt : i < l.length
        · obtain ⟨x, hx⟩ : ∃ x, l[i]? = some x := ⟨l[i], List.getElem?_eq_getElem hlt⟩
          obtain ⟨As, cs, hv, hcs, hRS, hAn⟩ := rdz_own2 HO.out rfl
          subst hv
          have HRS := Lib.hid hRS
          have HAN := Lib.hid hAn
          have HX := Lib.hid hx
          have HSL := Lib.hid hSl
          clear hRS hx hSl hAn
          go_upto_block 4 with fail
          go_cut [8] (fun s W => ∃ k : Nat, k ≤ S.length ∧ s = .int .i64 k ∧ (∀ y ∈ S.take k, y.v ≤ x.v) ∧ (∀ y ∈ S.drop k, x.v ≤ y.v) ∧ Below wr.heap.size wr W)
          case first =>
            go_wp2_with fail
            obtain ⟨w9, hw9⟩ : ∃ W, W = wr := ⟨_, rfl⟩
            rw [← hw9] at HB2 HRS
            have HW9 := Lib.hid hw9
            clear hw9
            go_loopw [8] (fun i W => AtRel w9 S x i W) (fun i _ => (intOf i).toNat)
            case atStart => exact ⟨S.length, Nat.le_refl _, by simp, fun y hy => by simp at hy, by rw [HW9.out]; exact Below.refl _ _⟩
            case round =>
              obtain ⟨k, hk, rfl, hgt, hbk⟩ := hrel
              have HGT := Lib.hid hgt
              have HBK := Lib.hid (below_step HB2.out hbk)
              have HRK := Lib.hid (HRS.out.keep hbk)
              have HBK9 := Lib.hid hbk
              clear hgt hbk
              by_cases hk0 : k = 0
              · subst hk0
                go_upto_region 11 with fail
                refine wp_region_ext (by kernel_rfl) (by kernel_rfl) ?_
                repeat (go_big_quiet_step (fail))
                refine wpQuiet_nil ?_
                rintro _ ⟨⟨w2, hb2⟩, rfl⟩
                have HB9 := Lib.hid (below_step HBK9.out hb2)
                clear hb2
                go_wp2_with fail
                go_meet
                exact ⟨0, Nat.zero_le _, rfl, insZ_stop HP.out.2 (Nat.zero_le _) (.inl rfl), HGT.out, by rw [← HW9.out]; exact HB9.out⟩
              · obtain ⟨m, rfl⟩ : ∃ m, k = m + 1 := ⟨k - 1, by omega⟩
                obtain ⟨y, hy⟩ : ∃ y, S[m]? = some y := ⟨S[m], List.getElem?_eq_getElem (by omega)⟩
                obtain ⟨g, o, rfl, hg, hc⟩ := (HR.out.keep HBK.out) i x HX.out
                obtain ⟨g2, o2, rfl, hg2, hd⟩ := HRK.out m y hy
                have c0 := (hc 0 (by decide)).trans (show (zc x)[0]? = some (.int .u16 (pc 0 x.a)) from rfl)
                have c1 := (hc 1 (by decide)).trans (show (zc x)[1]? = some (.int .u16 (pc 1 x.a)) from rfl)
                have c2 := (hc 2 (by decide)).trans (show (zc x)[2]? = some (.int .u16 (pc 2 x.a)) from rfl)
                have c3 := (hc 3 (by decide)).trans (show (zc x)[3]? = some (.int .u16 (pc 3 x.a)) from rfl)
                have c4 := (hc 4 (by decide)).trans (show (zc x)[4]? = some (.int .u16 (pc 4 x.a)) from rfl)
                have c5 := (hc 5 (by decide)).trans (show (zc x)[5]? = some (.int .u16 (pc 5 x.a)) from rfl)
                have c6 := (hc 6 (by decide)).trans (show (zc x)[6]? = some (.int .u16 (pc 6 x.a)) from rfl)
                have c7 := (hc 7 (by decide)).trans (show (zc x)[7]? = some (.int .u16 (pc 7 x.a)) from rfl)
                simp only [Nat.add_zero, ← Nat.add_assoc] at c0 c1 c2 c3 c4 c5 c6 c7
                have d0 := (hd 0 (by decide)).trans (show (zc y)[0]? = some (.int .u16 (pc 0 y.a)) from rfl)
                have d1 := (hd 1 (by decide)).trans (show (zc y)[1]? = some (.int .u16 (pc 1 y.a)) from rfl)
                have d2 := (hd 2 (by decide)).trans (show (zc y)[2]? = some (.int .u16 (pc 2 y.a)) from rfl)
                have d3 := (hd 3 (by decide)).trans (show (zc y)[3]? = some (.int .u16 (pc 3 y.a)) from rfl)
                have d4 := (hd 4 (by decide)).trans (show (zc y)[4]? = some (.int .u16 (pc 4 y.a)) from rfl)
                have d5 := (hd 5 (by decide)).trans (show (zc y)[5]? = some (.int .u16 (pc 5 y.a)) from rfl)
                have d6 := (hd 6 (by decide)).trans (show (zc y)[6]? = some (.int .u16 (pc 6 y.a)) from rfl)
                have d7 := (hd 7 (by decide)).trans (show (zc y)[7]? = some (.int .u16 (pc 7 y.a)) from rfl)
                simp only [Nat.add_zero, ← Nat.add_assoc] at d0 d1 d2 d3 d4 d5 d6 d7
                clear hc hd
                have HY := Lib.hid hy
                clear hy
                have hkb : m + 1 ≤ 1048576 := by have := HSL.out; omega
                have HCM := Lib.hid (fun w => refCompare_walk _ _ _ _ _ _ _ _ _ _ _ _ _ _ _ _ (pc_r8 x.a) (pc_r8 y.a) w)
                rw [show V8 (pc 0 x.a) (pc 1 x.a) (pc 2 x.a) (pc 3 x.a) (pc 4 x.a) (pc 5 x.a) (pc 6 x.a) (pc 7 x.a) = x.v from rfl, show V8 (pc 0 y.a) (pc 1 y.a) (pc 2 y.a) (pc 3 y.a) (pc 4 y.a) (pc 5 y.a) (pc 6 y.a) (pc 7 y.a) = y.v from rfl] at HCM
                by_cases hxy : x.v < y.v
                · rw [cmpI_lt hxy] at HCM
                  go_upto_region 11 with fail
                  refine wp_region_ext (by kernel_rfl) (by kernel_rfl) ?_
                  repeat (go_big_quiet_step (with_reducible exact ext_of (HCM.out _)))
                  refine wpQuiet_nil ?_
                  rintro _ ⟨⟨w2, hb2⟩, rfl⟩
                  have HB9 := Lib.hid (below_step HBK9.out hb2)
                  clear hb2 c0 c1 c2 c3 c4 c5 c6 c7 d0 d1 d2 d3 d4 d5 d6 d7 hg hg2
                  go_wp2_with fail
                  refine ⟨⟨m, by omega, by simp, fun z hz => ?_, HB9.out⟩, by simp [intOf]⟩
                  obtain ⟨h1, e1⟩ := List.getElem?_eq_some_iff.1 HY.out
                  rw [List.drop_eq_getElem_cons h1, e1] at hz
                  rcases List.mem_cons.1 hz with rfl | hz
                  · omega
                  · exact HGT.out z hz
                · have HXY := Lib.hid hxy
                  have hr : ¬ cmpI x.v y.v < 0 := by
                    unfold cmpI
                    rw [if_neg hxy]
                    split <;> omega
                  generalize cmpI x.v y.v = r at *
                  clear hxy
                  go_upto_region 11 with fail
                  refine wp_region_ext (by kernel_rfl) (by kernel_rfl) ?_
                  repeat (go_big_quiet_step (with_reducible exact ext_of (HCM.out _)))
                  refine wpQuiet_nil ?_
                  rintro _ ⟨⟨w2, hb2⟩, rfl⟩
                  have HB9 := Lib.hid (below_step HBK9.out hb2)
                  clear hb2 c0 c1 c2 c3 c4 c5 c6 c7 d0 d1 d2 d3 d4 d5 d6 d7 hg hg2
                  go_wp2_with fail
                  go_meet
                  exact ⟨m + 1, hk, by simp, insZ_stop HP.out.2 hk (.inr ⟨y, HY.out, HXY.out⟩), HGT.out, by rw [← HW9.out]; exact HB9.out⟩
          case rest =>
            obtain ⟨k, hk, rfl, hle, hge, hbk⟩ := hcut
            have HASC := Lib.hid (insZ_asc HP.out.2 hle hge)
            have HBK := Lib.hid (below_step HB2.out hbk)
            have hRK := HRS.out.keep hbk
            clear hle hge hbk
            obtain ⟨g, o, rfl, hg, hc⟩ := (HR.out.keep HBK.out) i x HX.out
            have c0 := (hc 0 (by decide)).trans (show (zc x)[0]? = some (.int .u16 (pc 0 x.a)) from rfl)
            have c1 := (hc 1 (by decide)).trans (show (zc x)[1]? = some (.int .u16 (pc 1 x.a)) from rfl)
            have c2 := (hc 2 (by decide)).trans (show (zc x)[2]? = some (.int .u16 (pc 2 x.a)) from rfl)
            have c3 := (hc 3 (by decide)).trans (show (zc x)[3]? = some (.int .u16 (pc 3 x.a)) from rfl)
            have c4 := (hc 4 (by decide)).trans (show (zc x)[4]? = some (.int .u16 (pc 4 x.a)) from rfl)
            have c5 := (hc 5 (by decide)).trans (show (zc x)[5]? = some (.int .u16 (pc 5 x.a)) from rfl)
            have c6 := (hc 6 (by decide)).trans (show (zc x)[6]? = some (.int .u16 (pc 6 x.a)) from rfl)
            have c7 := (hc 7 (by decide)).trans (show (zc x)[7]? = some (.int .u16 (pc 7 x.a)) from rfl)
            have c8 := (hc 8 (by decide)).trans (show (zc x)[8]? = some (.int .i64 x.n) from rfl)
            simp only [Nat.add_zero, ← Nat.add_assoc] at c0 c1 c2 c3 c4 c5 c6 c7 c8
            clear hc
            have HS9 := Lib.hid (fun (w' : World) (hb : Below wc.heap.size wc w') => (show w'.cell? ⟨g, o + i * 9, none⟩ = some (.int .u16 (pc 0 x.a)) ∧ w'.cell? ⟨g, o + i * 9 + 1, none⟩ = some (.int .u16 (pc 1 x.a)) ∧ w'.cell? ⟨g, o + i * 9 + 2, none⟩ = some (.int .u16 (pc 2 x.a)) ∧ w'.cell? ⟨g, o + i * 9 + 3, none⟩ = some (.int .u16 (pc 3 x.a)) ∧ w'.cell? ⟨g, o + i * 9 + 4, none⟩ = some (.int .u16 (pc 4 x.a)) ∧ w'.cell? ⟨g, o + i * 9 + 5, none⟩ = some (.int .u16 (pc 5 x.a)) ∧ w'.cell? ⟨g, o + i * 9 + 6, none⟩ = some (.int .u16 (pc 6 x.a)) ∧ w'.cell? ⟨g, o + i * 9 + 7, none⟩ = some (.int .u16 (pc 7 x.a)) ∧ w'.cell? ⟨g, o + i * 9 + 8, none⟩ = some (.int .i64 x.n) from ⟨(hb.cell (p := ⟨g, o + i * 9, none⟩) hg).trans c0, (hb.cell (p := ⟨g, o + i * 9 + 1, none⟩) hg).trans c1, (hb.cell (p := ⟨g, o + i * 9 + 2, none⟩) hg).trans c2, (hb.cell (p := ⟨g, o + i * 9 + 3, none⟩) hg).trans c3, (hb.cell (p := ⟨g, o + i * 9 + 4, none⟩) hg).trans c4, (hb.cell (p := ⟨g, o + i * 9 + 5, none⟩) hg).trans c5, (hb.cell (p := ⟨g, o + i * 9 + 6, none⟩) hg).trans c6, (hb.cell (p := ⟨g, o + i * 9 + 7, none⟩) hg).trans c7, (hb.cell (p := ⟨g, o + i * 9 + 8, none⟩) hg).trans c8⟩))
            obtain ⟨i0, hi0, hz0, hz1, hz2⟩ := rpre_info9
            have q1 := cut_to (P := Tryd.prog) 33 61 .i64 Tryd.underlying33 hi0 As S.length cs (k : Int) (by omega) (by omega) hcs
            have q2 := cut_from (P := Tryd.prog) 33 61 .i64 Tryd.underlying33 hi0 9 hz1 As S.length cs (k : Int) (by omega) (by omega)
            rw [Int.toNat_natCast] at q1 q2
            have HT := Lib.hid (hRK.take k)
            have hD := hRK.drop hcs k
            have hAd0 := none_cut (k := k) (s := 9) HAN.out
            obtain ⟨Ad, hAd⟩ : ∃ A', A' = (if cs = k then As else As.map (·.add (k * 9))) := ⟨_, rfl⟩
            rw [← hAd] at q2 hD hAd0
            have HD := Lib.hid hD
            have HAD := Lib.hid hAd0
            have HI := Lib.hid hi0
            have HZ0 := Lib.hid hz0
            have HZ1 := Lib.hid hz1
            have HZ2 := Lib.hid hz2
            have hSb : S.length ≤ 1048576 := by have := HSL.out; omega
            clear hi0 hz0 hz1 hz2 hD hAd0 hAd hRK
            go_upto_region 13 with fail
            go_region_held3 (fun w' => w'.cell? ⟨g, o + i * 9, none⟩ = some (.int .u16 (pc 0 x.a)) ∧ w'.cell? ⟨g, o + i * 9 + 1, none⟩ = some (.int .u16 (pc 1 x.a)) ∧ w'.cell? ⟨g, o + i * 9 + 2, none⟩ = some (.int .u16 (pc 2 x.a)) ∧ w'.cell? ⟨g, o + i * 9 + 3, none⟩ = some (.int .u16 (pc 3 x.a)) ∧ w'.cell? ⟨g, o + i * 9 + 4, none⟩ = some (.int .u16 (pc 4 x.a)) ∧ w'.cell? ⟨g, o + i * 9 + 5, none⟩ = some (.int .u16 (pc 5 x.a)) ∧ w'.cell? ⟨g, o + i * 9 + 6, none⟩ = some (.int .u16 (pc 6 x.a)) ∧ w'.cell? ⟨g, o + i * 9 + 7, none⟩ = some (.int .u16 (pc 7 x.a)) ∧ w'.cell? ⟨g, o + i * 9 + 8, none⟩ = some (.int .i64 x.n))
              (first | exact HS9.out _ (bdn (Below.refl _ _) 1) | assumption | go_keep)
              (first
              | (refine step_app_rdz (by rfl) (.tmp 57) (.tmp 60) 33 (by rfl) wc.heap.size 61 i0 (.agg #[.int .u16 0, .int .u16 0, .int .u16 0, .int .u16 0, .int .u16 0, .int .u16 0, .int .u16 0, .int .u16 0, .int .i64 0]) 24 Tryd.underlying33 HI.out HZ0.out HZ1.out HZ2.out rfl _ 0 (zcs []) (by rfl) (own_none (wc.drewN 1) _) As k cs (S.take k) (by rfl) (by rw [List.length_take]; omega) (HT.out.keep ((bdn (Below.refl wc.heap.size wc) 1).alloc (Nat.le_refl _) _)) HAN.out (by unfold maxLen; omega) (by omega) (((bdn (Below.refl wc.heap.size wc) 1).alloc (Nat.le_refl _) _ : Below wc.heap.size wc _).size) ?_
                 intro v4 w4 hown4 hbel4 hgrow4
                 have hB4 : Below wc.heap.size wc w4 := hbel4 _ _ (Nat.le_refl _) ((bdn (Below.refl wc.heap.size wc) 1).alloc (Nat.le_refl _) _)
                 have HB4 := Lib.hid hB4
                 have HS4 := HS9.out w4 hB4
                 have hl4 : wc.heap.size ≤ w4.heap.size := hB4.size
                 skip)
              | (refine step_app_rdz (by rfl) (.tmp 57) (.tmp 60) 33 (by rfl) wc.heap.size 61 i0 (.agg #[.int .u16 0, .int .u16 0, .int .u16 0, .int .u16 0, .int .u16 0, .int .u16 0, .int .u16 0, .int .u16 0, .int .i64 0]) 24 Tryd.underlying33 HI.out HZ0.out HZ1.out HZ2.out rfl _ 0 (zcs []) (by rfl) (own_belowS (own_none (wc.drewN 1) _) ((Below.refl _ _).alloc (Nat.le_refl _) _)) As k cs (S.take k) (by rfl) (by rw [List.length_take]; omega) (HT.out.keep (((bdn (Below.refl wc.heap.size wc) 1).alloc (Nat.le_refl _) _).alloc (by simp) _)) HAN.out (by unfold maxLen; omega) (by omega) ((((bdn (Below.refl wc.heap.size wc) 1).alloc (Nat.le_refl _) _).alloc (by simp) _ : Below wc.heap.size wc _).size) ?_
                 intro v4 w4 hown4 hbel4 hgrow4
                 have hB4 : Below wc.heap.size wc w4 := hbel4 _ _ (Nat.le_refl _) (((bdn (Below.refl wc.heap.size wc) 1).alloc (Nat.le_refl _) _).alloc (by simp) _)
                 have HB4 := Lib.hid hB4
                 have HS4 := HS9.out w4 hB4
                 have hl4 : wc.heap.size ≤ w4.heap.size := hB4.size
                 have hA4 : w4.ownsRow wc.heap.size 61 9 (.slice (some ⟨wc.heap.size + 1, 0, none⟩) 1 1) 1 (zc x) := one_newer x _ _ hgrow4)
              | (refine step_app_rdz (by rfl) (.tmp 57) (.tmp 60) 33 (by rfl) wc.heap.size 61 i0 (.agg #[.int .u16 0, .int .u16 0, .int .u16 0, .int .u16 0, .int .u16 0, .int .u16 0, .int .u16 0, .int .u16 0, .int .i64 0]) 24 Tryd.underlying33 HI.out HZ0.out HZ1.out HZ2.out rfl _ 0 (zcs []) (by rfl) (none_newer _ _) As k cs (S.take k) (by rfl) (by rw [List.length_take]; omega) (HT.out.keep (((bdn (Below.refl wc.heap.size wc) 1).alloc (Nat.le_refl _) _).alloc (by simp) _)) HAN.out (by unfold maxLen; omega) (by omega) ((((bdn (Below.refl wc.heap.size wc) 1).alloc (Nat.le_refl _) _).alloc (by simp) _ : Below wc.heap.size wc _).size) ?_
                 intro v4 w4 hown4 hbel4 hgrow4
                 have hB4 : Below wc.heap.size wc w4 := hbel4 _ _ (Nat.le_refl _) (((bdn (Below.refl wc.heap.size wc) 1).alloc (Nat.le_refl _) _).alloc (by simp) _)
                 have HB4 := Lib.hid hB4
                 have HS4 := HS9.out w4 hB4
                 have hl4 : wc.heap.size ≤ w4.heap.size := hB4.size
                 have hA4 : w4.ownsRow wc.heap.size 61 9 (.slice (some ⟨wc.heap.size, 0, none⟩) 1 1) 1 (zc x) := one_elder x _ _ hgrow4)
              | (refine step_app_row (by rfl) (.tmp 61) (.tmp 66) 33 (by rfl) wc.heap.size 61 i0 (.agg #[.int .u16 0, .int .u16 0, .int .u16 0, .int .u16 0, .int .u16 0, .int .u16 0, .int .u16 0, .int .u16 0, .int .i64 0]) 9 24 Tryd.underlying33 HI.out HZ0.out HZ1.out HZ2.out rfl (by decide) _ (0 + k) (zcs [] ++ zcs (S.take k)) (by rfl) (by first | exact hown4 | exact own_belowS hown4 ((Below.refl _ _).alloc (Nat.le_refl _) _)) _ wc.heap.size 1 (zc x) (by rfl) (by first | exact hA4 | exact own_one w4 x _ HB4.out.size) (zc_one x) (by unfold maxLen; omega) (by omega) (by first | exact HB4.out.size | exact (HB4.out.alloc HB4.out.size _).size) ?_
                 intro v7 w7 hown7 hbel7 hgrow7
                 have hB7 : Below wc.heap.size wc w7 := hbel7 _ _ (Nat.le_refl _) (by first | exact HB4.out | exact HB4.out.alloc HB4.out.size _)
                 have HB7 := Lib.hid hB7
                 have HS7 := HS9.out w7 hB7)
              | (refine step_app_rdz (by rfl) (.tmp 67) (.tmp 70) 33 (by rfl) wc.heap.size 61 i0 (.agg #[.int .u16 0, .int .u16 0, .int .u16 0, .int .u16 0, .int .u16 0, .int .u16 0, .int .u16 0, .int .u16 0, .int .i64 0]) 24 Tryd.underlying33 HI.out HZ0.out HZ1.out HZ2.out rfl _ (0 + k + 1) (zcs [] ++ zcs (S.take k) ++ zc x) (by rfl) hown7 Ad (S.length - k) (cs - k) (S.drop k) (by rfl) (by rw [List.length_drop]) (HD.out.keep HB7.out) HAD.out (by unfold maxLen; omega) (by omega) HB7.out.size ?_
                 intro v8 w8 hown8 hbel8 hgrow8
                 have hB8 : Below wc.heap.size wc w8 := hbel8 _ _ (Nat.le_refl _) HB7.out
                 have HB8 := Lib.hid hB8
                 have HS8 := HS9.out w8 hB8))
            all_goals go_wp2_with fail
            all_goals have hins : zcs [] ++ zcs (S.take k) ++ zc x ++ zcs (S.drop k) = zcs (insZ x S k) := by simp [zcs, insZ]
            all_goals rw [hins] at hown8
            all_goals have hlen : 0 + k + 1 + (S.length - k) = (insZ x S k).length := by rw [insZ_len]; omega
            all_goals rw [hlen] at hown8
            all_goals exact ⟨⟨i + 1, insZ x S k, by omega, by simp, World.ownsRow.mono hown8 HBK.out.size, ins_perm HP.out.1 HX.out, HASC.out, below_step HBK.out HB8.out⟩, by simp [intOf]; omega⟩
        · obtain ⟨As, cs, hv, hcs, hRS, hAn⟩ := rdz_own2 HO.out rfl
          subst hv
          have hperm : S.Perm l := by
            have := HP.out.1
            rwa [List.take_of_length_le (by omega)] at this
          have HD := Lib.hid (And.intro hperm HP.out.2)
          have hSl' : S.length ≤ 1048576 := by omega
          have HRS := Lib.hid hRS
          have hokS : ∀ x ∈ S, isZ x = true ∧ Wide x.a := fun x hx => HOK.out x (hperm.subset hx)
          have HOKS := Lib.hid hokS
          have HSL := Lib.hid hSl
          clear hRS hperm hSl hAn HO HP HOK hokS
          obtain ⟨i0, hi0, hz0, hz1, hz2⟩ := rpre_info9
          have HI := Lib.hid hi0
          have HZ0 := Lib.hid hz0
          have HZ1 := Lib.hid hz1
          have HZ2 := Lib.hid hz2
          clear hi0 hz0 hz1 hz2
          go_wp2_with fail
          obtain ⟨w3, hw3⟩ : ∃ W, W = wr := ⟨_, rfl⟩
          rw [← hw3] at HB2 HRS ⊢
          clear hw3
          go_loopw [9, 10] (fun s v W => KZ w3 S s v W) (fun _ v _ => S.length - (intOf v).toNat)
          case atStart => exact ⟨0, [], rfl, Nat.zero_le _, own_none _ _, (Below.refl _ _).alloc (Nat.le_refl _) _, rfl, by simp [coverJ]⟩
          case round =>
            obtain ⟨i, acc, rfl, hi, hown, hB, hsw, hlen⟩ := hrel
            have HO := Lib.hid hown
            have HBW := Lib.hid hB
            have HSW := Lib.hid hsw
            clear hown hB hsw
            by_cases hlt : i < S.length
            · obtain ⟨x, hx⟩ : ∃ x, S[i]? = some x := ⟨S[i], List.getElem?_eq_getElem hlt⟩
              obtain ⟨g, o, rfl, hg, hc⟩ := (HRS.out.keep HBW.out) i x hx
              have c0 := (hc 0 (by decide)).trans (show (zc x)[0]? = some (.int .u16 (pc 0 x.a)) from rfl)
              have c1 := (hc 1 (by decide)).trans (show (zc x)[1]? = some (.int .u16 (pc 1 x.a)) from rfl)
              have c2 := (hc 2 (by decide)).trans (show (zc x)[2]? = some (.int .u16 (pc 2 x.a)) from rfl)
              have c3 := (hc 3 (by decide)).trans (show (zc x)[3]? = some (.int .u16 (pc 3 x.a)) from rfl)
              have c4 := (hc 4 (by decide)).trans (show (zc x)[4]? = some (.int .u16 (pc 4 x.a)) from rfl)
              have c5 := (hc 5 (by decide)).trans (show (zc x)[5]? = some (.int .u16 (pc 5 x.a)) from rfl)
              have c6 := (hc 6 (by decide)).trans (show (zc x)[6]? = some (.int .u16 (pc 6 x.a)) from rfl)
              have c7 := (hc 7 (by decide)).trans (show (zc x)[7]? = some (.int .u16 (pc 7 x.a)) from rfl)
              have c8 := (hc 8 (by decide)).trans (show (zc x)[8]? = some (.int .i64 x.n) from rfl)
              simp only [Nat.add_zero, ← Nat.add_assoc] at c0 c1 c2 c3 c4 c5 c6 c7 c8
              clear hc
              have HX := Lib.hid (And.intro hx (HOKS.out x (List.mem_of_getElem? hx)))
              clear hx
              have HS9 := Lib.hid (fun (w' : World) (hb : Below wr.heap.size wr w') => (show w'.cell? ⟨g, o + i * 9, none⟩ = some (.int .u16 (pc 0 x.a)) ∧ w'.cell? ⟨g, o + i * 9 + 1, none⟩ = some (.int .u16 (pc 1 x.a)) ∧ w'.cell? ⟨g, o + i * 9 + 2, none⟩ = some (.int .u16 (pc 2 x.a)) ∧ w'.cell? ⟨g, o + i * 9 + 3, none⟩ = some (.int .u16 (pc 3 x.a)) ∧ w'.cell? ⟨g, o + i * 9 + 4, none⟩ = some (.int .u16 (pc 4 x.a)) ∧ w'.cell? ⟨g, o + i * 9 + 5, none⟩ = some (.int .u16 (pc 5 x.a)) ∧ w'.cell? ⟨g, o + i * 9 + 6, none⟩ = some (.int .u16 (pc 6 x.a)) ∧ w'.cell? ⟨g, o + i * 9 + 7, none⟩ = some (.int .u16 (pc 7 x.a)) ∧ w'.cell? ⟨g, o + i * 9 + 8, none⟩ = some (.int .i64 x.n) from ⟨(hb.cell (p := ⟨g, o + i * 9, none⟩) hg).trans c0, (hb.cell (p := ⟨g, o + i * 9 + 1, none⟩) hg).trans c1, (hb.cell (p := ⟨g, o + i * 9 + 2, none⟩) hg).trans c2, (hb.cell (p := ⟨g, o + i * 9 + 3, none⟩) hg).trans c3, (hb.cell (p := ⟨g, o + i * 9 + 4, none⟩) hg).trans c4, (hb.cell (p := ⟨g, o + i * 9 + 5, none⟩) hg).trans c5, (hb.cell (p := ⟨g, o + i * 9 + 6, none⟩) hg).trans c6, (hb.cell (p := ⟨g, o + i * 9 + 7, none⟩) hg).trans c7, (hb.cell (p := ⟨g, o + i * 9 + 8, none⟩) hg).trans c8⟩))
              have HLA := Lib.hid (rlast_z HX.out.2.1 HX.out.2.2)
              obtain ⟨t0, et0⟩ : ∃ t, t = (rngZ x).2 := ⟨_, rfl⟩
              rw [← et0] at HLA
              have ET0 := Lib.hid et0
              clear et0
              go_upto_region 17 with fail
              go_cut [11, 12] (fun s u W => RB17 wr x.a t0 s u W)
              case first =>
                go_region_held3 (fun w' => w'.cell? ⟨g, o + i * 9, none⟩ = some (.int .u16 (pc 0 x.a)) ∧ w'.cell? ⟨g, o + i * 9 + 1, none⟩ = some (.int .u16 (pc 1 x.a)) ∧ w'.cell? ⟨g, o + i * 9 + 2, none⟩ = some (.int .u16 (pc 2 x.a)) ∧ w'.cell? ⟨g, o + i * 9 + 3, none⟩ = some (.int .u16 (pc 3 x.a)) ∧ w'.cell? ⟨g, o + i * 9 + 4, none⟩ = some (.int .u16 (pc 4 x.a)) ∧ w'.cell? ⟨g, o + i * 9 + 5, none⟩ = some (.int .u16 (pc 5 x.a)) ∧ w'.cell? ⟨g, o + i * 9 + 6, none⟩ = some (.int .u16 (pc 6 x.a)) ∧ w'.cell? ⟨g, o + i * 9 + 7, none⟩ = some (.int .u16 (pc 7 x.a)) ∧ w'.cell? ⟨g, o + i * 9 + 8, none⟩ = some (.int .i64 x.n))
                  (first | exact HS9.out _ (by assumption) | exact HS9.out _ (by first | exact bdn (Below.refl _ _) 1 | exact bdn ((Below.refl _ _).alloc (Nat.le_refl _) _) 1 | exact bdn (((Below.refl _ _).alloc (Nat.le_refl _) _).alloc (by simp) _) 1 | exact (HB1.alloc HB1.size _) | exact (HB1.alloc HB1.size _).alloc (HB1.alloc HB1.size _).size _) | go_keep)
                  (first
                  | (go_at_call 40
                     refine (HLA.out _).mono ?_
                     rintro e w1 ⟨rfl, hb1⟩
                     have HB1 : Below wr.heap.size wr w1 := (by first | exact hb1 | exact below_step (bdn (Below.refl _ _) 1) hb1 | exact below_step (bdn ((Below.refl _ _).alloc (Nat.le_refl _) _) 1) hb1 | exact below_step (bdn (((Below.refl _ _).alloc (Nat.le_refl _) _).alloc (by simp) _) 1) hb1)
                     have hlw : wr.heap.size ≤ w1.heap.size := HB1.size
                     have hz0 : w1.heap[wr.heap.size]? = some (.cells #[.int .u16 0, .int .u16 0, .int .u16 0, .int .u16 0, .int .u16 0, .int .u16 0, .int .u16 0, .int .u16 0] 30 (0, 0)) := blk_below (blk_drew (blk_alloc (blk_new _ _) _)) hb1
                     have hz1 : w1.heap[wr.heap.size + 1]? = some (.cells #[.int .u16 0, .int .u16 0, .int .u16 0, .int .u16 0, .int .u16 0, .int .u16 0, .int .u16 0, .int .u16 0] 30 (0, 0)) := blk_below (blk_drew (blk_new2 _ _ _)) hb1
                     obtain ⟨wD1, hD1, xD1, bD1, oD1, _⟩ := store_to hz0 rfl x.a
                     obtain ⟨wD2, hD2, xD2, bD2, oD2, _⟩ := store_to ((oD1 (wr.heap.size + 1) (by omega)).trans hz1) rfl t0
                     obtain ⟨wE1, hE1, xE1, bE1, oE1, _⟩ := store_to hz1 rfl x.a
                     obtain ⟨wE2, hE2, xE2, bE2, oE2, _⟩ := store_to ((oE1 wr.heap.size (by omega)).trans hz0) rfl t0
                     have hBD1 : Below wr.heap.size wr wD1 := bD1 _ _ (Nat.le_refl _) HB1
                     have hBD2 : Below wr.heap.size wr wD2 := bD2 _ _ (by omega) hBD1
                     have hBE1 : Below wr.heap.size wr wE1 := bE1 _ _ (by omega) HB1
                     have hBE2 : Below wr.heap.size wr wE2 := bE2 _ _ (Nat.le_refl _) hBE1
                     have QD : RB17 wr x.a t0 (.pointer (some ⟨wr.heap.size, 0, none⟩)) (.pointer (some ⟨wr.heap.size + 1, 0, none⟩)) wD2 := ⟨_, _, rfl, rfl, (oD2 _ (by omega)).trans xD1, xD2, by omega, Nat.le_refl _, by omega, hBD2⟩
                     have QE : RB17 wr x.a t0 (.pointer (some ⟨wr.heap.size + 1, 0, none⟩)) (.pointer (some ⟨wr.heap.size, 0, none⟩)) wE2 := ⟨_, _, rfl, rfl, (oE2 _ (by omega)).trans xE1, xE2, by omega, by omega, Nat.le_refl _, hBE2⟩
                     have QH := Lib.hid (And.intro QD QE)
                     clear QD QE xD1 bD1 oD1 xD2 bD2 oD2 xE1 bE1 oE1 xE2 bE2 oE2 hz0 hz1)
                  | (go_at_call 40
                     refine (HLA.out _).mono ?_
                     rintro e w1 ⟨rfl, hb1⟩
                     have HB1 : Below wr.heap.size wr w1 := (by first | exact hb1 | exact below_step (bdn (Below.refl _ _) 1) hb1 | exact below_step (bdn ((Below.refl _ _).alloc (Nat.le_refl _) _) 1) hb1 | exact below_step (bdn (((Below.refl _ _).alloc (Nat.le_refl _) _).alloc (by simp) _) 1) hb1)
                     have hlw : wr.heap.size ≤ w1.heap.size := HB1.size
                     have hz0 : w1.heap[wr.heap.size]? = some (.cells #[.int .u16 0, .int .u16 0, .int .u16 0, .int .u16 0, .int .u16 0, .int .u16 0, .int .u16 0, .int .u16 0] 30 (0, 0)) := blk_below (blk_drew (blk_new _ _)) hb1
                     have hlz : wr.heap.size < w1.heap.size := blk_lt hz0
                     obtain ⟨wD1, hD1, xD1, bD1, oD1, _⟩ := store_to (blk_alloc hz0 (.cells #[.int .u16 0, .int .u16 0, .int .u16 0, .int .u16 0, .int .u16 0, .int .u16 0, .int .u16 0, .int .u16 0] 30)) rfl x.a
                     obtain ⟨wD2, hD2, xD2, bD2, oD2, _⟩ := store_to ((oD1 w1.heap.size (by omega)).trans (heap_alloc_new w1 (.cells #[.int .u16 0, .int .u16 0, .int .u16 0, .int .u16 0, .int .u16 0, .int .u16 0, .int .u16 0, .int .u16 0] 30))) rfl t0
                     obtain ⟨wE2, hE2, xE2, bE2, oE2, _⟩ := store_to (blk_alloc hz0 (.cells #[.int .u16 (pc 0 x.a), .int .u16 (pc 1 x.a), .int .u16 (pc 2 x.a), .int .u16 (pc 3 x.a), .int .u16 (pc 4 x.a), .int .u16 (pc 5 x.a), .int .u16 (pc 6 x.a), .int .u16 (pc 7 x.a)] 30)) rfl t0
                     have hBA : Below wr.heap.size wr (w1.alloc (.cells #[.int .u16 0, .int .u16 0, .int .u16 0, .int .u16 0, .int .u16 0, .int .u16 0, .int .u16 0, .int .u16 0] 30)) := HB1.alloc HB1.size _
                     have hBF : Below wr.heap.size wr (w1.alloc (.cells #[.int .u16 (pc 0 x.a), .int .u16 (pc 1 x.a), .int .u16 (pc 2 x.a), .int .u16 (pc 3 x.a), .int .u16 (pc 4 x.a), .int .u16 (pc 5 x.a), .int .u16 (pc 6 x.a), .int .u16 (pc 7 x.a)] 30)) := HB1.alloc HB1.size _
                     have hBD1 : Below wr.heap.size wr wD1 := bD1 _ _ (Nat.le_refl _) hBA
                     have hBD2 : Below wr.heap.size wr wD2 := bD2 _ _ (by omega) hBD1
                     have hBE2 : Below wr.heap.size wr wE2 := bE2 _ _ (Nat.le_refl _) hBF
                     have QD : RB17 wr x.a t0 (.pointer (some ⟨wr.heap.size, 0, none⟩)) (.pointer (some ⟨w1.heap.size, 0, none⟩)) wD2 := ⟨_, _, rfl, rfl, (oD2 _ (by omega)).trans xD1, xD2, by omega, Nat.le_refl _, by omega, hBD2⟩
                     have QE : RB17 wr x.a t0 (.pointer (some ⟨w1.heap.size, 0, none⟩)) (.pointer (some ⟨wr.heap.size, 0, none⟩)) wE2 := ⟨_, _, rfl, rfl, (oE2 _ (by omega)).trans (bx_new w1 x.a), xE2, by omega, by omega, Nat.le_refl _, hBE2⟩
                     have QH := Lib.hid (And.intro QD QE)
                     clear QD QE xD1 bD1 oD1 xD2 bD2 oD2 xE2 bE2 oE2 hz0)
                  | (go_at_call 40
                     refine (HLA.out _).mono ?_
                     rintro e w1 ⟨rfl, hb1⟩
                     have HB1 : Below wr.heap.size wr w1 := (by first | exact hb1 | exact below_step (bdn (Below.refl _ _) 1) hb1 | exact below_step (bdn ((Below.refl _ _).alloc (Nat.le_refl _) _) 1) hb1 | exact below_step (bdn (((Below.refl _ _).alloc (Nat.le_refl _) _).alloc (by simp) _) 1) hb1)
                     have hlw : wr.heap.size ≤ w1.heap.size := HB1.size
                     have hBA : Below wr.heap.size wr (w1.alloc (.cells #[.int .u16 0, .int .u16 0, .int .u16 0, .int .u16 0, .int .u16 0, .int .u16 0, .int .u16 0, .int .u16 0] 30)) := HB1.alloc HB1.size _))
                all_goals go_wp2_with fail
                all_goals go_meet
                all_goals first
                  | exact QH.out.1
                  | exact QH.out.2
                  | exact rb17_ab HB1 x.a t0
                  | exact rb17_ba HB1 x.a t0
              case rest =>
                obtain ⟨bf, bt, rfl, rfl, hxf, hxt, hne, hlo, hlo2, hbc⟩ := hcut
                have hfst := wide_z HX.out.2.1 HX.out.2.2
                rw [← ET0.out] at hfst
                have hl3 : w3.heap.size ≤ wr.heap.size := HBW.out.size
                have hstart : IR w3 S acc x.a bf bt u9 (i + 1) t0 wc := by
                  refine ⟨hfst.1, hfst.2, hxf, hxt, hne, fun k hk => ?_, own_below HO.out hbc, Nat.le_trans hl3 hlo, Nat.le_trans hl3 hlo2, below_step HBW.out hbc, ?_⟩
                  · have := (HO.out.lt k hk).2
                    omega
                  · obtain ⟨h1, e⟩ := List.getElem?_eq_some_iff.1 HX.out.1
                    rw [HSW.out, List.drop_eq_getElem_cons h1, List.map_cons, e]
                    show acc ++ sweep (rngZ x).1 (rngZ x).2 _ = _
                    rw [← ET0.out, show (rngZ x).1 = x.a from (rngZ_ok HX.out.2.1 HX.out.2.2).2.2.1]
                have HST := Lib.hid hstart
                clear hstart hfst hxf hxt hne hlo hlo2 hbc HO HS9 c0 c1 c2 c3 c4 c5 c6 c7 c8 hg hl3 HLA
                go_upto_region 18 with fail
                go_wp2_with fail
                go_loopw [10] (fun s W => ∃ j t, i < j ∧ j ≤ S.length ∧ s = .int .i64 j ∧ IR w3 S acc x.a bf bt u9 j t W) (fun s _ => S.length - (intOf s).toNat)
                case atStart => exact ⟨i + 1, t0, by omega, by omega, by simp, HST.out⟩
                case round =>
                  obtain ⟨j, t, hij, hj, rfl, hZ⟩ := hrel
                  have HZ := Lib.hid hZ
                  clear hZ
                  by_cases hjl : j < S.length
                  · obtain ⟨y, hy⟩ : ∃ y, S[j]? = some y := ⟨S[j], List.getElem?_eq_getElem hjl⟩
                    have HY := Lib.hid (And.intro hy (HOKS.out y (List.mem_of_getElem? hy)))
                    clear hy
                    have HIR := HRS.out.keep HZ.out.below
                    obtain ⟨g', o', hgo, hg, hc⟩ := HIR j y HY.out.1
                    obtain ⟨rfl, rfl⟩ : g = g' ∧ o = o' := by simpa using hgo
                    clear hgo HIR
                    have c0 := (hc 0 (by decide)).trans (show (zc y)[0]? = some (.int .u16 (pc 0 y.a)) from rfl)
                    have c1 := (hc 1 (by decide)).trans (show (zc y)[1]? = some (.int .u16 (pc 1 y.a)) from rfl)
                    have c2 := (hc 2 (by decide)).trans (show (zc y)[2]? = some (.int .u16 (pc 2 y.a)) from rfl)
                    have c3 := (hc 3 (by decide)).trans (show (zc y)[3]? = some (.int .u16 (pc 3 y.a)) from rfl)
                    have c4 := (hc 4 (by decide)).trans (show (zc y)[4]? = some (.int .u16 (pc 4 y.a)) from rfl)
                    have c5 := (hc 5 (by decide)).trans (show (zc y)[5]? = some (.int .u16 (pc 5 y.a)) from rfl)
                    have c6 := (hc 6 (by decide)).trans (show (zc y)[6]? = some (.int .u16 (pc 6 y.a)) from rfl)
                    have c7 := (hc 7 (by decide)).trans (show (zc y)[7]? = some (.int .u16 (pc 7 y.a)) from rfl)
                    have c8 := (hc 8 (by decide)).trans (show (zc y)[8]? = some (.int .i64 y.n) from rfl)
                    simp only [Nat.add_zero, ← Nat.add_assoc] at c0 c1 c2 c3 c4 c5 c6 c7 c8
                    clear hc
                    have HCY := Lib.hid (fun (w' : World) (hb : Below wr.heap.size wr w') => (show w'.cell? ⟨g, o + j * 9, none⟩ = some (.int .u16 (pc 0 y.a)) ∧ w'.cell? ⟨g, o + j * 9 + 1, none⟩ = some (.int .u16 (pc 1 y.a)) ∧ w'.cell? ⟨g, o + j * 9 + 2, none⟩ = some (.int .u16 (pc 2 y.a)) ∧ w'.cell? ⟨g, o + j * 9 + 3, none⟩ = some (.int .u16 (pc 3 y.a)) ∧ w'.cell? ⟨g, o + j * 9 + 4, none⟩ = some (.int .u16 (pc 4 y.a)) ∧ w'.cell? ⟨g, o + j * 9 + 5, none⟩ = some (.int .u16 (pc 5 y.a)) ∧ w'.cell? ⟨g, o + j * 9 + 6, none⟩ = some (.int .u16 (pc 6 y.a)) ∧ w'.cell? ⟨g, o + j * 9 + 7, none⟩ = some (.int .u16 (pc 7 y.a)) ∧ w'.cell? ⟨g, o + j * 9 + 8, none⟩ = some (.int .i64 y.n) from ⟨(hb.cell (p := ⟨g, o + j * 9, none⟩) hg).trans c0, (hb.cell (p := ⟨g, o + j * 9 + 1, none⟩) hg).trans c1, (hb.cell (p := ⟨g, o + j * 9 + 2, none⟩) hg).trans c2, (hb.cell (p := ⟨g, o + j * 9 + 3, none⟩) hg).trans c3, (hb.cell (p := ⟨g, o + j * 9 + 4, none⟩) hg).trans c4, (hb.cell (p := ⟨g, o + j * 9 + 5, none⟩) hg).trans c5, (hb.cell (p := ⟨g, o + j * 9 + 6, none⟩) hg).trans c6, (hb.cell (p := ⟨g, o + j * 9 + 7, none⟩) hg).trans c7, (hb.cell (p := ⟨g, o + j * 9 + 8, none⟩) hg).trans c8⟩))
                    have q0 := (blk_cell HZ.out.kt 0).trans (show _ = some (Value.int .u16 (pc 0 t)) from rfl)
                    have q1 := (blk_cell HZ.out.kt 1).trans (show _ = some (Value.int .u16 (pc 1 t)) from rfl)
                    have q2 := (blk_cell HZ.out.kt 2).trans (show _ = some (Value.int .u16 (pc 2 t)) from rfl)
                    have q3 := (blk_cell HZ.out.kt 3).trans (show _ = some (Value.int .u16 (pc 3 t)) from rfl)
                    have q4 := (blk_cell HZ.out.kt 4).trans (show _ = some (Value.int .u16 (pc 4 t)) from rfl)
                    have q5 := (blk_cell HZ.out.kt 5).trans (show _ = some (Value.int .u16 (pc 5 t)) from rfl)
                    have q6 := (blk_cell HZ.out.kt 6).trans (show _ = some (Value.int .u16 (pc 6 t)) from rfl)
                    have q7 := (blk_cell HZ.out.kt 7).trans (show _ = some (Value.int .u16 (pc 7 t)) from rfl)
                    have hlt2 := HZ.out.kt.lt
                    have hrw : (rngZ y).1 = y.a := (rngZ_ok HY.out.2.1 HY.out.2.2).2.2.1
                    have HRW := Lib.hid hrw
                    clear hrw
                    have HLY := Lib.hid (rlast_z HY.out.2.1 HY.out.2.2)
                    have hwy := wide_z HY.out.2.1 HY.out.2.2
                    obtain ⟨ty, ety⟩ : ∃ t, t = (rngZ y).2 := ⟨_, rfl⟩
                    rw [← ety] at HLY hwy
                    have ETY := Lib.hid ety
                    have HWY := Lib.hid hwy
                    clear ety hwy
                    by_cases hmx : t < 340282366920938463463374607431768211455
                    · have HNX := Lib.hid (refNext_at HZ.out.wide hmx)
                      have hw1 : Wide (t + 1) := ⟨by have := HZ.out.wide.1; omega, by omega⟩
                      have HCM := Lib.hid (refCompare_at HY.out.2.2 hw1)
                      clear hw1 c0 c1 c2 c3 c4 c5 c6 c7 c8
                      go_wp2_with fail
                      refine (HNX.out _).mono ?_
                      rintro e V1 ⟨rfl, hv1⟩
                      have hBA : Below wr.heap.size wr (V1.alloc (.cells #[.int .u16 (pc 0 (t + 1)), .int .u16 (pc 1 (t + 1)), .int .u16 (pc 2 (t + 1)), .int .u16 (pc 3 (t + 1)), .int .u16 (pc 4 (t + 1)), .int .u16 (pc 5 (t + 1)), .int .u16 (pc 6 (t + 1)), .int .u16 (pc 7 (t + 1))] 30)) := hv1.alloc hv1.size _
                      have Z1 := Lib.hid (HZ.out.keep hBA)
                      have hCY := HCY.out _ hBA
                      have hgA := Nat.lt_of_lt_of_le hg hBA.size
                      have hn0 := blk_new V1 (.cells #[.int .u16 (pc 0 (t + 1)), .int .u16 (pc 1 (t + 1)), .int .u16 (pc 2 (t + 1)), .int .u16 (pc 3 (t + 1)), .int .u16 (pc 4 (t + 1)), .int .u16 (pc 5 (t + 1)), .int .u16 (pc 6 (t + 1)), .int .u16 (pc 7 (t + 1))] 30)
                      go_upto_region 21 with fail
                      generalize V1.heap.size = b1 at *
                      generalize V1.alloc (.cells #[.int .u16 (pc 0 (t + 1)), .int .u16 (pc 1 (t + 1)), .int .u16 (pc 2 (t + 1)), .int .u16 (pc 3 (t + 1)), .int .u16 (pc 4 (t + 1)), .int .u16 (pc 5 (t + 1)), .int .u16 (pc 6 (t + 1)), .int .u16 (pc 7 (t + 1))] 30) = V2 at *
                      have n0 := (blk_cell hn0 0).trans (show _ = some (Value.int .u16 (pc 0 (t + 1))) from rfl)
                      have n1 := (blk_cell hn0 1).trans (show _ = some (Value.int .u16 (pc 1 (t + 1))) from rfl)
                      have n2 := (blk_cell hn0 2).trans (show _ = some (Value.int .u16 (pc 2 (t + 1))) from rfl)
                      have n3 := (blk_cell hn0 3).trans (show _ = some (Value.int .u16 (pc 3 (t + 1))) from rfl)
                      have n4 := (blk_cell hn0 4).trans (show _ = some (Value.int .u16 (pc 4 (t + 1))) from rfl)
                      have n5 := (blk_cell hn0 5).trans (show _ = some (Value.int .u16 (pc 5 (t + 1))) from rfl)
                      have n6 := (blk_cell hn0 6).trans (show _ = some (Value.int .u16 (pc 6 (t + 1))) from rfl)
                      have n7 := (blk_cell hn0 7).trans (show _ = some (Value.int .u16 (pc 7 (t + 1))) from rfl)
                      have hnl := blk_lt hn0
                      obtain ⟨c0, c1, c2, c3, c4, c5, c6, c7, c8⟩ := hCY
                      clear hn0 hv1 q0 q1 q2 q3 q4 q5 q6 q7 hlt2
                      by_cases hbr : t + 1 < y.a
                      · rw [cmpI_gt hbr] at HCM
                        refine wp_region_ext (by kernel_rfl) (by kernel_rfl) ?_
                        repeat (go_big_quiet_step (with_reducible exact ext_of (HCM.out _)))
                        refine wpQuiet_nil ?_
                        rintro V3 ⟨⟨_, hb3⟩, rfl⟩
                        have Z3 := Lib.hid (Z1.out.keep hb3)
                        clear hb3 Z1 hBA n0 n1 n2 n3 n4 n5 n6 n7 hnl c0 c1 c2 c3 c4 c5 c6 c7 c8 hgA hg
                        have p0 := (blk_cell Z3.out.kf 0).trans (show _ = some (Value.int .u16 (pc 0 x.a)) from rfl)
                        have p1 := (blk_cell Z3.out.kf 1).trans (show _ = some (Value.int .u16 (pc 1 x.a)) from rfl)
                        have p2 := (blk_cell Z3.out.kf 2).trans (show _ = some (Value.int .u16 (pc 2 x.a)) from rfl)
                        have p3 := (blk_cell Z3.out.kf 3).trans (show _ = some (Value.int .u16 (pc 3 x.a)) from rfl)
                        have p4 := (blk_cell Z3.out.kf 4).trans (show _ = some (Value.int .u16 (pc 4 x.a)) from rfl)
                        have p5 := (blk_cell Z3.out.kf 5).trans (show _ = some (Value.int .u16 (pc 5 x.a)) from rfl)
                        have p6 := (blk_cell Z3.out.kf 6).trans (show _ = some (Value.int .u16 (pc 6 x.a)) from rfl)
                        have p7 := (blk_cell Z3.out.kf 7).trans (show _ = some (Value.int .u16 (pc 7 x.a)) from rfl)
                        have q0 := (blk_cell Z3.out.kt 0).trans (show _ = some (Value.int .u16 (pc 0 t)) from rfl)
                        have q1 := (blk_cell Z3.out.kt 1).trans (show _ = some (Value.int .u16 (pc 1 t)) from rfl)
                        have q2 := (blk_cell Z3.out.kt 2).trans (show _ = some (Value.int .u16 (pc 2 t)) from rfl)
                        have q3 := (blk_cell Z3.out.kt 3).trans (show _ = some (Value.int .u16 (pc 3 t)) from rfl)
                        have q4 := (blk_cell Z3.out.kt 4).trans (show _ = some (Value.int .u16 (pc 4 t)) from rfl)
                        have q5 := (blk_cell Z3.out.kt 5).trans (show _ = some (Value.int .u16 (pc 5 t)) from rfl)
                        have q6 := (blk_cell Z3.out.kt 6).trans (show _ = some (Value.int .u16 (pc 6 t)) from rfl)
                        have q7 := (blk_cell Z3.out.kt 7).trans (show _ = some (Value.int .u16 (pc 7 t)) from rfl)
                        have hlf := Z3.out.kf.lt
                        have hlt2 := Z3.out.kt.lt
                        go_wp2_with fail
                        refine (refCover_walk x.a t HX.out.2.2 Z3.out.wide Z3.out.le _).mono ?_
                        rintro e V ⟨u, rfl, hou, hbv⟩
                        have hfew := coverL_few HX.out.2.2 Z3.out.wide Z3.out.le
                        have hB4 := below_step Z3.out.below hbv
                        clear p0 p1 p2 p3 p4 p5 p6 p7 q0 q1 q2 q3 q4 q5 q6 q7 hlf hlt2
                        go_wp2_with (at_builtin; refine app_row rfl (.tmp 124) (.tmp 127) 33 rfl w3.heap.size 61 i0 (.agg #[.int .u16 0, .int .u16 0, .int .u16 0, .int .u16 0, .int .u16 0, .int .u16 0, .int .u16 0, .int .u16 0, .int .i64 0]) 9 24 Tryd.underlying33 HI.out HZ0.out HZ1.out HZ2.out rfl (by decide) u9 (coverJ acc).length (pcells (coverJ acc)) rfl (own_below Z3.out.own hbv) u V3.heap.size (coverL x.a t).length (pcells (coverL x.a t)) rfl hou (pcells_one _) (by unfold maxLen; omega) (by omega) hB4.size ?_; intro v4 w4 hown4 hbel4)
                        refine ⟨exit_kz hij hj hown4 (hbel4 _ _ (Nat.le_refl _) hB4) Z3.out.sw (fun r hr => ?_) hlen hfew, by simp [intOf]; omega⟩
                        rw [List.getElem?_map, List.getElem?_drop, Nat.add_zero, HY.out.1] at hr
                        obtain rfl := Option.some.inj hr
                        rw [HRW.out]
                        omega
                      · have hr : ¬ 0 < cmpI y.a (t + 1) := by
                          unfold cmpI
                          split
                          · omega
                          · first | omega | (split <;> omega)
                        have HBR := Lib.hid hbr
                        generalize cmpI y.a (t + 1) = r at *
                        refine wp_region_ext (by kernel_rfl) (by kernel_rfl) ?_
                        repeat (go_big_quiet_step (with_reducible exact ext_of (HCM.out _)))
                        refine wpQuiet_nil ?_
                        rintro V3 ⟨⟨_, hb3⟩, rfl⟩
                        have Z3 := Lib.hid (Z1.out.keep hb3)
                        have hB3 := below_step hBA hb3
                        have hle1 : (rngZ y).1 ≤ t + 1 := by
                          rw [HRW.out]
                          have := HBR.out
                          omega
                        clear hb3 Z1 hBA n0 n1 n2 n3 n4 n5 n6 n7 hnl c0 c1 c2 c3 c4 c5 c6 c7 c8 hgA hbr
                        have HLE1 := Lib.hid hle1
                        have hCY := HCY.out _ hB3
                        have hgA := Nat.lt_of_lt_of_le hg hB3.size
                        obtain ⟨c0, c1, c2, c3, c4, c5, c6, c7, c8⟩ := hCY
                        have q0 := (blk_cell Z3.out.kt 0).trans (show _ = some (Value.int .u16 (pc 0 t)) from rfl)
                        have q1 := (blk_cell Z3.out.kt 1).trans (show _ = some (Value.int .u16 (pc 1 t)) from rfl)
                        have q2 := (blk_cell Z3.out.kt 2).trans (show _ = some (Value.int .u16 (pc 2 t)) from rfl)
                        have q3 := (blk_cell Z3.out.kt 3).trans (show _ = some (Value.int .u16 (pc 3 t)) from rfl)
                        have q4 := (blk_cell Z3.out.kt 4).trans (show _ = some (Value.int .u16 (pc 4 t)) from rfl)
                        have q5 := (blk_cell Z3.out.kt 5).trans (show _ = some (Value.int .u16 (pc 5 t)) from rfl)
                        have q6 := (blk_cell Z3.out.kt 6).trans (show _ = some (Value.int .u16 (pc 6 t)) from rfl)
                        have q7 := (blk_cell Z3.out.kt 7).trans (show _ = some (Value.int .u16 (pc 7 t)) from rfl)
                        have hlt2 := Z3.out.kt.lt
                        have HC2 := Lib.hid (refCompare_at HWY.out.1 Z3.out.wide)
                        clear hle1
                        go_upto_region 22 with fail
                        by_cases hty : t < ty
                        · rw [cmpI_gt hty] at HC2
                          refine wp_region_ext (by kernel_rfl) (by kernel_rfl) ?_
                          repeat (go_big_quiet_step (first | (with_reducible exact ext_of (HLY.out _)) | (with_reducible exact ext_of (HC2.out _))))
                          refine wpQuiet_nil ?_
                          rintro V4 ⟨⟨_, hb4⟩, rfl⟩
                          have Z4 := Lib.hid (Z3.out.keep hb4)
                          have hB4 := below_step hB3 hb4
                          have hCY := HCY.out _ hB4
                          have hgB := Nat.lt_of_lt_of_le hg hB4.size
                          clear c0 c1 c2 c3 c4 c5 c6 c7 c8 q0 q1 q2 q3 q4 q5 q6 q7 hlt2 hgA hb4
                          obtain ⟨c0, c1, c2, c3, c4, c5, c6, c7, c8⟩ := hCY
                          go_wp2_with fail
                          refine (HLY.out _).mono ?_
                          rintro e V5 ⟨rfl, hv5⟩
                          have Z5 := Lib.hid (Z4.out.keep hv5)
                          obtain ⟨wB, hst, xB, bB, oB, gB⟩ := store_to Z5.out.kt rfl ty
                          have Z6 := Z5.out.move HY.out.1 HLE1.out (by rw [← ETY.out]; exact HWY.out.1) (by rw [← ETY.out]; exact hty) (by rw [← ETY.out]; exact xB) bB oB gB
                          rw [← ETY.out] at Z6
                          have Z6 := Lib.hid Z6
                          clear c0 c1 c2 c3 c4 c5 c6 c7 c8 hgB hv5 xB bB oB gB
                          go_wp2_with fail
                          exact ⟨⟨j + 1, ty, by omega, by omega, by simp, Z6.out⟩, by simp [intOf]; omega⟩
                        · have hr2 : ¬ 0 < cmpI ty t := by
                            unfold cmpI
                            split
                            · omega
                            · first | omega | (split <;> omega)
                          have HTY := Lib.hid hty
                          generalize cmpI ty t = r2 at *
                          clear hty
                          refine wp_region_ext (by kernel_rfl) (by kernel_rfl) ?_
                          repeat (go_big_quiet_step (first | (with_reducible exact ext_of (HLY.out _)) | (with_reducible exact ext_of (HC2.out _))))
                          refine wpQuiet_nil ?_
                          rintro V4 ⟨⟨_, hb4⟩, rfl⟩
                          have Z4 := Lib.hid ((Z3.out.keep hb4).stay HY.out.1 HLE1.out (by rw [← ETY.out]; have := HTY.out; omega))
                          clear c0 c1 c2 c3 c4 c5 c6 c7 c8 q0 q1 q2 q3 q4 q5 q6 q7 hlt2 hgA hb4
                          go_wp2_with fail
                          exact ⟨⟨j + 1, t, by omega, by omega, by simp, Z4.out⟩, by simp [intOf]; omega⟩
                    · have HNX := Lib.hid (rnext_max HZ.out.wide hmx)
                      clear c0 c1 c2 c3 c4 c5 c6 c7 c8
                      go_wp2_with fail
                      refine (HNX.out _).mono ?_
                      rintro e V1 ⟨⟨y0, y1, y2, y3, y4, y5, y6, y7, rfl⟩, hv1⟩
                      have hBA : Below wr.heap.size wr (V1.alloc (.cells #[.int .u16 y0, .int .u16 y1, .int .u16 y2, .int .u16 y3, .int .u16 y4, .int .u16 y5, .int .u16 y6, .int .u16 y7] 30)) := hv1.alloc hv1.size _
                      have Z1 := Lib.hid (HZ.out.keep hBA)
                      go_upto_region 21 with fail
                      generalize V1.heap.size = b1 at *
                      generalize V1.alloc (.cells #[.int .u16 y0, .int .u16 y1, .int .u16 y2, .int .u16 y3, .int .u16 y4, .int .u16 y5, .int .u16 y6, .int .u16 y7] 30) = V2 at *
                      clear hv1 q0 q1 q2 q3 q4 q5 q6 q7 hlt2
                      refine wp_region_ext (by kernel_rfl) (by kernel_rfl) ?_
                      repeat (go_big_quiet_step (fail))
                      refine wpQuiet_nil ?_
                      rintro V3 ⟨⟨_, hb3⟩, rfl⟩
                      have Z3 := Lib.hid (Z1.out.keep hb3)
                      have hB3 := below_step hBA hb3
                      have hle1 : (rngZ y).1 ≤ t + 1 := by
                        rw [HRW.out]
                        have := HY.out.2.2.2
                        omega
                      clear hb3 Z1 hBA
                      have HLE1 := Lib.hid hle1
                      have hCY := HCY.out _ hB3
                      have hgA := Nat.lt_of_lt_of_le hg hB3.size
                      obtain ⟨c0, c1, c2, c3, c4, c5, c6, c7, c8⟩ := hCY
                      have q0 := (blk_cell Z3.out.kt 0).trans (show _ = some (Value.int .u16 (pc 0 t)) from rfl)
                      have q1 := (blk_cell Z3.out.kt 1).trans (show _ = some (Value.int .u16 (pc 1 t)) from rfl)
                      have q2 := (blk_cell Z3.out.kt 2).trans (show _ = some (Value.int .u16 (pc 2 t)) from rfl)
                      have q3 := (blk_cell Z3.out.kt 3).trans (show _ = some (Value.int .u16 (pc 3 t)) from rfl)
                      have q4 := (blk_cell Z3.out.kt 4).trans (show _ = some (Value.int .u16 (pc 4 t)) from rfl)
                      have q5 := (blk_cell Z3.out.kt 5).trans (show _ = some (Value.int .u16 (pc 5 t)) from rfl)
                      have q6 := (blk_cell Z3.out.kt 6).trans (show _ = some (Value.int .u16 (pc 6 t)) from rfl)
                      have q7 := (blk_cell Z3.out.kt 7).trans (show _ = some (Value.int .u16 (pc 7 t)) from rfl)
                      have hlt2 := Z3.out.kt.lt
                      have HC2 := Lib.hid (refCompare_at HWY.out.1 Z3.out.wide)
                      clear hle1
                      go_upto_region 22 with fail
                      by_cases hty : t < ty
                      · rw [cmpI_gt hty] at HC2
                        refine wp_region_ext (by kernel_rfl) (by kernel_rfl) ?_
                        repeat (go_big_quiet_step (first | (with_reducible exact ext_of (HLY.out _)) | (with_reducible exact ext_of (HC2.out _))))
                        refine wpQuiet_nil ?_
                        rintro V4 ⟨⟨_, hb4⟩, rfl⟩
                        have Z4 := Lib.hid (Z3.out.keep hb4)
                        have hB4 := below_step hB3 hb4
                        have hCY := HCY.out _ hB4
                        have hgB := Nat.lt_of_lt_of_le hg hB4.size
                        clear c0 c1 c2 c3 c4 c5 c6 c7 c8 q0 q1 q2 q3 q4 q5 q6 q7 hlt2 hgA hb4
                        obtain ⟨c0, c1, c2, c3, c4, c5, c6, c7, c8⟩ := hCY
                        go_wp2_with fail
                        refine (HLY.out _).mono ?_
                        rintro e V5 ⟨rfl, hv5⟩
                        have Z5 := Lib.hid (Z4.out.keep hv5)
                        obtain ⟨wB, hst, xB, bB, oB, gB⟩ := store_to Z5.out.kt rfl ty
                        have Z6 := Z5.out.move HY.out.1 HLE1.out (by rw [← ETY.out]; exact HWY.out.1) (by rw [← ETY.out]; exact hty) (by rw [← ETY.out]; exact xB) bB oB gB
                        rw [← ETY.out] at Z6
                        have Z6 := Lib.hid Z6
                        clear c0 c1 c2 c3 c4 c5 c6 c7 c8 hgB hv5 xB bB oB gB
                        go_wp2_with fail
                        exact ⟨⟨j + 1, ty, by omega, by omega, by simp, Z6.out⟩, by simp [intOf]; omega⟩
                      · have hr2 : ¬ 0 < cmpI ty t := by
                          unfold cmpI
                          split
                          · omega
                          · first | omega | (split <;> omega)
                        have HTY := Lib.hid hty
                        generalize cmpI ty t = r2 at *
                        clear hty
                        refine wp_region_ext (by kernel_rfl) (by kernel_rfl) ?_
                        repeat (go_big_quiet_step (first | (with_reducible exact ext_of (HLY.out _)) | (with_reducible exact ext_of (HC2.out _))))
                        refine wpQuiet_nil ?_
                        rintro V4 ⟨⟨_, hb4⟩, rfl⟩
                        have Z4 := Lib.hid ((Z3.out.keep hb4).stay HY.out.1 HLE1.out (by rw [← ETY.out]; have := HTY.out; omega))
                        clear c0 c1 c2 c3 c4 c5 c6 c7 c8 q0 q1 q2 q3 q4 q5 q6 q7 hlt2 hgA hb4
                        go_wp2_with fail
                        exact ⟨⟨j + 1, t, by omega, by omega, by simp, Z4.out⟩, by simp [intOf]; omega⟩
                  · have HEND := Lib.hid hjl
                    have p0 := (blk_cell HZ.out.kf 0).trans (show _ = some (Value.int .u16 (pc 0 x.a)) from rfl)
                    have p1 := (blk_cell HZ.out.kf 1).trans (show _ = some (Value.int .u16 (pc 1 x.a)) from rfl)
                    have p2 := (blk_cell HZ.out.kf 2).trans (show _ = some (Value.int .u16 (pc 2 x.a)) from rfl)
                    have p3 := (blk_cell HZ.out.kf 3).trans (show _ = some (Value.int .u16 (pc 3 x.a)) from rfl)
                    have p4 := (blk_cell HZ.out.kf 4).trans (show _ = some (Value.int .u16 (pc 4 x.a)) from rfl)
                    have p5 := (blk_cell HZ.out.kf 5).trans (show _ = some (Value.int .u16 (pc 5 x.a)) from rfl)
                    have p6 := (blk_cell HZ.out.kf 6).trans (show _ = some (Value.int .u16 (pc 6 x.a)) from rfl)
                    have p7 := (blk_cell HZ.out.kf 7).trans (show _ = some (Value.int .u16 (pc 7 x.a)) from rfl)
                    have q0 := (blk_cell HZ.out.kt 0).trans (show _ = some (Value.int .u16 (pc 0 t)) from rfl)
                    have q1 := (blk_cell HZ.out.kt 1).trans (show _ = some (Value.int .u16 (pc 1 t)) from rfl)
                    have q2 := (blk_cell HZ.out.kt 2).trans (show _ = some (Value.int .u16 (pc 2 t)) from rfl)
                    have q3 := (blk_cell HZ.out.kt 3).trans (show _ = some (Value.int .u16 (pc 3 t)) from rfl)
                    have q4 := (blk_cell HZ.out.kt 4).trans (show _ = some (Value.int .u16 (pc 4 t)) from rfl)
                    have q5 := (blk_cell HZ.out.kt 5).trans (show _ = some (Value.int .u16 (pc 5 t)) from rfl)
                    have q6 := (blk_cell HZ.out.kt 6).trans (show _ = some (Value.int .u16 (pc 6 t)) from rfl)
                    have q7 := (blk_cell HZ.out.kt 7).trans (show _ = some (Value.int .u16 (pc 7 t)) from rfl)
                    have hlf := HZ.out.kf.lt
                    have hlt2 := HZ.out.kt.lt
                    go_wp2_with fail
                    refine (refCover_walk x.a t HX.out.2.2 HZ.out.wide HZ.out.le _).mono ?_
                    rintro e V ⟨u, rfl, hou, hbv⟩
                    have hfew := coverL_few HX.out.2.2 HZ.out.wide HZ.out.le
                    have hB4 := below_step HZ.out.below hbv
                    clear p0 p1 p2 p3 p4 p5 p6 p7 q0 q1 q2 q3 q4 q5 q6 q7 hlf hlt2
                    go_wp2_with (at_builtin; refine app_row rfl (.tmp 124) (.tmp 127) 33 rfl w3.heap.size 61 i0 (.agg #[.int .u16 0, .int .u16 0, .int .u16 0, .int .u16 0, .int .u16 0, .int .u16 0, .int .u16 0, .int .u16 0, .int .i64 0]) 9 24 Tryd.underlying33 HI.out HZ0.out HZ1.out HZ2.out rfl (by decide) u9 (coverJ acc).length (pcells (coverJ acc)) rfl (own_below HZ.out.own hbv) u wr.heap.size (coverL x.a t).length (pcells (coverL x.a t)) rfl hou (pcells_one _) (by unfold maxLen; omega) (by omega) hB4.size ?_; intro v4 w4 hown4 hbel4)
                    refine ⟨exit_kz hij hj hown4 (hbel4 _ _ (Nat.le_refl _) hB4) HZ.out.sw (fun r hr => ?_) hlen hfew, by simp [intOf]; omega⟩
                    rw [List.drop_of_length_le (by have := HEND.out; omega)] at hr
                    cases hr
            · obtain rfl : i = S.length := by omega
              go_wp2_with fail
              go_returns
              have hend : joinR [] (l.map rngZ) = acc := by
                have h := HSW.out
                rw [List.drop_of_length_le (by omega)] at h
                have hle : ∀ r ∈ l.map rngZ, r.1 ≤ r.2 := by
                  intro r hr
                  obtain ⟨z, hz, rfl⟩ := List.mem_map.1 hr
                  have hz' := HOKS.out z (HD.out.1.symm.subset hz)
                  have h5 := rngZ_ok hz'.1 hz'.2
                  have h6 := pow_pos2 (128 - z.n.toNat)
                  rw [h5.2.2.2.2]
                  show z.v ≤ _
                  rw [h5.2.2.1]
                  omega
                have hasc : Asc (S.map rngZ) := by
                  unfold Asc
                  rw [List.pairwise_map]
                  exact HD.out.2
                rw [← sweep_join _ _ hle hasc (HD.out.1.map rngZ), h]
                simp [sweepL]
              rw [hend]
              exact ⟨_, rfl, World.ownsRow.mono HO.out HB2.out.size, below_step HB2.out HBW.out⟩
end Go.Proofs.YtcgdjnmfeibnoaaDoor
