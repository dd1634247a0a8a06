/- Several texts in one (wip/gen/pack.py): SixJoinB SixRefHas Builder Hex SixRun SixText SixPrint SixJoins Frame SixOpen SixOpenL SixJoinsCard. -/
import Derived.Test.YtcgdjnmfeibnoaaDoorPK1
import Derived.Test.YtcgdjnmfeibnoaaDoorPK2
import Derived.Laws.BitsLemmas
import Derived.Laws.Externs
import Derived.Laws.IdiomCopy
import Derived.Lib.AppendStr
import Derived.Lib.Builder
import Derived.Lib.Slices
import Derived.Lib.Strings
import Derived.Lib.UnsafeStr
import Derived.Lib.Walk
import Derived.Test.YtcgdjnmfeibnoaaDoorPK0
import Derived.Deep.LoopGhost
import Derived.Laws.MakeOwn
import Derived.Laws.OwnMore
import Derived.Lib.ConvBytes
import Derived.Lib.Hide
import Derived.Deep.AppendLies
import Derived.OpenShut
import Derived.ProofKit
import Derived.Test.YtcgdjnmfeibnoaaDoorRows
import Derived.ChangeMaps5
import Derived.Deep.DeepHandedRow
import Derived.LaidSub
import Derived.Lib.LaidTab
import Derived.Test.YtcgdjnmfeibnoaaDoorCards
import Derived.Test.YtcgdjnmfeibnoaaDoorTie
/-! SixJoinB -/
namespace Go.Proofs.YtcgdjnmfeibnoaaDoor
open Go.RowKit Go.Lib Go.Sort Go.Proofs.YtcgdjnmfeibnoaaDoorW.PrintWords
set_option linter.unusedVariables false
set_option linter.unusedSimpArgs false
set_option maxHeartbeats 1000000 in
set_option maxRecDepth 100000 in
theorem joinZ_bad (A : Option Addr) (c : Nat) (l : List Pz) (w : World) (hr : RdZ w A l) (hn : l.length ≤ 1048576) (hb : 0 ≤ badZ l) :
    Calls Tryd.prog 19 #[.slice A l.length c] w fun e w' => e = .returned (.tuple #[.slice none 0 0, .int .i64 (badZ l), .int .i64 211]) ∧ Below w.heap.size w w' := by
  have HI := Lib.hid (c_idxZ A c l w hr (by omega))
  generalize badZ l = b at *
  clear hr
  go_enter Tryd.func19, Tryd.ntmps19
  go_wp2_with fail
  refine HI.out.mono ?_
  rintro e w1 ⟨rfl, hb1⟩
  clear HI
  go_wp2_with fail
  go_returns
  exact ⟨rfl, hb1⟩
end Go.Proofs.YtcgdjnmfeibnoaaDoor
/-! SixRefHas -/
namespace Go.Proofs.YtcgdjnmfeibnoaaDoor
open Go.RowKit Go.Lib Go.Proofs.YtcgdjnmfeibnoaaDoorW.PrintWords
set_option linter.unusedVariables false
set_option linter.unusedSimpArgs false
/-- Where the document's Has has put what Mask answers. -/
def RHC (W0 : World) (m n : Int) (s t : Value) (W : World) : Prop := ∃ (b : Nat) (y0 y1 y2 y3 y4 y5 y6 y7 : Int), s = .pointer (some ⟨b, 0, none⟩) ∧ t = .int .i64 (maskE n) ∧ R8 y0 y1 y2 y3 y4 y5 y6 y7 ∧ V8 y0 y1 y2 y3 y4 y5 y6 y7 = m ∧
  W.heap[b]? = some (.cells #[.int .u16 y0, .int .u16 y1, .int .u16 y2, .int .u16 y3, .int .u16 y4, .int .u16 y5, .int .u16 y6, .int .u16 y7] 30 (0, 0)) ∧ Below W0.heap.size W0 W
set_option maxHeartbeats 4000000 in
set_option maxRecDepth 100000 in
theorem refHas_walk (A : Option Addr) (c : Nat) (l : List Pz) (a0 a1 a2 a3 a4 a5 a6 a7 : Int) (ha : R8 a0 a1 a2 a3 a4 a5 a6 a7) (w : World) (hr : RdZ w A l) (hn : l.length ≤ 9223372036854775807) :
    Calls Tryd.prog 22 #[.slice A l.length c, A8 a0 a1 a2 a3 a4 a5 a6 a7] w fun e w' => e = .returned (.tuple #[.int .i64 (hasV l (V8 a0 a1 a2 a3 a4 a5 a6 a7)).1, .bool (hasV l (V8 a0 a1 a2 a3 a4 a5 a6 a7)).2]) ∧ Below w.heap.size w w' := by
  have hk : (w.alloc (.cells #[.int .u16 a0, .int .u16 a1, .int .u16 a2, .int .u16 a3, .int .u16 a4, .int .u16 a5, .int .u16 a6, .int .u16 a7] 30)).heap[w.heap.size]? = some (.cells #[.int .u16 a0, .int .u16 a1, .int .u16 a2, .int .u16 a3, .int .u16 a4, .int .u16 a5, .int .u16 a6, .int .u16 a7] 30 (0, 0)) := blk_new _ _
  have B0 : Below w.heap.size w (w.alloc (.cells #[.int .u16 a0, .int .u16 a1, .int .u16 a2, .int .u16 a3, .int .u16 a4, .int .u16 a5, .int .u16 a6, .int .u16 a7] 30)) := (Below.refl _ _).alloc (Nat.le_refl _) _
  have HR := Lib.hid (hr.keep B0)
  have HA := Lib.hid ha
  clear hr ha
  go_enter Tryd.func22, Tryd.ntmps22
  go_upto_region 1 with fail
  generalize w.alloc (.cells #[.int .u16 a0, .int .u16 a1, .int .u16 a2, .int .u16 a3, .int .u16 a4, .int .u16 a5, .int .u16 a6, .int .u16 a7] 30) = W0 at *
  have HK := Lib.hid hk
  have HB := Lib.hid B0
  clear hk B0
  go_wp2_with fail
  go_loopw [6] (fun i W => HasRel W0 l (V8 a0 a1 a2 a3 a4 a5 a6 a7) i W) (fun i _ => l.length - (intOf i).toNat)
  case atStart => exact ⟨0, Nat.zero_le _, rfl, fun j y h => absurd h (Nat.not_lt_zero _), Below.refl _ _⟩
  case round =>
    obtain ⟨k, hk, rfl, hno, hb⟩ := hrel
    have HNO := Lib.hid hno
    have HBW := Lib.hid hb
    clear hno hb
    by_cases hlt : k < l.length
    · obtain ⟨x, hx⟩ : ∃ x, l[k]? = some x := ⟨l[k], List.getElem?_eq_getElem hlt⟩
      obtain ⟨g, o, rfl, hg, hc⟩ := (HR.out.keep HBW.out) k x hx
      have c0 := (hc 0 (by decide)).trans (show (zc x)[0]? = some (.int .u16 (pc 0 x.a)) from rfl)
      have c1 := (hc 1 (by decide)).trans (show (zc x)[1]? = some (.int .u16 (pc 1 x.a)) from rfl)
      have c2 := (hc 2 (by decide)).trans (show (zc x)[2]? = some (.int .u16 (pc 2 x.a)) from rfl)
      have c3 := (hc 3 (by decide)).trans (show (zc x)[3]? = some (.int .u16 (pc 3 x.a)) from rfl)
      have c4 := (hc 4 (by decide)).trans (show (zc x)[4]? = some (.int .u16 (pc 4 x.a)) from rfl)
      have c5 := (hc 5 (by decide)).trans (show (zc x)[5]? = some (.int .u16 (pc 5 x.a)) from rfl)
      have c6 := (hc 6 (by decide)).trans (show (zc x)[6]? = some (.int .u16 (pc 6 x.a)) from rfl)
      have c7 := (hc 7 (by decide)).trans (show (zc x)[7]? = some (.int .u16 (pc 7 x.a)) from rfl)
      have c8 := (hc 8 (by decide)).trans (show (zc x)[8]? = some (.int .i64 x.n) from rfl)
      simp only [Nat.add_zero, ← Nat.add_assoc] at c0 c1 c2 c3 c4 c5 c6 c7 c8
      clear hc
      have HX := Lib.hid hx
      clear hx
      have hkW := blk_below HK.out HBW.out
      have a0' := (blk_cell hkW 0).trans (show _ = some (Value.int .u16 a0) from rfl)
      have a1' := (blk_cell hkW 1).trans (show _ = some (Value.int .u16 a1) from rfl)
      have a2' := (blk_cell hkW 2).trans (show _ = some (Value.int .u16 a2) from rfl)
      have a3' := (blk_cell hkW 3).trans (show _ = some (Value.int .u16 a3) from rfl)
      have a4' := (blk_cell hkW 4).trans (show _ = some (Value.int .u16 a4) from rfl)
      have a5' := (blk_cell hkW 5).trans (show _ = some (Value.int .u16 a5) from rfl)
      have a6' := (blk_cell hkW 6).trans (show _ = some (Value.int .u16 a6) from rfl)
      have a7' := (blk_cell hkW 7).trans (show _ = some (Value.int .u16 a7) from rfl)
      have hl := blk_lt hkW
      clear hkW
      go_upto_region 4 with fail
      go_cut [7, 8] (fun s t W => RHC W0 (maskV (V8 a0 a1 a2 a3 a4 a5 a6 a7) x.n) x.n s t W)
      case first =>
        go_region_held3 (fun w' => w'.cell? ⟨w.heap.size, 0, none⟩ = some (.int .u16 a0) ∧ w'.cell? ⟨w.heap.size, 1, none⟩ = some (.int .u16 a1) ∧ w'.cell? ⟨w.heap.size, 2, none⟩ = some (.int .u16 a2) ∧ w'.cell? ⟨w.heap.size, 3, none⟩ = some (.int .u16 a3) ∧ w'.cell? ⟨w.heap.size, 4, none⟩ = some (.int .u16 a4) ∧ w'.cell? ⟨w.heap.size, 5, none⟩ = some (.int .u16 a5) ∧ w'.cell? ⟨w.heap.size, 6, none⟩ = some (.int .u16 a6) ∧ w'.cell? ⟨w.heap.size, 7, none⟩ = some (.int .u16 a7) ∧ w'.cell? ⟨g, o + k * 9 + 8, none⟩ = some (.int .i64 x.n))
          (first | go_keep | (refine ⟨?_, ?_, ?_, ?_, ?_, ?_, ?_, ?_, ?_⟩ <;> assumption))
          (first
          | (go_at_call 62
             refine (refMask_all _ _ _ _ _ _ _ _ HA.out x.n _).mono ?_
             rintro e w1 ⟨y0, y1, y2, y3, y4, y5, y6, y7, rfl, hy, hv, hb1⟩
             have HB1 : Below wr.heap.size wr w1 := by first | exact hb1 | exact below_step ((Below.refl _ _).alloc (Nat.le_refl _) _) hb1 | exact below_step (bdn (Below.refl _ _) 1) hb1 | exact below_step (bdn ((Below.refl _ _).alloc (Nat.le_refl _) _) 1) hb1 | exact below_step ((bdn (Below.refl _ _) 1).alloc (Nat.le_refl _) _) hb1
             have d0 := (HB1.cell (p := ⟨w.heap.size, 0, none⟩) hl).trans a0'
             have d1 := (HB1.cell (p := ⟨w.heap.size, 1, none⟩) hl).trans a1'
             have d2 := (HB1.cell (p := ⟨w.heap.size, 2, none⟩) hl).trans a2'
             have d3 := (HB1.cell (p := ⟨w.heap.size, 3, none⟩) hl).trans a3'
             have d4 := (HB1.cell (p := ⟨w.heap.size, 4, none⟩) hl).trans a4'
             have d5 := (HB1.cell (p := ⟨w.heap.size, 5, none⟩) hl).trans a5'
             have d6 := (HB1.cell (p := ⟨w.heap.size, 6, none⟩) hl).trans a6'
             have d7 := (HB1.cell (p := ⟨w.heap.size, 7, none⟩) hl).trans a7'
             have d8 := (HB1.cell (p := ⟨g, o + k * 9 + 8, none⟩) hg).trans c8
             have hlw : wr.heap.size ≤ w1.heap.size := HB1.size
             have hz0 : w1.heap[wr.heap.size]? = some (.cells #[.int .u16 0, .int .u16 0, .int .u16 0, .int .u16 0, .int .u16 0, .int .u16 0, .int .u16 0, .int .u16 0] 30 (0, 0)) := by first | exact blk_below (blk_new _ _) hb1 | exact blk_below (blk_drew (blk_new _ _)) hb1
             obtain ⟨wB, hst, hBel, hBb⟩ := storeR_names HB1 (Nat.le_refl _) hz0 y0 y1 y2 y3 y4 y5 y6 y7
             have hBl := blk_lt hBb
             have e0 := (hBel.cell (p := ⟨w.heap.size, 0, none⟩) hl).trans a0'
             have e1 := (hBel.cell (p := ⟨w.heap.size, 1, none⟩) hl).trans a1'
             have e2 := (hBel.cell (p := ⟨w.heap.size, 2, none⟩) hl).trans a2'
             have e3 := (hBel.cell (p := ⟨w.heap.size, 3, none⟩) hl).trans a3'
             have e4 := (hBel.cell (p := ⟨w.heap.size, 4, none⟩) hl).trans a4'
             have e5 := (hBel.cell (p := ⟨w.heap.size, 5, none⟩) hl).trans a5'
             have e6 := (hBel.cell (p := ⟨w.heap.size, 6, none⟩) hl).trans a6'
             have e7 := (hBel.cell (p := ⟨w.heap.size, 7, none⟩) hl).trans a7'
             have e8 := (hBel.cell (p := ⟨g, o + k * 9 + 8, none⟩) hg).trans c8)
          | (go_at_call 62
             refine (refMask_all _ _ _ _ _ _ _ _ HA.out x.n _).mono ?_
             rintro e w1 ⟨y0, y1, y2, y3, y4, y5, y6, y7, rfl, hy, hv, hb1⟩
             have HB1 : Below wr.heap.size wr w1 := by first | exact hb1 | exact below_step ((Below.refl _ _).alloc (Nat.le_refl _) _) hb1 | exact below_step (bdn (Below.refl _ _) 1) hb1 | exact below_step (bdn ((Below.refl _ _).alloc (Nat.le_refl _) _) 1) hb1 | exact below_step ((bdn (Below.refl _ _) 1).alloc (Nat.le_refl _) _) hb1
             have d0 := (HB1.cell (p := ⟨w.heap.size, 0, none⟩) hl).trans a0'
             have d1 := (HB1.cell (p := ⟨w.heap.size, 1, none⟩) hl).trans a1'
             have d2 := (HB1.cell (p := ⟨w.heap.size, 2, none⟩) hl).trans a2'
             have d3 := (HB1.cell (p := ⟨w.heap.size, 3, none⟩) hl).trans a3'
             have d4 := (HB1.cell (p := ⟨w.heap.size, 4, none⟩) hl).trans a4'
             have d5 := (HB1.cell (p := ⟨w.heap.size, 5, none⟩) hl).trans a5'
             have d6 := (HB1.cell (p := ⟨w.heap.size, 6, none⟩) hl).trans a6'
             have d7 := (HB1.cell (p := ⟨w.heap.size, 7, none⟩) hl).trans a7'
             have d8 := (HB1.cell (p := ⟨g, o + k * 9 + 8, none⟩) hg).trans c8
             have hlw : wr.heap.size ≤ w1.heap.size := HB1.size))
        all_goals go_wp2_with fail
        all_goals go_meet
        · exact ⟨w1.heap.size, y0, y1, y2, y3, y4, y5, y6, y7, rfl, rfl, hy, hv, blk_new _ _, (below_step HBW.out HB1).alloc (below_step HBW.out HB1).size _⟩
        · exact ⟨wr.heap.size, y0, y1, y2, y3, y4, y5, y6, y7, rfl, rfl, hy, hv, hBb, below_step HBW.out hBel⟩
      case rest =>
        obtain ⟨b, y0, y1, y2, y3, y4, y5, y6, y7, rfl, rfl, hy, hv, hbb, hbW⟩ := hcut
        clear c0 c1 c2 c3 c4 c5 c6 c7 c8 a0' a1' a2' a3' a4' a5' a6' a7' hl hg
        obtain ⟨g', o', hgo, hg, hc⟩ := (HR.out.keep hbW) k x HX.out
        obtain ⟨rfl, rfl⟩ : g = g' ∧ o = o' := by simpa using hgo
        clear hgo
        have c0 := (hc 0 (by decide)).trans (show (zc x)[0]? = some (.int .u16 (pc 0 x.a)) from rfl)
        have c1 := (hc 1 (by decide)).trans (show (zc x)[1]? = some (.int .u16 (pc 1 x.a)) from rfl)
        have c2 := (hc 2 (by decide)).trans (show (zc x)[2]? = some (.int .u16 (pc 2 x.a)) from rfl)
        have c3 := (hc 3 (by decide)).trans (show (zc x)[3]? = some (.int .u16 (pc 3 x.a)) from rfl)
        have c4 := (hc 4 (by decide)).trans (show (zc x)[4]? = some (.int .u16 (pc 4 x.a)) from rfl)
        have c5 := (hc 5 (by decide)).trans (show (zc x)[5]? = some (.int .u16 (pc 5 x.a)) from rfl)
        have c6 := (hc 6 (by decide)).trans (show (zc x)[6]? = some (.int .u16 (pc 6 x.a)) from rfl)
        have c7 := (hc 7 (by decide)).trans (show (zc x)[7]? = some (.int .u16 (pc 7 x.a)) from rfl)
        have c8 := (hc 8 (by decide)).trans (show (zc x)[8]? = some (.int .i64 x.n) from rfl)
        simp only [Nat.add_zero, ← Nat.add_assoc] at c0 c1 c2 c3 c4 c5 c6 c7 c8
        clear hc
        have f0 := (blk_cell hbb 0).trans (show _ = some (Value.int .u16 y0) from rfl)
        have f1 := (blk_cell hbb 1).trans (show _ = some (Value.int .u16 y1) from rfl)
        have f2 := (blk_cell hbb 2).trans (show _ = some (Value.int .u16 y2) from rfl)
        have f3 := (blk_cell hbb 3).trans (show _ = some (Value.int .u16 y3) from rfl)
        have f4 := (blk_cell hbb 4).trans (show _ = some (Value.int .u16 y4) from rfl)
        have f5 := (blk_cell hbb 5).trans (show _ = some (Value.int .u16 y5) from rfl)
        have f6 := (blk_cell hbb 6).trans (show _ = some (Value.int .u16 y6) from rfl)
        have f7 := (blk_cell hbb 7).trans (show _ = some (Value.int .u16 y7) from rfl)
        have hbl := blk_lt hbb
        have HY := Lib.hid (And.intro hy hv)
        have HBB := Lib.hid hbW
        clear hy hv hbb hbW
        have hIs := fun w => refIsPrefix_walk _ _ _ _ _ _ _ _ (pc_r8 x.a) x.n w
        rw [show isPre (V8 (pc 0 x.a) (pc 1 x.a) (pc 2 x.a) (pc 3 x.a) (pc 4 x.a) (pc 5 x.a) (pc 6 x.a) (pc 7 x.a)) x.n = isZ x from rfl] at hIs
        by_cases hm : 0 ≤ x.n ∧ x.n ≤ 128
        · rw [show maskE x.n = 0 from if_pos hm]
          cases hz : isZ x with
          | true =>
            rw [hz] at hIs
            have HIs := Lib.hid hIs
            have HZ := Lib.hid hz
            clear hIs hz hm
            go_upto_region 5 with fail
            refine wp_region_ext (by kernel_rfl) (by kernel_rfl) ?_
            repeat (go_big_quiet_step (with_reducible exact ext_of (HIs.out _)))
            refine wpQuiet_nil ?_
            rintro _ ⟨⟨w2, hb2⟩, rfl⟩
            have HB4 := Lib.hid (below_step HBB.out hb2)
            clear hb2
            go_wp2_with fail
            · rename_i hq
              have ht := inZ_true HZ.out HY.out.2 (eq8_all hq)
              go_returns
              rw [hasV_at HNO.out HX.out ht]
              exact ⟨rfl, below_step HB.out HB4.out⟩
            · rename_i hq
              have hf := inZ_false HY.out.2 (eq8_none HY.out.1 (pc_r8 x.a) hq)
              exact ⟨⟨k + 1, by omega, by simp, step_no HNO.out HX.out hf, HB4.out⟩, by simp [intOf]; omega⟩
          | false =>
            rw [hz] at hIs
            have HIs := Lib.hid hIs
            have HZ := Lib.hid hz
            clear hIs hz hm
            go_upto_region 5 with fail
            refine wp_region_ext (by kernel_rfl) (by kernel_rfl) ?_
            repeat (go_big_quiet_step (with_reducible exact ext_of (HIs.out _)))
            refine wpQuiet_nil ?_
            rintro _ ⟨⟨w2, hb2⟩, rfl⟩
            have HB4 := Lib.hid (below_step HBB.out hb2)
            clear hb2
            go_wp2_with fail
            exact ⟨⟨k + 1, by omega, by simp, step_no HNO.out HX.out (inZ_not HZ.out), HB4.out⟩, by simp [intOf]; omega⟩
        · rw [show maskE x.n = 211 from if_neg hm]
          have hz : isZ x = false := decide_eq_false (by omega)
          clear hIs
          go_upto_region 5 with fail
          refine wp_region_ext (by kernel_rfl) (by kernel_rfl) ?_
          repeat (go_big_quiet_step (fail))
          have HZ := Lib.hid hz
          refine wpQuiet_nil ?_
          rintro _ ⟨⟨w2, hb2⟩, rfl⟩
          have HB4 := Lib.hid (below_step HBB.out hb2)
          clear hb2
          go_wp2_with fail
          exact ⟨⟨k + 1, by omega, by simp, step_no HNO.out HX.out (inZ_not HZ.out), HB4.out⟩, by simp [intOf]; omega⟩
    · obtain rfl : k = l.length := by omega
      go_wp2_with fail
      go_returns
      rw [hasV_no HNO.out]
      exact ⟨rfl, below_step HB.out HBW.out⟩
end Go.Proofs.YtcgdjnmfeibnoaaDoor
/-! Builder -/
namespace Go.Proofs.YtcgdjnmfeibnoaaDoor
open Go.RowKit
set_option linter.unusedVariables false
set_option linter.unusedSimpArgs false
theorem bld_size : (Tryd.prog.info? 126).map (·.size) = some 2 := by kernel_rfl
theorem bld_lies : liesAt Tryd.prog Tryd.prog.depth 126 (2 / Tryd.prog.cellsOf 126) 0 126 1 = true := by kernel_rfl
theorem byte_info : (Tryd.prog.info? 5).map (fun i => (i.zero, i.size, i.bytes)) = some (some (.int .u8 0), 1, 1) := by kernel_rfl
theorem bld_ne : (126 : Nat) ≠ 5 := by decide
/-- A builder of this program. -/
abbrev IsB (B b : Nat) (bs : List Value) (w : World) : Prop := Lib.IsBuilder 126 5 B b bs w
/-- .. that has been written to. -/
abbrev AtB (B b : Nat) (bs : List Value) (w : World) : Prop := Lib.BuilderAt 126 5 B b (.pointer (some ⟨b, 0, none⟩)) bs w
set_option maxHeartbeats 1000000 in
set_option maxRecDepth 100000 in
theorem copyCheck_old (b : Nat) (w : World) (h0 : w.cell? ⟨b, 0, none⟩ = some (.pointer (some ⟨b, 0, none⟩))) :
    Calls Tryd.prog 113 #[.pointer (some ⟨b, 0, none⟩)] w fun e w' => e = .returned (.tuple #[]) ∧ w = w' := by
  obtain ⟨j, hj, _⟩ := Option.map_eq_some_iff.1 bld_size
  go_enter Tryd.func113, Tryd.ntmps113
  go_wp2
  rw [Lib.run_neq_ptr_same w _ Tryd.underlying123 hj]
  go_wp2
  go_end0
  exact ⟨rfl, rfl⟩
set_option maxHeartbeats 1000000 in
set_option maxRecDepth 100000 in
theorem copyCheck_new (b : Nat) (w : World) (h0 : w.cell? ⟨b, 0, none⟩ = some (.pointer none)) (hsh : w.shape? b = some (126, 2)) (hfz : w.frozen? ⟨b, 0, none⟩ = false) :
    Calls Tryd.prog 113 #[.pointer (some ⟨b, 0, none⟩)] w fun e w' => e = .returned (.tuple #[]) ∧ w.setCell ⟨b, 0, none⟩ (.pointer (some ⟨b, 0, none⟩)) = w' := by
  obtain ⟨j, hj, hjs⟩ := Option.map_eq_some_iff.1 bld_size
  go_enter Tryd.func113, Tryd.ntmps113
  go_wp2
  rw [Lib.run_to_unsafe w ⟨b, 0, none⟩ Tryd.underlying123 Tryd.underlying186 hj (by rw [hjs]; decide) hsh (Nat.zero_lt_succ 1)]
  simp only [Result.andThen]
  rw [Oper.upon_value]
  go_wp2
  rw [run_callFunc_extern Tryd.func142 (by kernel_rfl) (by kernel_rfl) (by kernel_rfl) (e := Extern.AbiNoEscape.same) (by kernel_rfl)]
  rw [Lib.run_noEscape]
  simp only [Result.andThen]
  rw [Oper.upon_value]
  go_wp2
  rw [Lib.run_from_unsafe w ⟨b, 0, none⟩ Tryd.underlying186 Tryd.underlying123 hj hsh bld_lies]
  simp only [Result.andThen]
  rw [Oper.upon_value]
  go_wp2
  go_end0
  exact ⟨rfl, rfl⟩
theorem copyCheck_walk (B b : Nat) (bs : List Value) (w : World) (h : IsB B b bs w) :
    Calls Tryd.prog 113 #[.pointer (some ⟨b, 0, none⟩)] w fun e w' => e = .returned (.tuple #[]) ∧ AtB B b bs w' ∧ Below B w w' := by
  rcases h with h | h
  · exact (copyCheck_new b w h.cell0 h.shape h.frozen0).mono fun e w' ⟨he, hw⟩ => ⟨he, hw ▸ h.used _, hw ▸ (Below.refl B w).setCell (p := ⟨b, 0, none⟩) h.1 _⟩
  · exact (copyCheck_old b w h.cell0).mono fun e w' ⟨he, hw⟩ => ⟨he, hw ▸ h, hw ▸ Below.refl B w⟩
/-- What a used builder's block gives a walk. -/
theorem atB_open {B b : Nat} {bs : List Value} {w : World} (h : AtB B b bs w) : ∃ v, B ≤ b ∧ b < w.heap.size ∧ w.heap[b]? = some (.cells #[.pointer (some ⟨b, 0, none⟩), v] 126 (0, 0)) ∧ w.ownsRow B 5 1 v bs.length bs ∧ v.ownBlock ≠ some b ∧
    w.cell? ⟨b, 0, none⟩ = some (.pointer (some ⟨b, 0, none⟩)) ∧ w.cell? ⟨b, 1, none⟩ = some v ∧ w.frozen? ⟨b, 1, none⟩ = false := by
  have hlt := h.lt
  obtain ⟨hB, v, hbk, hown, hne⟩ := h
  exact ⟨v, hB, hlt, hbk, hown, hne, by rw [Lib.cell_of_heap hbk]; rfl, by rw [Lib.cell_of_heap hbk]; rfl, Lib.frozen_of_heap hbk 1⟩
set_option maxHeartbeats 2000000 in
set_option maxRecDepth 100000 in
theorem writeByte_walk (B b : Nat) (bs : List Value) (c : Int) (w : World) (h : IsB B b bs w) (hlen : bs.length + 1 ≤ 140737488355328) (hBw : B ≤ w.heap.size) :
    Calls Tryd.prog 77 #[.pointer (some ⟨b, 0, none⟩), .int .u8 c] w fun e w' => e = .returned .nilIface ∧ AtB B b (bs ++ [.int .u8 c]) w' ∧ Below B w w' := by
  obtain ⟨i0, hi, hz0, hz1, hz2⟩ := info_parts byte_info
  go_enter Tryd.func77, Tryd.ntmps77
  go_wp2_with fail
  refine (copyCheck_walk B b bs _ h).mono ?_
  rintro e w1 ⟨rfl, h1, hb1⟩
  obtain ⟨v, hB, hlt, hbk, hown, hne, c0, c1, f1⟩ := atB_open h1
  have hs1 := hb1.size
  go_wp2_with (at_builtin; refine wpList_append_own _ rfl _ _ 124 rfl B 5 i0 (.int .u8 0) 1 1 Tryd.underlying124 hi hz0 hz1 hz2 rfl (by decide) _ _ _ rfl (hown.alloc _) ⟨w1.heap.size, 0, none⟩ 1 1 [.int .u8 c] rfl rfl ?c1 ?c2 ?c3 ?c4 ?c5 ?_)
  case c1 =>
    intro j u hj
    match j, hj with
    | 0, hj => simp at hj; subst hj; simp [Addr.add]
  case c2 => intro u hu; simp at hu; subst hu; rfl
  case c3 => unfold maxLen; omega
  case c4 => omega
  case c5 => simp; omega
  intro v' w2 hown' hgrow _
  have hb2 : w2.heap[b]? = some (.cells #[.pointer (some ⟨b, 0, none⟩), v] 126 (0, 0)) := by
    rw [hgrow.block b (by simp; omega) (fun e => hne e.symm), Lib.alloc_old w1 _ b hlt]
    exact hbk
  have d1 : w2.cell? ⟨b, 1, none⟩ = some v := by rw [Lib.cell_of_heap hb2]; rfl
  have f2 : w2.frozen? ⟨b, 1, none⟩ = false := Lib.frozen_of_heap hb2 1
  obtain ⟨g, cap, rfl⟩ : ∃ g cap, v' = .slice (some ⟨g, 0, none⟩) (bs.length + 1) cap := by
    rcases hown'.2 with ⟨_, h0⟩ | ⟨g, cap, cur, hv, _⟩
    · omega
    · exact ⟨g, cap, hv⟩
  go_wp2
  go_ret
  refine ⟨rfl, ?_, ?_⟩
  · exact Lib.BuilderAt.put hB hb2 (bs' := bs ++ [.int .u8 c]) (by simpa using hown') bld_ne
  · exact ((hb1.alloc (by omega) _).grown hgrow (by simp; omega) (fun k hk => (hown.lt k hk).1)).setCell (p := ⟨b, 1, none⟩) hB _
set_option maxHeartbeats 2000000 in
set_option maxRecDepth 100000 in
theorem writeString_walk (B b : Nat) (bs : List Value) (s : ByteArray) (w : World) (h : IsB B b bs w) (hlen : bs.length + s.size ≤ 140737488355328) (hBw : B ≤ w.heap.size) :
    Calls Tryd.prog 97 #[.pointer (some ⟨b, 0, none⟩), .string s] w fun e w' => e = .returned (.tuple #[.int .i64 s.size, .nilIface]) ∧ AtB B b (bs ++ Lib.strCells s) w' ∧ Below B w w' := by
  obtain ⟨i0, hi, hz0, hz1, hz2⟩ := info_parts byte_info
  go_enter Tryd.func97, Tryd.ntmps97
  go_wp2_with fail
  refine (copyCheck_walk B b bs _ h).mono ?_
  rintro e w1 ⟨rfl, h1, hb1⟩
  obtain ⟨v, hB, hlt, hbk, hown, hne, c0, c1, f1⟩ := atB_open h1
  have hs1 := hb1.size
  go_wp2_with (at_builtin; refine Lib.wpList_append_own_string _ rfl _ _ 124 9 rfl B 5 i0 Tryd.underlying124 Tryd.underlying9 hi hz0 hz1 hz2 _ _ _ rfl hown s rfl ?c3 ?c4 ?c5 ?_)
  case c3 => unfold maxLen; omega
  case c4 => omega
  case c5 => omega
  intro v' w2 hown' hgrow _
  have hb2 : w2.heap[b]? = some (.cells #[.pointer (some ⟨b, 0, none⟩), v] 126 (0, 0)) := by
    rw [hgrow.block b hlt (fun e => hne e.symm)]
    exact hbk
  have d1 : w2.cell? ⟨b, 1, none⟩ = some v := by rw [Lib.cell_of_heap hb2]; rfl
  have f2 : w2.frozen? ⟨b, 1, none⟩ = false := Lib.frozen_of_heap hb2 1
  obtain ⟨ao, n', cap, rfl⟩ : ∃ ao n' cap, v' = .slice ao n' cap := by
    rcases hown'.2 with ⟨hv, _⟩ | ⟨g, cap, cur, hv, _⟩
    · exact ⟨_, _, _, hv⟩
    · exact ⟨_, _, _, hv⟩
  go_wp2
  go_ret2
  refine ⟨rfl, ?_, ?_⟩
  · exact Lib.BuilderAt.put hB hb2 (bs' := bs ++ Lib.strCells s) (by simpa [Lib.strCells_length] using hown') bld_ne
  · exact (hb1.grown hgrow (by omega) (fun k hk => (hown.lt k hk).1)).setCell (p := ⟨b, 1, none⟩) hB _
set_option maxHeartbeats 2000000 in
set_option maxRecDepth 100000 in
/-- What a builder that holds a byte at least tells. -/
theorem builderString_walk (B b : Nat) (l : List UInt8) (w : World) (h : IsB B b (Lib.byteCells l) w) (h0 : l ≠ []) :
    Calls Tryd.prog 78 #[.pointer (some ⟨b, 0, none⟩)] w fun e w' => e = .returned (.string ⟨l.toArray⟩) ∧ Below B w w' := by
  obtain ⟨p, hB, v, hbk, hown, hne⟩ : ∃ p, Lib.BuilderAt 126 5 B b p (Lib.byteCells l) w := by
    rcases h with h | h
    · exact ⟨_, h⟩
    · exact ⟨_, h⟩
  have c1 : w.cell? ⟨b, 1, none⟩ = some v := by rw [Lib.cell_of_heap hbk]; rfl
  have hl0 : l.length ≠ 0 := by simpa using h0
  rw [Lib.byteCells_length] at hown
  obtain ⟨g, cap, cur, rfl, hbg, hg, hnc, hcm, hcs, htake⟩ : ∃ g cap cur, v = .slice (some ⟨g, 0, none⟩) l.length cap ∧ B ≤ g ∧ w.heap[g]? = some (.cells cur 5 (0, 0)) ∧ l.length ≤ cap ∧ cap ≤ maxLen ∧ cur.size = cap * 1 ∧ cur.toList.take (l.length * 1) = Lib.byteCells l := by
    rcases hown.2 with ⟨_, hz⟩ | ⟨g, cap, cur, hv, r⟩
    · exact absurd hz hl0
    · exact ⟨g, cap, cur, hv, r⟩
  have hSD : (Builtin.unsafeSliceData_ #[124] 165 #[.slice (some ⟨g, 0, none⟩) l.length cap]).run Tryd.prog w.drew = .ok (.pointer (some ⟨g, 0, none⟩)) w.drew :=
    Lib.run_unsafeSliceData_row _ _ _ _ _ _ (by omega)
  have hUS : (Builtin.unsafeString_ #[165, 3] 9 #[.pointer (some ⟨g, 0, none⟩), .int .i64 l.length]).run Tryd.prog w.drew = .ok (.string ⟨l.toArray⟩) (w.drew.freeze ⟨g, 0, none⟩ l.length) := by
    refine Lib.run_unsafeString_row w.drew 165 3 9 5 Tryd.underlying165 (by kernel_rfl) g cur.size (by have hg' : w.drew.heap[g]? = some (.cells cur 5 (0, 0)) := hg; simp [World.shape?, hg']) l h0 (by omega) (by unfold maxLen at hcm; omega) ?_
    intro j x hx
    exact hown.cells (g := g) rfl j (.int .u8 x.toNat) (by simp [Lib.byteCells, hx])
  go_enter Tryd.func78, Tryd.ntmps78
  go_wp2
  go_region
  all_goals (go_wp2; go_ret; exact ⟨rfl, Lib.below_freeze (Below.drew (Below.refl B w)) (p := ⟨g, 0, none⟩) hbg _⟩)
end Go.Proofs.YtcgdjnmfeibnoaaDoor
/-! Hex -/
namespace Go.Proofs.YtcgdjnmfeibnoaaDoor
open Go.RowKit
set_option linter.unusedVariables false
set_option linter.unusedSimpArgs false
/-- A digit's letter. -/
def digB (d : Nat) : UInt8 := if d < 10 then (48 + d).toUInt8 else (87 + d).toUInt8
/-- The digits of a number to the base 16, the lowest first. -/
def revHex (n : Nat) : List UInt8 := digB (n % 16) :: (if n / 16 = 0 then [] else revHex (n / 16))
  termination_by n
  decreasing_by omega
theorem revHex_last {n : Nat} (h : n / 16 = 0) : revHex n = [digB (n % 16)] := by rw [revHex, if_pos h]
theorem revHex_more {n : Nat} (h : n / 16 ≠ 0) : revHex n = digB (n % 16) :: revHex (n / 16) := by rw [revHex, if_neg h]
set_option maxRecDepth 100000 in
theorem digit_at (m : Nat) (w : World) : (Instr.index 9 (.string ⟨#[48, 49, 50, 51, 52, 53, 54, 55, 56, 57, 97, 98, 99, 100, 101, 102, 103, 104, 105, 106, 107, 108, 109, 110, 111, 112, 113, 114, 115, 116, 117, 118, 119, 120, 121, 122]⟩) (.int .u64 ((m : Int) % 16))).run Tryd.prog w = .ok (.int .u8 (digB (m % 16)).toNat) w := by
  have h : ∃ d : Nat, d < 16 ∧ m % 16 = d := ⟨m % 16, by omega, rfl⟩
  obtain ⟨d, hd, he⟩ := h
  rw [show ((m : Int) % 16) = (d : Int) from by omega, he]
  have hc : d = 0 ∨ d = 1 ∨ d = 2 ∨ d = 3 ∨ d = 4 ∨ d = 5 ∨ d = 6 ∨ d = 7 ∨ d = 8 ∨ d = 9 ∨ d = 10 ∨ d = 11 ∨ d = 12 ∨ d = 13 ∨ d = 14 ∨ d = 15 := by omega
  rcases hc with rfl | rfl | rfl | rfl | rfl | rfl | rfl | rfl | rfl | rfl | rfl | rfl | rfl | rfl | rfl | rfl
  all_goals (change _ = _; kernel_rfl)
/-- What stands when k of the digits have been laid, from the other end. -/
def RevRel (base g cap g2 L : Nat) (all : List UInt8) (w : World) (i : Value) (W : World) : Prop :=
  ∃ k : Nat, k ≤ L ∧ i = .int .i64 k ∧ W.ownsRow base 5 1 (.slice (some ⟨g, 0, none⟩) L cap) L (Lib.byteCells all) ∧
    W.ownsRow base 5 1 (.slice (some ⟨g2, 0, none⟩) L L) L (List.replicate (L - k) (.int .u8 0) ++ Lib.byteCells (all.take k).reverse) ∧ Below w.heap.size w W
theorem rev_step {base g cap g2 n k : Nat} {all : List UInt8} {x : UInt8} {w W : World} (hx : all[k]? = some x) (hlen : n + 1 = all.length) (hk : k < n + 1)
    (hA : W.ownsRow base 5 1 (.slice (some ⟨g, 0, none⟩) (n + 1) cap) (n + 1) (Lib.byteCells all))
    (hO : W.ownsRow base 5 1 (.slice (some ⟨g2, 0, none⟩) (n + 1) (n + 1)) (n + 1) (List.replicate (n + 1 - k) (.int .u8 0) ++ Lib.byteCells (all.take k).reverse)) (hb : Below w.heap.size w W) (hne : g ≠ g2) (hbase : w.heap.size ≤ base) :
    RevRel base g cap g2 (n + 1) all w (.int .i64 ((k : Int) + 1)) (W.setCell ⟨g2, n - k, none⟩ (.int .u8 x.toNat)) := by
  obtain ⟨h1, h2⟩ := hO.stored (n - k) (.int .u8 x.toNat)
  have hg2 : base ≤ g2 := (hO.lt g2 (by simp [Value.ownBlock])).1
  refine ⟨k + 1, by omega, by simp, hA.kept h2 (by simp [Value.ownBlock, hne]), ?_, hb.setCell (p := ⟨g2, n - k, none⟩) (by simpa using Nat.le_trans hbase hg2) _⟩
  have e : (List.replicate (n + 1 - k) (Value.int .u8 0) ++ Lib.byteCells (all.take k).reverse).set (n - k) (.int .u8 x.toNat) = List.replicate (n + 1 - (k + 1)) (.int .u8 0) ++ Lib.byteCells (all.take (k + 1)).reverse := by
    have e1 : n + 1 - k = (n - k) + 1 := by omega
    have e2 : all.take (k + 1) = all.take k ++ [x] := by rw [List.take_add_one, hx]; rfl
    rw [e1, List.replicate_succ', List.append_assoc, List.set_append_right _ _ (by simp), e2]
    simp [Lib.byteCells]
  rw [e] at h1
  exact h1
theorem rev_cell {base g2 n : Nat} {all : List UInt8} {W : World} (hlen : n + 1 = all.length)
    (hO : W.ownsRow base 5 1 (.slice (some ⟨g2, 0, none⟩) (n + 1) (n + 1)) (n + 1) (List.replicate (n + 1 - (n + 1)) (.int .u8 0) ++ Lib.byteCells (all.take (n + 1)).reverse)) (i : Nat) (hi : i < n + 1) :
    W.cell? ⟨g2, i, none⟩ = some (.int .u8 ((all.reverse.map fun b => (b.toNat : Int)).getD i 0)) := by
  rw [hO.cellAt i (by omega)]
  rw [hlen, List.take_length, Nat.sub_self, List.replicate_zero, List.nil_append]
  have hi' : i < all.reverse.length := by simp; omega
  rw [Lib.byteCells, List.getElem?_map, List.getElem?_eq_getElem hi', List.getD_eq_getElem?_getD, List.getElem?_map, List.getElem?_eq_getElem hi']
  rfl
theorem strOfNums_bytes (l : List UInt8) : strOfNums (l.map fun b => (b.toNat : Int)) = ⟨l.toArray⟩ := by
  unfold strOfNums
  rw [List.map_map]
  have : ((fun n : Int => UInt8.ofNat n.toNat) ∘ fun b : UInt8 => (b.toNat : Int)) = id := by
    funext b
    simp
  rw [this, List.map_id]
set_option maxHeartbeats 2000000 in
set_option maxRecDepth 100000 in
theorem print16_walk (N : Nat) (hN : N < 18446744073709551616) (w : World) :
    Calls Tryd.prog 104 #[.int .u64 N, .int .i64 16] w fun e w' => e = .returned (.tuple #[.string ⟨(revHex N).reverse.toArray⟩, .int .i64 0]) ∧ Below w.heap.size w w' := by
  obtain ⟨i0, hi, hz0, hz1, hz2⟩ := info_parts byte_info
  go_enter Tryd.func104, Tryd.ntmps104
  go_wp2
  go_loopw [0, 6] (fun n v wr => ∃ (m : Nat) (done : List UInt8), n = .int .u64 m ∧ m ≤ N ∧ revHex N = done ++ revHex m ∧ wr.ownsRow w.heap.size 5 1 v done.length (Lib.byteCells done) ∧ Below w.heap.size w wr ∧ 2 ^ done.length * m ≤ N ∧ (m = 0 → done = []))
    (fun n _ _ => (intOf n).toNat)
  case atStart => exact ⟨N, [], rfl, Nat.le_refl _, rfl, World.ownsRow_nil _ _ _ _, Below.refl _ _, by simp, fun _ => rfl⟩
  case round =>
    obtain ⟨m, done, rfl, hm, hd, hown, hb, hp, hz⟩ := hrel
    have hs := hb.size
    have hix := digit_at m
    have hl : done.length ≤ 64 := by
      rcases Nat.lt_or_ge 64 done.length with h | h
      · exfalso
        have h0 : m ≠ 0 := fun e => by rw [hz e] at h; simp at h
        have h1 := Nat.pow_le_pow_right (n := 2) (by omega) (show 65 ≤ done.length from h)
        have h2 := Nat.le_mul_of_pos_right (2 ^ done.length) (Nat.pos_of_ne_zero h0)
        have h3 : (2 : Nat) ^ 65 = 36893488147419103232 := by decide
        omega
      · exact h
    have hbl : (Lib.byteCells done).length = done.length := Lib.byteCells_length done
    clear hbl
    go_wp2_with (at_builtin; refine app_one rfl _ _ 124 rfl w.heap.size 5 i0 (.int .u8 0) 1 1 Tryd.underlying124 hi hz0 hz1 hz2 rfl (by decide) _ _ _ rfl hown [.int .u8 (digB (m % 16)).toNat] rfl rfl (by simp [Value.oneCell']) (by unfold maxLen; omega) (by omega) (by omega) ?_; intro g cap w2 hg hown' hgrow hbel)
    · clear hgrow hix
      have hb2 := hbel _ _ (Nat.le_refl _) hb
      have hs2 := hb2.size
      obtain ⟨w3, hmk, hown3, hgr3⟩ := run_make_full w2 w.heap.size 124 5 i0 (.int .u8 0) 1 Tryd.underlying124 hi hz0 hz1 .i64 .i64 (done.length + 1) (by rw [hz2]; omega) (by unfold maxLen; omega) hs2
      rw [show ((done.length + 1 : Nat) : Int) = (done.length : Int) + 1 from by omega] at hmk
      have hb3 : Below w.heap.size w w3 := hb2.grown hgr3 hs2 (fun k hk => by simp at hk)
      have hown3' := hown'.kept hgr3 (by simp [Value.ownBlock])
      have hall : revHex N = done ++ [digB (m % 16)] := by rw [hd, revHex_last (by simp at *; omega)]
      have hne : g ≠ w2.heap.size := by have := (hown'.lt g (by simp [Value.ownBlock])).2; omega
      obtain ⟨all, hal⟩ : ∃ all, all = done ++ [digB (m % 16)] := ⟨_, rfl⟩
      have hlen : done.length + 1 = all.length := by rw [hal]; simp
      have hback : w3.ownsRow w.heap.size 5 1 (.slice (some ⟨g, 0, none⟩) (done.length + 1) cap) (done.length + 1) (Lib.byteCells all) := by
        rw [hal]; simpa [Lib.byteCells] using hown3'
      have hout : w3.ownsRow w.heap.size 5 1 (.slice (some ⟨w2.heap.size, 0, none⟩) (done.length + 1) (done.length + 1)) (done.length + 1) (List.replicate (done.length + 1) (.int .u8 0)) := by
        have h := hown3
        rw [show (Value.int .u8 0).cells = #[.int .u8 0] from rfl, Nat.mul_one, toList_madeCells_one] at h
        exact h
      rw [← hal] at hall
      clear hown3 hown3' hown' hown hd hz hp hb hbel hb2 hgr3
      have HMK := Lib.hid hall
      have HAL := Lib.hid hal
      have HLEN := Lib.hid hlen
      clear hall hal hlen
      go_simp
      go_wp2_with fail
      go_loopw [35] (fun i W => RevRel w.heap.size g cap w2.heap.size (done.length + 1) all w i W) (fun i _ => done.length + 1 - (intOf i).toNat)
      case atStart => exact ⟨0, Nat.zero_le _, rfl, hback, by simpa [Lib.byteCells] using hout, hb3⟩
      case round =>
        clear hback hout hb3 hmk
        obtain ⟨k, hk, rfl, hA, hO, hb4⟩ := hrel
        by_cases hlt : k < done.length + 1
        · obtain ⟨x, hx⟩ : ∃ x, all[k]? = some x := ⟨all[k]'(by have := HLEN.out; omega), List.getElem?_eq_getElem _⟩
          have hc : wr.cell? ⟨g, k, none⟩ = some (.int .u8 x.toNat) := by
            rw [hA.cellAt k (by omega)]; simp [Lib.byteCells, hx]
          have ho : wr.cell? ⟨w2.heap.size, done.length - k, none⟩ = some (.int .u8 0) := by
            rw [hO.cellAt _ (by omega), List.getElem?_append_left (by simp; omega)]
            rw [List.getElem?_replicate, if_pos (by omega)]
          have hf := hO.frozenAt (done.length - k)
          have HX := Lib.hid hx
          clear hx
          go_wp2
          exact ⟨rev_step HX.out HLEN.out hlt hA hO hb4 hne (Nat.le_refl _), by simp [intOf]; omega⟩
        · obtain rfl : k = done.length + 1 := by omega
          have hcv := run_convert_bytes_arg (P := Tryd.prog) wr 124 5 Tryd.underlying124 Tryd.underlying5 w2.heap.size 0 (done.length + 1) (done.length + 1) (all.reverse.map fun b => (b.toNat : Int)) (by simp [HLEN.out])
            (fun i hi => by rw [Nat.zero_add]; exact rev_cell HLEN.out hO i hi) 9 Tryd.underlying9
          rw [strOfNums_bytes] at hcv
          clear hlt
          go_wp2
          go_returns
          exact ⟨by rw [HMK.out]; rfl, hb4⟩
    · have h16 : ¬ (m / 16 = 0) := by simp at *; omega
      have hmm := revHex_more h16
      refine ⟨⟨m / 16, done ++ [digB (m % 16)], rfl, by omega, by rw [hd, hmm]; simp, by simpa [Lib.byteCells] using hown', hbel _ _ (Nat.le_refl _) hb, ?_, fun h => absurd h h16⟩, by simp [intOf]; omega⟩
      rw [List.length_append, List.length_singleton, Nat.pow_succ, Nat.mul_assoc]
      exact Nat.le_trans (Nat.mul_le_mul_left _ (by omega)) hp
end Go.Proofs.YtcgdjnmfeibnoaaDoor
/-! SixRun -/
namespace Go.Proofs.YtcgdjnmfeibnoaaDoor
open Go.RowKit
set_option linter.unusedVariables false
set_option linter.unusedSimpArgs false
/-- A piece's text. -/
def hexL (p : Nat) : List UInt8 := (revHex p).reverse
set_option maxHeartbeats 1000000 in
set_option maxRecDepth 100000 in
theorem hex_walk (p : Nat) (hp : p ≤ 65535) (w : World) :
    Calls Tryd.prog 68 #[.int .u16 p] w fun e w' => e = .returned (.string ⟨(hexL p).toArray⟩) ∧ Below w.heap.size w w' := by
  go_enter Tryd.func68, Tryd.ntmps68
  go_wp2_with fail
  refine (print16_walk p (by omega) _).mono ?_
  rintro e w1 ⟨rfl, hb⟩
  go_wp2_with fail
  go_returns
  exact ⟨rfl, hb⟩
/-- The loop of run: what is left of the pieces, the place, what was found. -/
def runGo : List Nat → Int → Int → Int → Int → Int × Int
  | [], _, at_, most, _ => (at_, most)
  | p :: r, i, at_, most, from_ => if p = 0 then (if most < i + 1 - from_ then runGo r (i + 1) from_ (i + 1 - from_) from_ else runGo r (i + 1) at_ most from_) else runGo r (i + 1) at_ most (i + 1)
/-- The run of pieces: its place and length; -1 and 0. -/
def runL (xs : List Nat) : Int × Int := if (runGo xs 0 (-1) 1 0).1 < 0 then (-1, 0) else runGo xs 0 (-1) 1 0
/-- What stands at the head of a round of run. -/
def RunRel (xs : List Nat) (a m f i : Value) : Prop :=
  ∃ (k : Nat) (at_ most from_ : Int), k ≤ xs.length ∧ i = .int .i64 k ∧ a = .int .i64 at_ ∧ m = .int .i64 most ∧ f = .int .i64 from_ ∧
    runGo xs 0 (-1) 1 0 = runGo (xs.drop k) k at_ most from_ ∧ -1 ≤ at_ ∧ at_ ≤ k ∧ 1 ≤ most ∧ most ≤ k + 1 ∧ 0 ≤ from_ ∧ from_ ≤ k
theorem run_meas {n k : Nat} (h : k < n) : n - (intOf (.int .i64 ((k : Int) + 1))).toNat < n - (intOf (.int .i64 (k : Int))).toNat := by simp [intOf]; omega
theorem run_step0 {xs : List Nat} {k : Nat} {at_ most from_ : Int} (hk : k < xs.length) (hr : runGo xs 0 (-1) 1 0 = runGo (xs.drop k) k at_ most from_)
    (b : -1 ≤ at_ ∧ at_ ≤ k ∧ 1 ≤ most ∧ most ≤ k + 1 ∧ 0 ≤ from_ ∧ from_ ≤ k) (h0 : (((xs[k]'hk : Nat) : Int) != 0) = false) (h : (k : Int) + 1 - from_ ≤ most) :
    RunRel xs (.int .i64 at_) (.int .i64 most) (.int .i64 from_) (.int .i64 ((k : Int) + 1)) := by
  refine ⟨k + 1, at_, most, from_, hk, rfl, rfl, rfl, rfl, ?_, by omega, by omega, by omega, by omega, by omega, by omega⟩
  rw [hr, List.drop_eq_getElem_cons hk, runGo, if_pos (by simp at h0; omega), if_neg (by omega)]
  rfl
theorem run_step1 {xs : List Nat} {k : Nat} {at_ most from_ : Int} (hk : k < xs.length) (hr : runGo xs 0 (-1) 1 0 = runGo (xs.drop k) k at_ most from_)
    (b : -1 ≤ at_ ∧ at_ ≤ k ∧ 1 ≤ most ∧ most ≤ k + 1 ∧ 0 ≤ from_ ∧ from_ ≤ k) (h0 : (((xs[k]'hk : Nat) : Int) != 0) = false) (h : most < (k : Int) + 1 - from_) :
    RunRel xs (.int .i64 from_) (.int .i64 ((k : Int) + 1 - from_)) (.int .i64 from_) (.int .i64 ((k : Int) + 1)) := by
  refine ⟨k + 1, from_, (k : Int) + 1 - from_, from_, hk, rfl, rfl, rfl, rfl, ?_, by omega, by omega, by omega, by omega, by omega, by omega⟩
  rw [hr, List.drop_eq_getElem_cons hk, runGo, if_pos (by simp at h0; omega), if_pos h]
  rfl
theorem run_step2 {xs : List Nat} {k : Nat} {at_ most from_ : Int} (hk : k < xs.length) (hr : runGo xs 0 (-1) 1 0 = runGo (xs.drop k) k at_ most from_)
    (b : -1 ≤ at_ ∧ at_ ≤ k ∧ 1 ≤ most ∧ most ≤ k + 1 ∧ 0 ≤ from_ ∧ from_ ≤ k) (h0 : (((xs[k]'hk : Nat) : Int) != 0) = true) :
    RunRel xs (.int .i64 at_) (.int .i64 most) (.int .i64 ((k : Int) + 1)) (.int .i64 ((k : Int) + 1)) := by
  refine ⟨k + 1, at_, most, (k : Int) + 1, hk, rfl, rfl, rfl, rfl, ?_, by omega, by omega, by omega, by omega, by omega, by omega⟩
  rw [hr, List.drop_eq_getElem_cons hk, runGo, if_neg (by simp at h0; omega)]
  rfl
theorem runL_neg {xs : List Nat} {at_ most from_ : Int} (hr : runGo xs 0 (-1) 1 0 = runGo (xs.drop xs.length) xs.length at_ most from_) (h : at_ < 0) : runL xs = (-1, 0) := by
  rw [List.drop_length, runGo] at hr
  unfold runL
  rw [hr, if_pos h]
theorem runL_pos {xs : List Nat} {at_ most from_ : Int} (hr : runGo xs 0 (-1) 1 0 = runGo (xs.drop xs.length) xs.length at_ most from_) (h : ¬ at_ < 0) : runL xs = (at_, most) := by
  rw [List.drop_length, runGo] at hr
  unfold runL
  rw [hr, if_neg h]
set_option maxHeartbeats 1000000 in
set_option maxRecDepth 100000 in
theorem run_walk (xs : List Nat) (b c : Nat) (w : World) (hl : xs.length ≤ 8) (hc : ∀ j, j < xs.length → w.cell? ⟨b, j, none⟩ = some (.int .u16 (xs.getD j 0))) :
    Calls Tryd.prog 65 #[.slice (some ⟨b, 0, none⟩) xs.length c] w fun e w' => e = .returned (.tuple #[.int .i64 (runL xs).1, .int .i64 (runL xs).2]) ∧ w = w' := by
  go_enter Tryd.func65, Tryd.ntmps65
  go_wp2
  go_loop [4, 5, 6, 12] (RunRel xs) (fun _ _ _ i => xs.length - (intOf i).toNat)
  case atStart => exact ⟨0, -1, 1, 0, Nat.zero_le _, rfl, rfl, rfl, rfl, rfl, by omega, by omega, by omega, by omega, by omega, by omega⟩
  case round =>
    obtain ⟨k, at_, most, from_, hk, rfl, rfl, rfl, rfl, hrun, b1, b2, b3, b4, b5, b6⟩ := hrel
    by_cases hlt : k < xs.length
    · have hck := hc k hlt
      have HR := Lib.hid hrun
      clear hrun hc
      go_wp2
      all_goals refine ⟨?_, run_meas hlt⟩
      all_goals first
        | exact run_step0 hlt HR.out ⟨b1, b2, b3, b4, b5, b6⟩ ‹_› ‹_›
        | exact run_step1 hlt HR.out ⟨b1, b2, b3, b4, b5, b6⟩ ‹_› ‹_›
        | exact run_step2 hlt HR.out ⟨b1, b2, b3, b4, b5, b6⟩ ‹_›
    · obtain rfl : k = xs.length := by omega
      have HR := Lib.hid hrun
      clear hrun hc hlt
      by_cases hneg : at_ < 0
      · go_wp2
        go_returns
        rw [runL_neg HR.out hneg]
        exact ⟨rfl, rfl⟩
      · go_wp2
        go_returns
        rw [runL_pos HR.out (by omega)]
        exact ⟨rfl, rfl⟩
end Go.Proofs.YtcgdjnmfeibnoaaDoor
/-! SixText -/
namespace Go.Proofs.YtcgdjnmfeibnoaaDoor
open Go.RowKit
set_option linter.unusedVariables false
set_option linter.unusedSimpArgs false
theorem revHex_len (n : Nat) : (revHex n).length ≤ n + 1 := by
  induction n using Nat.strongRecOn with
  | ind n ih =>
    by_cases h : n / 16 = 0
    · rw [revHex_last h]; simp
    · rw [revHex_more h, List.length_cons]
      have := ih (n / 16) (by omega)
      omega
theorem hexL_len (n : Nat) : (hexL n).length ≤ n + 1 := by unfold hexL; rw [List.length_reverse]; exact revHex_len n
/-- What a piece writes. -/
def textAt (at_ n i : Int) (p : Nat) : List UInt8 :=
  if i = at_ then [58, 58] else if 0 ≤ at_ ∧ at_ < i ∧ i < at_ + n then [] else (if 0 < i ∧ i ≠ at_ + n then [58] else []) ++ hexL p
/-- What pieces write from one on. -/
def textGo (at_ n : Int) : Int → List Nat → List UInt8
  | _, [] => []
  | i, p :: r => textAt at_ n i p ++ textGo at_ n (i + 1) r
/-- The text of pieces. -/
def textL (xs : List Nat) : List UInt8 := textGo (runL xs).1 (runL xs).2 0 xs
theorem runGo_bounds : ∀ (xs : List Nat) (i at_ most from_ : Int), 0 ≤ i → -1 ≤ at_ → at_ ≤ i → 1 ≤ most → most ≤ i + 1 → 0 ≤ from_ → from_ ≤ i →
    -1 ≤ (runGo xs i at_ most from_).1 ∧ (runGo xs i at_ most from_).1 ≤ i + xs.length ∧ 1 ≤ (runGo xs i at_ most from_).2 ∧ (runGo xs i at_ most from_).2 ≤ i + xs.length + 1
  | [], i, at_, most, from_, h0, h1, h2, h3, h4, h5, h6 => by simp only [runGo, List.length_nil]; omega
  | p :: r, i, at_, most, from_, h0, h1, h2, h3, h4, h5, h6 => by
    rw [runGo, List.length_cons]
    split
    · split
      · have := runGo_bounds r (i + 1) from_ (i + 1 - from_) from_ (by omega) (by omega) (by omega) (by omega) (by omega) (by omega) (by omega)
        omega
      · have := runGo_bounds r (i + 1) at_ most from_ (by omega) (by omega) (by omega) (by omega) (by omega) (by omega) (by omega)
        omega
    · have := runGo_bounds r (i + 1) at_ most (i + 1) (by omega) (by omega) (by omega) (by omega) (by omega) (by omega) (by omega)
      omega
theorem runL_bounds (xs : List Nat) : -1 ≤ (runL xs).1 ∧ (runL xs).1 ≤ xs.length ∧ 0 ≤ (runL xs).2 ∧ (runL xs).2 ≤ xs.length + 1 := by
  have := runGo_bounds xs 0 (-1) 1 0 (by omega) (by omega) (by omega) (by omega) (by omega) (by omega) (by omega)
  unfold runL
  split
  · simp; omega
  · omega
theorem hexL_ne (n : Nat) : hexL n ≠ [] := by
  unfold hexL
  rw [revHex]
  simp
theorem textL_ne {xs : List Nat} (h : xs ≠ []) : textL xs ≠ [] := by
  cases xs with
  | nil => exact absurd rfl h
  | cons p r =>
    unfold textL
    rw [textGo, textAt]
    split
    · simp
    · split
      · rename_i h1; exact absurd h1 (by omega)
      · have := hexL_ne p
        simp [this]
/-- A builder stays where all stays that was there. -/
theorem isB_keep {B b : Nat} {bs : List Value} {w W : World} (h : IsB B b bs w) (hb : Below w.heap.size w W) : IsB B b bs W := by
  have key : ∀ p, Lib.BuilderAt 126 5 B b p bs w → Lib.BuilderAt 126 5 B b p bs W := by
    intro p hp
    have hlt := hp.lt
    obtain ⟨hB, v, hbk, hown, hne⟩ := hp
    exact ⟨hB, v, by rw [hb.block b hlt]; exact hbk, hown.kept (row := none) ⟨hb.os, hb.tape, hb.output, hb.size, fun i hi _ => hb.block i hi⟩ (by cases v.ownBlock <;> simp), hne⟩
  rcases h with h | h
  · exact .inl (key _ h)
  · exact .inr (key _ h)
/-- What stands at the head of a round of text. -/
def TextRel (xs : List Nat) (at_ n : Int) (w : World) (i : Value) (W : World) : Prop :=
  ∃ (k : Nat) (done : List UInt8), k ≤ xs.length ∧ i = .int .i64 k ∧ textL xs = done ++ textGo at_ n k (xs.drop k) ∧ IsB w.heap.size w.heap.size (Lib.byteCells done) W ∧ Below w.heap.size w W ∧ done.length ≤ k * 70000
theorem text_step {xs : List Nat} {at_ n : Int} {k : Nat} {w W : World} {done new : List UInt8} (hk : k < xs.length) (ht : textL xs = done ++ textGo at_ n k (xs.drop k)) (hn : textAt at_ n k xs[k] = new)
    (hB : IsB w.heap.size w.heap.size (Lib.byteCells (done ++ new)) W) (hb : Below w.heap.size w W) (hl : done.length ≤ k * 70000) (hnl : new.length ≤ 70000) :
    TextRel xs at_ n w (.int .i64 ((k : Int) + 1)) W := by
  refine ⟨k + 1, done ++ new, hk, rfl, ?_, hB, hb, by rw [List.length_append]; omega⟩
  rw [ht, List.drop_eq_getElem_cons hk, textGo, hn, List.append_assoc]
  rfl
set_option maxHeartbeats 2000000 in
set_option maxRecDepth 100000 in
theorem text_walk (xs : List Nat) (b c : Nat) (w : World) (hl : xs.length ≤ 8) (h0 : xs ≠ []) (hb : b < w.heap.size) (hp : ∀ x ∈ xs, x ≤ 65535) (hc : ∀ j, j < xs.length → w.cell? ⟨b, j, none⟩ = some (.int .u16 (xs.getD j 0))) :
    Calls Tryd.prog 49 #[.slice (some ⟨b, 0, none⟩) xs.length c] w fun e w' => e = .returned (.string ⟨(textL xs).toArray⟩) ∧ Below w.heap.size w w' := by
  obtain ⟨r1, r2, r3, r4⟩ := runL_bounds xs
  have HT : Hid (textL xs = textGo (runL xs).1 (runL xs).2 0 xs) := Lib.hid rfl
  have HC := Lib.hid hc
  go_enter Tryd.func49, Tryd.ntmps49
  go_wp2_with fail
  refine (run_walk xs b c _ hl hc).mono ?_
  rintro e w1 ⟨rfl, rfl⟩
  generalize (runL xs).1 = at_ at *
  generalize (runL xs).2 = n at *
  clear hc
  go_wp2_with fail
  go_loopw [14] (fun i W => TextRel xs at_ n w i W) (fun i _ => xs.length - (intOf i).toNat)
  case atStart => exact ⟨0, [], Nat.zero_le _, rfl, HT.out, Lib.fresh_isBuilder _ _ _, (Below.refl _ _).alloc (Nat.le_refl _) _, by simp⟩
  case round =>
    obtain ⟨k, done, hk, rfl, ht, hB, hbl, hdl⟩ := hrel
    by_cases hlt : k < xs.length
    · have hpk := hp _ (List.getElem_mem hlt)
      have hwl : w.heap.size ≤ wr.heap.size := hbl.size
      have hcw : wr.cell? ⟨b, k, none⟩ = some (.int .u16 xs[k]) := by
        rw [hbl.cell (p := ⟨b, k, none⟩) hb, HC.out k hlt, List.getD_eq_getElem?_getD, List.getElem?_eq_getElem hlt]; rfl
      have HTT := Lib.hid ht
      have hbc : (Lib.byteCells done).length ≤ 560000 := by rw [Lib.byteCells_length]; omega
      have hhl := hexL_len xs[k]
      generalize hx : xs[k] = x at *
      have HX := Lib.hid hx
      clear ht hx
      by_cases c1 : (k : Int) = at_
      · subst c1
        go_wp2_with fail
        refine (writeString_walk w.heap.size w.heap.size (Lib.byteCells done) ⟨#[58, 58]⟩ _ hB (by simp [ByteArray.size]; omega) hwl).mono ?_
        rintro e w1 ⟨rfl, hA, hb1⟩
        go_wp2_with fail
        refine ⟨text_step hlt HTT.out (new := [58, 58]) (by rw [textAt, if_pos rfl]) (.inr (by rw [Lib.byteCells_append]; exact hA)) (hbl.trans hb1) hdl (by simp), run_meas hlt⟩
      · have e1 : ((k : Int) == at_) = false := beq_eq_false_iff_ne.2 c1
        by_cases c2 : 0 ≤ at_ ∧ at_ < k ∧ (k : Int) < at_ + n
        · obtain ⟨d1, d2, d3⟩ := c2
          go_wp2_with fail
          refine ⟨text_step hlt HTT.out (new := []) (by rw [textAt, if_neg c1, if_pos ⟨d1, d2, d3⟩]) (by simpa using hB) hbl hdl (by simp), run_meas hlt⟩
        · have hN : textAt at_ n k xs[k] = (if 0 < (k : Int) ∧ (k : Int) ≠ at_ + n then [58] else []) ++ hexL x := by rw [textAt, if_neg c1, if_neg c2, HX.out]
          have HN := Lib.hid hN
          clear hN
          have hd : at_ < 0 ∨ (0 ≤ at_ ∧ (k : Int) < at_) ∨ (0 ≤ at_ ∧ at_ < k ∧ at_ + n ≤ k) := by omega
          by_cases c3 : 0 < (k : Int) ∧ (k : Int) ≠ at_ + n
          · obtain ⟨c4, c5⟩ := c3
            have e2 : ((k : Int) != at_ + n) = true := by rw [bne_iff_ne]; exact c5
            clear c2
            rcases hd with d | ⟨d0, d⟩ | ⟨d0, d2, d⟩
            all_goals
              go_wp2_with fail
              refine (writeByte_walk w.heap.size w.heap.size (Lib.byteCells done) 58 _ hB (by omega) hwl).mono ?_
              rintro e w1 ⟨rfl, hA, hb1⟩
              have hcw1 : w1.cell? ⟨b, k, none⟩ = some (.int .u16 x) := by rw [hb1.cell (p := ⟨b, k, none⟩) hb]; exact hcw
              go_wp2_with fail
              refine (hex_walk x hpk _).mono ?_
              rintro e w2 ⟨rfl, hb2⟩
              have hA2 := isB_keep (.inr hA) hb2
              have hs1 := hb1.size
              have hs2 := hb2.size
              go_wp2_with fail
              refine (writeString_walk w.heap.size w.heap.size _ _ _ hA2 (by simp [ByteArray.size]; omega) (by omega)).mono ?_
              rintro e w3 ⟨rfl, hA3, hb3⟩
              go_wp2_with fail
              refine ⟨text_step hlt HTT.out (new := [58] ++ hexL x) (by rw [HN.out, if_pos ⟨c4, c5⟩]) (.inr (by simpa [Lib.byteCells, Lib.strCells] using hA3)) (((hbl.trans hb1).trans (hb2.mono (by omega))).trans hb3) hdl (by simp; omega), run_meas hlt⟩
          · have hd2 : (k : Int) ≤ 0 ∨ (0 < (k : Int) ∧ (k : Int) = at_ + n) := by omega
            rcases hd2 with d4 | ⟨d4, d5⟩
            · rcases hd with d | ⟨d0, d⟩ | ⟨d0, d2, d⟩
              all_goals
                first
                  | (exfalso; omega)
                  | (go_wp2_with fail
                     refine (hex_walk x hpk _).mono ?_
                     rintro e w2 ⟨rfl, hb2⟩
                     have hA2 := isB_keep hB hb2
                     have hs2 := hb2.size
                     go_wp2_with fail
                     refine (writeString_walk w.heap.size w.heap.size _ _ _ hA2 (by simp [ByteArray.size]; omega) (by omega)).mono ?_
                     rintro e w3 ⟨rfl, hA3, hb3⟩
                     go_wp2_with fail
                     refine ⟨text_step hlt HTT.out (new := hexL x) (by rw [HN.out, if_neg c3]; rfl) (.inr (by simpa [Lib.byteCells, Lib.strCells] using hA3)) ((hbl.trans (hb2.mono (by omega))).trans hb3) hdl (by omega), run_meas hlt⟩)
            · have e2 : ((k : Int) != at_ + n) = false := by rw [bne_eq_false_iff_eq]; exact d5
              clear d5
              rcases hd with d | ⟨d0, d⟩ | ⟨d0, d2, d⟩
              all_goals
                first
                  | (exfalso; omega)
                  | (go_wp2_with fail
                     refine (hex_walk x hpk _).mono ?_
                     rintro e w2 ⟨rfl, hb2⟩
                     have hA2 := isB_keep hB hb2
                     have hs2 := hb2.size
                     go_wp2_with fail
                     refine (writeString_walk w.heap.size w.heap.size _ _ _ hA2 (by simp [ByteArray.size]; omega) (by omega)).mono ?_
                     rintro e w3 ⟨rfl, hA3, hb3⟩
                     go_wp2_with fail
                     refine ⟨text_step hlt HTT.out (new := hexL x) (by rw [HN.out, if_neg c3]; rfl) (.inr (by simpa [Lib.byteCells, Lib.strCells] using hA3)) ((hbl.trans (hb2.mono (by omega))).trans hb3) hdl (by omega), run_meas hlt⟩)
    · obtain rfl : k = xs.length := by omega
      rw [List.drop_length, textGo, List.append_nil] at ht
      have hne : done ≠ [] := by
        intro h
        rw [h] at ht
        exact textL_ne h0 ht
      have HTT := Lib.hid ht
      clear ht hlt
      go_wp2_with fail
      refine (builderString_walk w.heap.size w.heap.size done _ hB hne).mono ?_
      rintro e w1 ⟨rfl, hb1⟩
      go_wp2_with fail
      go_returns
      exact ⟨by rw [HTT.out]; rfl, hbl.trans hb1⟩
end Go.Proofs.YtcgdjnmfeibnoaaDoor
/-! SixPrint -/
namespace Go.Proofs.YtcgdjnmfeibnoaaDoor
open Go.RowKit
set_option linter.unusedVariables false
set_option linter.unusedSimpArgs false
/-- The text of an address. -/
def printL (x0 x1 x2 x3 x4 x5 x6 x7 : Int) : List UInt8 := textL [x0.toNat, x1.toNat, x2.toNat, x3.toNat, x4.toNat, x5.toNat, x6.toNat, x7.toNat]
set_option maxHeartbeats 2000000 in
set_option maxRecDepth 100000 in
theorem print_walk (x0 x1 x2 x3 x4 x5 x6 x7 : Int) (h : R8 x0 x1 x2 x3 x4 x5 x6 x7) (w : World) :
    Calls Tryd.prog 17 #[A8 x0 x1 x2 x3 x4 x5 x6 x7] w fun e w' => e = .returned (.string ⟨(printL x0 x1 x2 x3 x4 x5 x6 x7).toArray⟩) ∧ Below w.heap.size w w' := by
  obtain ⟨⟨a0, b0⟩, ⟨a1, b1⟩, ⟨a2, b2⟩, ⟨a3, b3⟩, ⟨a4, b4⟩, ⟨a5, b5⟩, ⟨a6, b6⟩, ⟨a7, b7⟩⟩ := h
  obtain ⟨n0, rfl⟩ := Int.eq_ofNat_of_zero_le a0
  obtain ⟨n1, rfl⟩ := Int.eq_ofNat_of_zero_le a1
  obtain ⟨n2, rfl⟩ := Int.eq_ofNat_of_zero_le a2
  obtain ⟨n3, rfl⟩ := Int.eq_ofNat_of_zero_le a3
  obtain ⟨n4, rfl⟩ := Int.eq_ofNat_of_zero_le a4
  obtain ⟨n5, rfl⟩ := Int.eq_ofNat_of_zero_le a5
  obtain ⟨n6, rfl⟩ := Int.eq_ofNat_of_zero_le a6
  obtain ⟨n7, rfl⟩ := Int.eq_ofNat_of_zero_le a7
  have hT := text_walk [n0, n1, n2, n3, n4, n5, n6, n7] w.heap.size 8 (w.alloc (.cells #[.int .u16 n0, .int .u16 n1, .int .u16 n2, .int .u16 n3, .int .u16 n4, .int .u16 n5, .int .u16 n6, .int .u16 n7] 24))
    (by simp) (by simp) (by simp) (by
      intro x hx
      simp only [List.mem_cons, List.not_mem_nil, or_false] at hx
      omega)
    (by
      intro j hj
      have hb : (w.alloc (.cells #[.int .u16 n0, .int .u16 n1, .int .u16 n2, .int .u16 n3, .int .u16 n4, .int .u16 n5, .int .u16 n6, .int .u16 n7] 24)).heap[w.heap.size]? = some (.cells #[.int .u16 n0, .int .u16 n1, .int .u16 n2, .int .u16 n3, .int .u16 n4, .int .u16 n5, .int .u16 n6, .int .u16 n7] 24 (0, 0)) := heap_alloc_new w _
      rw [Lib.cell_of_heap hb]
      match j, hj with
      | 0, _ => rfl
      | 1, _ => rfl
      | 2, _ => rfl
      | 3, _ => rfl
      | 4, _ => rfl
      | 5, _ => rfl
      | 6, _ => rfl
      | 7, _ => rfl
      | j + 8, hj => exact absurd hj (by simp))
  have HT := Lib.hid hT
  clear hT
  go_enter Tryd.func17, Tryd.ntmps17
  go_wp2_with fail
  refine (HT.out).mono ?_
  rintro e w1 ⟨rfl, hb⟩
  go_wp2_with fail
  go_returns
  exact ⟨rfl, ((Below.refl _ _).alloc (Nat.le_refl _) _).trans (hb.mono (by simp))⟩
theorem revHex_one : revHex 1 = [49] := by rw [revHex_last (by decide)]; rfl
theorem text_one : textL [0, 0, 0, 0, 0, 0, 0, 1] = [58, 58, 49] := by
  unfold textL
  rw [show runL [0, 0, 0, 0, 0, 0, 0, 1] = (0, 7) from by decide]
  simp [textGo, textAt, hexL, revHex_one]
set_option maxHeartbeats 1000000 in
set_option maxRecDepth 100000 in
theorem awake_walk (w : World) : Calls Tryd.prog 12 #[] w fun e w' => e = .returned (.bool true) ∧ Below w.heap.size w w' := by
  go_enter Tryd.func12, Tryd.ntmps12
  go_wp2_with fail
  refine (print_walk 0 0 0 0 0 0 0 1 ⟨by decide, by decide, by decide, by decide, by decide, by decide, by decide, by decide⟩ _).mono ?_
  rintro e w1 ⟨rfl, hb⟩
  rw [show printL 0 0 0 0 0 0 0 1 = [58, 58, 49] from text_one]
  go_wp2_with fail
  go_returns
  exact ⟨rfl, hb⟩
end Go.Proofs.YtcgdjnmfeibnoaaDoor
/-! SixJoins -/
namespace Go.Proofs.YtcgdjnmfeibnoaaDoor
open Go.RowKit Go.Lib Go.Proofs.YtcgdjnmfeibnoaaDoorW.PrintWords
set_option linter.unusedVariables false
set_option linter.unusedSimpArgs false
def ofC (p : Int × Nat) : Pz := ⟨p.1, p.2⟩
theorem pcells_zcs (L : List (Int × Nat)) : pcells L = zcs (L.map ofC) := by
  unfold pcells zcs
  rw [List.flatMap_map]
  rfl
theorem own_max {W : World} {B n : Nat} {e : TypeId} {v : Value} {xs : List Value} (h : W.ownsRow B e 9 v n xs) : n ≤ 9223372036854775807 := by
  rcases h.2 with ⟨_, h0⟩ | ⟨g, cap, cur, _, _, _, hn, hm, _⟩
  · omega
  · exact Nat.le_trans hn (Nat.le_trans hm (by decide))
theorem own_zcs {W : World} {B : Nat} {e : TypeId} {v : Value} {L : List (Int × Nat)} (h : W.ownsRow B e 9 v L.length (pcells L)) : ∃ A c, v = .slice A (L.map ofC).length c ∧ (L.map ofC).length ≤ 9223372036854775807 ∧ RdZ W A (L.map ofC) := by
  have hm := own_max h
  rw [pcells_zcs] at h
  obtain ⟨A, c, e1, _, hR⟩ := rdz_own h (by simp)
  exact ⟨A, c, e1, by simpa using hm, hR⟩
/-- What six.Join and the document's Join answer together. -/
def JR (k : Int) (f : Int) (t : TypeId) (w : World) (e : Ending) (w' : World) (L : List Pz) : Prop := ∃ v, e = .returned (.tuple #[v, .int .i64 k, .int .i64 f]) ∧ (∃ A c, v = .slice A L.length c ∧ L.length ≤ 9223372036854775807 ∧ RdZ w' A L) ∧ Below w.heap.size w w'
theorem joins_all (l : List Pz) (hn : l.length ≤ 1048576) (hw : ∀ x ∈ l, Wide x.a) : ∃ (k f : Int) (L : List Pz), (∀ (A : Option Addr) (c : Nat) (w : World), RdZ w A l → Tab w → 0 < w.heap.size → Calls Tryd.prog 19 #[.slice A l.length c] w fun e w' => JR k f 53 w e w' L) ∧
    (∀ (A : Option Addr) (c : Nat) (w : World), RdZ w A l → Calls Tryd.prog 20 #[.slice A l.length c] w fun e w' => JR k f 61 w e w' L) := by
  by_cases hb : 0 ≤ badZ l
  · refine ⟨badZ l, 211, [], fun A c w hr _ _ => ?_, fun A c w hr => ?_⟩
    · refine (joinZ_bad A c l w hr hn hb).mono ?_
      rintro e w' ⟨rfl, hbw⟩
      exact ⟨_, rfl, ⟨none, 0, rfl, by simp, rdz_nil _ _⟩, hbw⟩
    · refine (refJoinZ_bad A c l w hr hn hb).mono ?_
      rintro e w' ⟨v, rfl, hown, hbw⟩
      obtain ⟨A', c', rfl, _, hR⟩ := rdz_own hown rfl
      exact ⟨_, rfl, ⟨A', c', rfl, by simp, hR⟩, hbw⟩
  · obtain ⟨hb1, hz⟩ := badZ_neg hb
    have hok : okZ l := fun x hx => ⟨hz x hx, hw x hx⟩
    refine ⟨0, 0, (coverJ (joinR [] (l.map rngZ))).map ofC, fun A c w hr hT hg => ?_, fun A c w hr => ?_⟩
    · refine (joinZ_walk A c l w hr hn hb1 hok hT hg).mono ?_
      rintro e w' ⟨v, rfl, hown, hbw⟩
      obtain ⟨A', c', rfl, hm, hR⟩ := own_zcs hown
      exact ⟨_, rfl, ⟨A', c', rfl, hm, hR⟩, hbw⟩
    · refine (refJoinZ_walk A c l w hr hn hok).mono ?_
      rintro e w' ⟨v, rfl, hown, hbw⟩
      obtain ⟨A', c', rfl, hm, hR⟩ := own_zcs hown
      exact ⟨_, rfl, ⟨A', c', rfl, hm, hR⟩, hbw⟩
def BX6 (W : World) (b : Nat) (x0 x1 x2 x3 x4 x5 x6 x7 : Int) : Prop := W.heap[b]? = some (.cells #[.int .u16 x0, .int .u16 x1, .int .u16 x2, .int .u16 x3, .int .u16 x4, .int .u16 x5, .int .u16 x6, .int .u16 x7] 24 (0, 0))
set_option maxHeartbeats 4000000 in
set_option maxRecDepth 100000 in
theorem joins_walk (A : Option Addr) (c : Nat) (l : List Pz) (a0 a1 a2 a3 a4 a5 a6 a7 : Int) (ha : R8 a0 a1 a2 a3 a4 a5 a6 a7) (w : World) (hr : RdZ w A l) (hn : l.length ≤ 1048576) (hw : ∀ x ∈ l, Wide x.a) (hg : 0 < w.heap.size) (hT : Tab w) :
    Calls Tryd.prog 6 #[.slice A l.length c, A8 a0 a1 a2 a3 a4 a5 a6 a7] w fun e w' => e = .returned (.bool true) ∧ Below w.heap.size w w' := by
  obtain ⟨k, f, L, hJ, hRJ⟩ := joins_all l hn hw
  have HJ := Lib.hid hJ
  have HRJ := Lib.hid hRJ
  clear hJ hRJ hw
  have B0 : Below w.heap.size w (w.alloc (.cells #[.int .u16 a0, .int .u16 a1, .int .u16 a2, .int .u16 a3, .int .u16 a4, .int .u16 a5, .int .u16 a6, .int .u16 a7] 24)) := (Below.refl _ _).alloc (Nat.le_refl _) _
  have hk : BX6 (w.alloc (.cells #[.int .u16 a0, .int .u16 a1, .int .u16 a2, .int .u16 a3, .int .u16 a4, .int .u16 a5, .int .u16 a6, .int .u16 a7] 24)) w.heap.size a0 a1 a2 a3 a4 a5 a6 a7 := blk_new _ _
  go_enter Tryd.func6, Tryd.ntmps6
  go_upto_region 1 with fail
  generalize w.alloc (.cells #[.int .u16 a0, .int .u16 a1, .int .u16 a2, .int .u16 a3, .int .u16 a4, .int .u16 a5, .int .u16 a6, .int .u16 a7] 24) = W0 at *
  have HK := Lib.hid hk
  have HB := Lib.hid B0
  have HR := Lib.hid (hr.keep B0)
  have HT := Lib.hid (hT.keep (B := w.heap.size) hg B0)
  have HG := Lib.hid (Nat.lt_of_lt_of_le hg B0.size)
  have HA := Lib.hid ha
  clear hk B0 hr hT hg ha
  go_wp2_with fail
  refine (given_walk l A c _ (by omega) HR.out).mono ?_
  rintro e W1 ⟨vt, rfl, hown, hb1⟩
  obtain ⟨At, ct, rfl, hct, hRt⟩ := rdz_own hown rfl
  have B1 := Lib.hid hb1
  have HRt := Lib.hid hRt
  clear hown hct hRt hb1
  go_wp2_with fail
  refine (HJ.out A c _ (HR.out.keep B1.out) (HT.out.keep (B := W0.heap.size) HG.out B1.out) (Nat.lt_of_lt_of_le HG.out B1.out.size)).mono ?_
  rintro e W2 ⟨vx, rfl, ⟨Ax, cx, rfl, hL, hRx⟩, hb2⟩
  have HL := Lib.hid hL
  have HRx := Lib.hid hRx
  have HRt := Lib.hid (HRt.out.keep hb2)
  have B2 := Lib.hid (below_step B1.out hb2)
  clear hRx hb2 B1 hL
  go_wp2_with fail
  refine (HRJ.out At ct _ HRt.out).mono ?_
  rintro e W3 ⟨vy, rfl, ⟨Ay, cy, rfl, _, hRy⟩, hb3⟩
  have HRy := Lib.hid hRy
  have HRt := Lib.hid (HRt.out.keep hb3)
  have HRx := Lib.hid (HRx.out.keep hb3)
  have B3 := Lib.hid (below_step B2.out hb3)
  have hk3 := blk_below HK.out B3.out
  have c0 := (blk_cell hk3 0).trans (show _ = some (Value.int .u16 a0) from rfl)
  have c1 := (blk_cell hk3 1).trans (show _ = some (Value.int .u16 a1) from rfl)
  have c2 := (blk_cell hk3 2).trans (show _ = some (Value.int .u16 a2) from rfl)
  have c3 := (blk_cell hk3 3).trans (show _ = some (Value.int .u16 a3) from rfl)
  have c4 := (blk_cell hk3 4).trans (show _ = some (Value.int .u16 a4) from rfl)
  have c5 := (blk_cell hk3 5).trans (show _ = some (Value.int .u16 a5) from rfl)
  have c6 := (blk_cell hk3 6).trans (show _ = some (Value.int .u16 a6) from rfl)
  have c7 := (blk_cell hk3 7).trans (show _ = some (Value.int .u16 a7) from rfl)
  have hl := blk_lt hk3
  clear hRy hb3 B2 hk3
  go_wp2_with fail
  refine (has_walk A c l a0 a1 a2 a3 a4 a5 a6 a7 HA.out _ (HR.out.keep B3.out) (by omega)).mono ?_
  rintro e W4 ⟨rfl, hb4⟩
  have HRt := Lib.hid (HRt.out.keep hb4)
  have HRx := Lib.hid (HRx.out.keep hb4)
  have HRy := Lib.hid (HRy.out.keep hb4)
  have B4 := Lib.hid (below_step B3.out hb4)
  have hk4 := blk_below HK.out B4.out
  clear c0 c1 c2 c3 c4 c5 c6 c7 hl hb4 B3
  have c0 := (blk_cell hk4 0).trans (show _ = some (Value.int .u16 a0) from rfl)
  have c1 := (blk_cell hk4 1).trans (show _ = some (Value.int .u16 a1) from rfl)
  have c2 := (blk_cell hk4 2).trans (show _ = some (Value.int .u16 a2) from rfl)
  have c3 := (blk_cell hk4 3).trans (show _ = some (Value.int .u16 a3) from rfl)
  have c4 := (blk_cell hk4 4).trans (show _ = some (Value.int .u16 a4) from rfl)
  have c5 := (blk_cell hk4 5).trans (show _ = some (Value.int .u16 a5) from rfl)
  have c6 := (blk_cell hk4 6).trans (show _ = some (Value.int .u16 a6) from rfl)
  have c7 := (blk_cell hk4 7).trans (show _ = some (Value.int .u16 a7) from rfl)
  have hl := blk_lt hk4
  clear hk4
  go_wp2_with fail
  refine (refHas_walk At ct l a0 a1 a2 a3 a4 a5 a6 a7 HA.out _ HRt.out (by omega)).mono ?_
  rintro e W5 ⟨rfl, hb5⟩
  have HRt := Lib.hid (HRt.out.keep hb5)
  have HRx := Lib.hid (HRx.out.keep hb5)
  have HRy := Lib.hid (HRy.out.keep hb5)
  have B5 := Lib.hid (below_step B4.out hb5)
  clear c0 c1 c2 c3 c4 c5 c6 c7 hl hb5 B4
  generalize (hasV l (V8 a0 a1 a2 a3 a4 a5 a6 a7)).1 = at1
  generalize (hasV l (V8 a0 a1 a2 a3 a4 a5 a6 a7)).2 = ok1
  have hs1 : ∀ w', Below W5.heap.size W5 w' → Calls Tryd.prog 13 #[.slice Ax L.length cx, .slice Ay L.length cy] w' fun e w'' => e = .returned (.bool true) ∧ Below w'.heap.size w' w'' := fun w' hb => sameZ_walk L Ax Ay cx cy w' HL.out (HRx.out.keep hb) (HRy.out.keep hb)
  have hs2 : ∀ w', Below W5.heap.size W5 w' → Calls Tryd.prog 13 #[.slice A l.length c, .slice At l.length ct] w' fun e w'' => e = .returned (.bool true) ∧ Below w'.heap.size w' w'' := fun w' hb => sameZ_walk l A At c ct w' (by omega) (HR.out.keep (below_step B5.out hb)) (HRt.out.keep hb)
  have HS1 := Lib.hid hs1
  have HS2 := Lib.hid hs2
  clear hs1 hs2
  go_wp2_with fail
  refine (awake_walk _).mono ?_
  rintro e W6 ⟨rfl, hb6⟩
  go_wp2_with fail
  refine (HS1.out _ hb6).mono ?_
  rintro e W7 ⟨rfl, hb7⟩
  have B7 := Lib.hid (below_step hb6 hb7)
  clear hb6 hb7
  go_wp2_with fail
  refine (HS2.out _ B7.out).mono ?_
  rintro e W8 ⟨rfl, hb8⟩
  have B8 := Lib.hid (below_step B7.out hb8)
  clear hb8
  go_wp2_with fail
  go_returns
  exact ⟨rfl, below_step HB.out (below_step B5.out B8.out)⟩
end Go.Proofs.YtcgdjnmfeibnoaaDoor
/-! Frame -/
namespace Go.Proofs.YtcgdjnmfeibnoaaDoor
open Go.RowKit Go.WideShapes Go.ChangeShapes Go.ChangeAt
set_option linter.unusedVariables false
set_option linter.unusedSimpArgs false
section
variable {H : Type} {enc : TypeId × Value → H} {P : Program}
theorem law_below {f : Func} {s : ChangeSpec} {apart fresh handsOn again : Bool} {W W' : World} {args : Array Value} {v : Value} {ds gs : List (DataW H)} {before pa pv : List MemPlace}
    (hW : DataW.Whole enc P f.params.toList s.vars apart W args.toList ds gs before)
    (hres : ∀ (b : Nat) (sp : Nat → Bool) (hd : Bool), DataW.TrodAll enc P W' b sp hd f.resultTypes.toList (v.resultList f.resultTypes.size) (s.fn H (ds ++ gs)).results [])
    (hargs : ∀ sp : Nat → Bool, (∀ p ∈ before, sp p.block = true) → DataW.TrodAll enc P W' 0 sp true f.params.toList args.toList (s.fn H (ds ++ gs)).args pa)
    (hvars : ∀ sp : Nat → Bool, (∀ p ∈ before, sp p.block = true) → DataW.TrodVars enc P W' sp s.vars (s.fn H (ds ++ gs)).vars pv)
    (hps : before = pa ++ pv) (hb : Below W.heap.size W W')
    (hok : ∀ (j : Nat) (t : TypeId) (r : Value), f.resultTypes[j]? = some t → (v.resultList f.resultTypes.size)[j]? = some r → Value.okWide P W' .any 0 t r) :
    s.post enc P f apart fresh handsOn again W args v W' := by
  have hlt : ∀ p ∈ before, p.block < W.heap.size := fun p hp => hW.lt p hp
  have hold : ∀ p ∈ before, (fun b => decide (b < W.heap.size)) p.block = true := fun p hp => by simpa using hlt p hp
  refine ⟨ds, gs, before, [], pa, pv, hW, hres _ _ _, hargs _ hold, hvars _ hold, World.keptBut_mono (fun p hp => ⟨hp, ?_⟩) (hb.frame (· ∈ before)), fun _ => ?_⟩
  · rw [hps, List.mem_append] at hp
    exact Or.inr hp
  · obtain ⟨_, _, _, _, _, hz, hn⟩ := hW
    refine ⟨hok, _, _, ([] ++ pa) ++ pv, ⟨[] ++ pa, pv, trodAll_append (hargs _ (fun _ _ => rfl)) (hres _ _ _), hvars _ (fun _ _ => rfl), rfl, ?_, ?_⟩, ?_⟩
    · intro b off hp
      have hin : MemPlace.cell b off ∈ before := by rw [hps]; simpa using hp
      rw [hb.frozen (hlt _ hin)]
      exact hz b off hin
    · intro ha
      have := hn ha
      rw [hps] at this
      simpa using this
    · intro p hp _
      rw [hps]
      simpa using hp
/-- All arguments read as they did, where all stays that was there. -/
theorem args_stay (hl : laidOutB P = true) {W W' : World} (hB : Below W.heap.size W W') {sp : Nat → Bool} :
    ∀ (ts : List TypeId) (vs : List Value) (ds : List (DataW H)) (ps : List MemPlace), (∀ t ∈ ts, P.readableRec t = true ∧ t < P.types.size) → DataW.TrodAll enc P W 0 (fun _ => true) true ts vs ds ps →
      (∀ p ∈ ps, p.block < W.heap.size) → (∀ p ∈ ps, sp p.block = true) → DataW.TrodAll enc P W' 0 sp true ts vs ds ps
  | [], vs, ds, ps, _, h, _, _ => by
    obtain ⟨rfl, rfl, rfl⟩ := trodAll_nil h
    exact trodAll_mk0
  | t :: ts, vs, ds, ps, hr, h, hlt, hs => by
    obtain ⟨v, vs1, d, ds1, a, b, rfl, rfl, rfl, h1, h2⟩ := trodAll_cons h
    have hlt' := hlt
    exact trodAll_cons_mk (WideElems.Trod_stays hl (hr t (by simp)).1 (hr t (by simp)).2 h1 (fun x hx => hB.same (hlt x (by simp [hx]))) (fun x hx => hs x (by simp [hx])))
      (args_stay hl hB ts vs1 ds1 b (fun t ht => hr t (by simp [ht])) h2 (fun p hp => hlt p (by simp [hp])) (fun p hp => hs p (by simp [hp])))
/-- THE STEP OF A LAW's ROW. -/
theorem law_post {f : Func} {s : ChangeSpec} {tb : TypeId} {W W' : World} {args : Array Value} {ds : List (DataW H)} {before : List MemPlace} (hv : s.vars = []) (hfn : s.fn H ds = { results := [.lit (.bool true)], args := ds })
    (hres : f.resultTypes = #[tb]) (hb : P.underlying tb = some .bool) (hl : laidOutB P = true) (hr : ∀ t ∈ f.params.toList, P.readableRec t = true ∧ t < P.types.size)
    (hW : DataW.Whole enc P f.params.toList s.vars false W args.toList ds [] before) (hB : Below W.heap.size W W') : s.post enc P f false true false false W args (.bool true) W' := by
  have hW' := hW
  obtain ⟨p, q, hA, hV, hpq, hfz, hnd⟩ := hW
  have hA : DataW.TrodAll enc P W 0 (fun _ => true) true f.params.toList args.toList ds p := hA
  rw [hv] at hV
  obtain ⟨_, rfl⟩ := trodVars_none hV
  have hlt : ∀ x ∈ before, x.block < W.heap.size := fun x hx => hW'.lt x hx
  subst hpq
  refine law_below (pa := p) (pv := []) hW' ?_ ?_ ?_ (by simp) hB ?_
  · intro b sp hd
    rw [List.append_nil, hfn, hres]
    exact trodAll_cons_mk (shut_bool hb true) trodAll_mk0
  · intro sp hs
    rw [List.append_nil, hfn]
    exact args_stay hl hB _ _ _ _ hr hA (fun x hx => hlt x (by simp [hx])) (fun x hx => hs x (by simp [hx]))
  · intro sp hs
    rw [List.append_nil, hfn, hv]
    rfl
  · exact ok_one hres rfl (okWide_bool_mk hb true)
end
end Go.Proofs.YtcgdjnmfeibnoaaDoor
/-! SixOpen -/
namespace Go.Proofs.YtcgdjnmfeibnoaaDoor
open Go.RowKit Go.WideShapes
set_option linter.unusedVariables false
set_option linter.unusedSimpArgs false
theorem six_cells : Tryd.prog.cellsOf 24 = 8 := by kernel_rfl
theorem six_types : Tryd.prog.cellTypes Tryd.prog.depth 24 = some (List.replicate 8 22) := by kernel_rfl
set_option maxRecDepth 100000 in
theorem u16_open {w : World} {base : Nat} {v : Value} (h : Cell.okWide Tryd.prog w .any base 22 v) : ∃ x : Int, v = .int .u16 x ∧ 0 ≤ x ∧ x ≤ 65535 := by
  unfold Cell.okWide at h
  rw [Tryd.underlying22] at h
  cases v <;> simp [Cell.ok, Tryd.underlying22] at h
  rename_i k n
  obtain ⟨rfl, h1, h2⟩ := h
  exact ⟨n, rfl, by simpa [IntKind.min, IntKind.signed] using h1, by simpa [IntKind.max, IntKind.signed, IntKind.bits] using h2⟩
set_option maxRecDepth 100000 in
theorem six_open {w : World} {base : Nat} {v : Value} (h : Value.okWide Tryd.prog w .any base 24 v) :
    ∃ x0 x1 x2 x3 x4 x5 x6 x7 : Int, v = A8 x0 x1 x2 x3 x4 x5 x6 x7 ∧ R8 x0 x1 x2 x3 x4 x5 x6 x7 := by
  unfold Value.okWide at h
  rw [Tryd.underlying24] at h
  obtain ⟨cs, rfl, hsz, ts, hts, _, hc⟩ := h
  rw [six_cells] at hsz
  rw [six_types] at hts
  obtain rfl := (Option.some.inj hts).symm
  have key : ∀ i, (hi : i < 8) → ∃ x : Int, cs[i]? = some (.int .u16 x) ∧ 0 ≤ x ∧ x ≤ 65535 := by
    intro i hi
    obtain ⟨u, hu, hok⟩ := hc i cs[i] (Array.getElem?_eq_getElem (by omega))
    obtain rfl : u = 22 := List.eq_of_mem_replicate (List.mem_of_getElem? hu)
    obtain ⟨x, hx, h0, h1⟩ := u16_open hok
    exact ⟨x, by rw [Array.getElem?_eq_getElem (by omega), hx], h0, h1⟩
  obtain ⟨x0, e0, a0, b0⟩ := key 0 (by omega)
  obtain ⟨x1, e1, a1, b1⟩ := key 1 (by omega)
  obtain ⟨x2, e2, a2, b2⟩ := key 2 (by omega)
  obtain ⟨x3, e3, a3, b3⟩ := key 3 (by omega)
  obtain ⟨x4, e4, a4, b4⟩ := key 4 (by omega)
  obtain ⟨x5, e5, a5, b5⟩ := key 5 (by omega)
  obtain ⟨x6, e6, a6, b6⟩ := key 6 (by omega)
  obtain ⟨x7, e7, a7, b7⟩ := key 7 (by omega)
  refine ⟨x0, x1, x2, x3, x4, x5, x6, x7, ?_, ⟨⟨a0, b0⟩, ⟨a1, b1⟩, ⟨a2, b2⟩, ⟨a3, b3⟩, ⟨a4, b4⟩, ⟨a5, b5⟩, ⟨a6, b6⟩, ⟨a7, b7⟩⟩⟩
  congr 1
  apply Array.ext_getElem?
  intro i
  match i with
  | 0 => rw [e0]; rfl
  | 1 => rw [e1]; rfl
  | 2 => rw [e2]; rfl
  | 3 => rw [e3]; rfl
  | 4 => rw [e4]; rfl
  | 5 => rw [e5]; rfl
  | 6 => rw [e6]; rfl
  | 7 => rw [e7]; rfl
  | i + 8 => rw [Array.getElem?_eq_none (by omega)]; rfl
end Go.Proofs.YtcgdjnmfeibnoaaDoor
/-! SixOpenL -/
namespace Go.Proofs.YtcgdjnmfeibnoaaDoor
open Go.RowKit Go.WideShapes Go.ChangeShapes Go.ChangeAt
set_option linter.unusedVariables false
set_option linter.unusedSimpArgs false
theorem pfxCells : Tryd.prog.cellsOf 53 = 9 := by kernel_rfl
theorem pfxCells8 : Tryd.prog.cellsOf 24 = 8 := by kernel_rfl
theorem pfxCells1 : Tryd.prog.cellsOf 22 = 1 := by kernel_rfl
theorem pfxCellsI : Tryd.prog.cellsOf 3 = 1 := by kernel_rfl
section
variable {H : Type} {enc : TypeId × Value → H} {W : World} {base : Nat} {sp : Nat → Bool} {held : Bool}
set_option maxRecDepth 100000 in
theorem pfx_trod {n : Nat} {cs : List Value} {y : DataW H × List MemPlace} (h : DataW.trod enc Tryd.prog W base sp held n 53 cs = some y) :
    ∃ x : Pz, cs = zc x ∧ Wide x.a := by
  obtain ⟨y0, y1, m, rfl, hl, h0, h1⟩ := trod_struct2 Tryd.underlying53 h
  rw [pfxCells] at hl
  match cs, hl with
  | [c0, c1, c2, c3, c4, c5, c6, c7, c8], _ =>
    simp only [pfxCells8, pfxCellsI, List.drop_zero, List.drop_succ_cons, List.take_succ_cons, List.take_zero] at h0 h1
    obtain ⟨b, hb, rfl, wb⟩ := DataW.trod_int Tryd.underlying3 h1
    obtain ⟨xs, m', _, _, _, hxl, hx⟩ := DataW.trod_array Tryd.underlying24 h0
    have key : ∀ (i : Nat) (c : Value), i < 8 → [c0, c1, c2, c3, c4, c5, c6, c7][i]? = some c → ∃ a : Int, c = .int .u16 a ∧ 0 ≤ a ∧ a ≤ 65535 := by
      intro i c hi hc
      have e := hx i hi
      rw [List.getElem?_eq_getElem (by omega), pfxCells1, Nat.mul_one] at e
      obtain ⟨a, ha, _, wa⟩ := DataW.trod_int Tryd.underlying22 e
      have e2 : (([c0, c1, c2, c3, c4, c5, c6, c7].drop i).take 1)[0]? = some c := by
        rw [List.getElem?_take, if_pos (by decide), List.getElem?_drop, Nat.add_zero]
        exact hc
      rw [ha] at e2
      obtain rfl := Option.some.inj e2
      simp only [Lit.wf, Bool.and_eq_true, decide_eq_true_eq] at wa
      exact ⟨a, rfl, wa⟩
    obtain ⟨a0, rfl, r0⟩ := key 0 _ (by decide) rfl
    obtain ⟨a1, rfl, r1⟩ := key 1 _ (by decide) rfl
    obtain ⟨a2, rfl, r2⟩ := key 2 _ (by decide) rfl
    obtain ⟨a3, rfl, r3⟩ := key 3 _ (by decide) rfl
    obtain ⟨a4, rfl, r4⟩ := key 4 _ (by decide) rfl
    obtain ⟨a5, rfl, r5⟩ := key 5 _ (by decide) rfl
    obtain ⟨a6, rfl, r6⟩ := key 6 _ (by decide) rfl
    obtain ⟨a7, rfl, r7⟩ := key 7 _ (by decide) rfl
    obtain rfl := (List.cons.inj hb).1
    have hR : R8 a0 a1 a2 a3 a4 a5 a6 a7 := ⟨r0, r1, r2, r3, r4, r5, r6, r7⟩
    refine ⟨⟨V8 a0 a1 a2 a3 a4 a5 a6 a7, b⟩, ?_, v8_wide hR⟩
    obtain ⟨v, hv⟩ : ∃ v, V8 a0 a1 a2 a3 a4 a5 a6 a7 = v := ⟨_, rfl⟩
    rw [hv]
    obtain ⟨rfl, rfl, rfl, rfl, rfl, rfl, rfl, rfl⟩ := pc_of hR hv
    rfl
set_option maxRecDepth 100000 in
theorem pfxs_open {base2 : Nat} {v : Value} {d : DataW H} {ps : List MemPlace} (hval : Value.okWide Tryd.prog W .any base2 25 v) (h : DataW.Trod enc Tryd.prog W base sp held 25 v d ps) :
    ∃ (A : Option Addr) (c : Nat) (l : List Pz), v = .slice A l.length c ∧ RdZ W A l ∧ (∀ x ∈ l, Wide x.a) ∧ (l = [] ∨ ∃ es rest, d = .slice es rest ∧ es.length = l.length) := by
  obtain ⟨a0, len0, cap0, rfl⟩ := okWide_slice Tryd.underlying25 hval
  obtain ⟨fuel, hf⟩ := h
  rcases DataW.trod_slice Tryd.underlying25 hf with ⟨hcs, _⟩ | ⟨a, len, cap, elems, rest, n, _, hcs, hx, hb, hl, hm, hlen, hel, hsp, hns⟩
  · simp [Value.cells] at hcs
    obtain ⟨rfl, rfl, rfl⟩ := hcs
    exact ⟨none, 0, [], rfl, rdz_nil _ _, fun x hx => absurd hx (by simp), .inl rfl⟩
  · simp [Value.cells] at hcs
    obtain ⟨rfl, rfl, rfl⟩ := hcs
    rw [pfxCells] at hel
    have key : ∀ i, i < len0 → ∃ x : Pz, (∀ j, j < 9 → W.cell? ((a.add (i * 9)).add j) = (zc x)[j]?) ∧ Wide x.a := by
      intro i hi
      have he := hel i hi
      rw [List.getElem?_eq_getElem (by omega), Option.bind_eq_some_iff] at he
      obtain ⟨cs, hc, ht⟩ := he
      obtain ⟨x, rfl, hr⟩ := pfx_trod ht
      exact ⟨x, (World.cells?_some hc).2.2, hr⟩
    obtain ⟨l, hll, hlk⟩ : ∃ l : List Pz, l.length = len0 ∧ ∀ i x, l[i]? = some x → (∀ j, j < 9 → W.cell? ((a.add (i * 9)).add j) = (zc x)[j]?) ∧ Wide x.a := by
      have : ∀ m, m ≤ len0 → ∃ l : List Pz, l.length = m ∧ ∀ i x, l[i]? = some x → (∀ j, j < 9 → W.cell? ((a.add (i * 9)).add j) = (zc x)[j]?) ∧ Wide x.a := by
        intro m
        induction m with
        | zero => exact fun _ => ⟨[], rfl, fun i x h => by simp at h⟩
        | succ m ih =>
          intro hm
          obtain ⟨l, e, hk⟩ := ih (by omega)
          obtain ⟨x, hx⟩ := key m (by omega)
          refine ⟨l ++ [x], by simp [e], fun i z hz => ?_⟩
          rcases Nat.lt_or_ge i l.length with hi | hi
          · rw [List.getElem?_append_left hi] at hz
            exact hk i z hz
          · rw [List.getElem?_append_right hi] at hz
            have : i = m := by
              rcases Nat.lt_or_ge (i - l.length) 1 with h | h
              · omega
              · rw [List.getElem?_eq_none (by simpa using h)] at hz; cases hz
            subst this
            rw [e, Nat.sub_self] at hz
            obtain rfl := (Option.some.inj hz)
            exact hx
      exact this len0 (Nat.le_refl _)
    refine ⟨some a, cap0, l, by rw [hll], ?_, fun x hx => ?_, .inr ⟨_, _, congrArg Prod.fst hx, by rw [List.length_map]; omega⟩⟩
    · intro i x hi
      obtain ⟨g, o, s⟩ := a
      have h0 := (hlk i x hi).1
      have hs : s = none := by
        cases s with
        | none => rfl
        | some k =>
          exfalso
          have hl0 : 0 < l.length := by have := (List.getElem?_eq_some_iff.1 hi).1; omega
          obtain ⟨z, hz⟩ : ∃ z, l[0]? = some z := ⟨_, List.getElem?_eq_getElem hl0⟩
          have hc := (hlk 0 z hz).1 0 (by decide)
          simp only [Nat.zero_mul, Addr.add, if_pos] at hc
          rw [show (zc z)[0]? = some (.int .u16 (pc 0 z.a)) from rfl] at hc
          unfold World.cell? at hc
          simp at hc
          split at hc <;> simp at hc
      subst hs
      refine ⟨g, o, rfl, ?_, fun j hj => ?_⟩
      · have hc := h0 0 (by decide)
        rw [show (zc x)[0]? = some (.int .u16 (pc 0 x.a)) from rfl] at hc
        have := World.block_lt_of_cell? W _ hc
        simpa [Addr.add_lit] using this
      · have hc := h0 j hj
        rw [Addr.add_lit, Addr.add_lit] at hc
        rw [← hc, Nat.add_assoc]
    · obtain ⟨i, hi⟩ := List.getElem?_of_mem hx
      exact (hlk i x hi).2
theorem bulk_posZ {H : Type} (d : DataW H) : 1 ≤ Rows.uptoBulk d := by
  cases d with
  | lit l => cases l <;> simp [Rows.uptoBulk]
  | _ => simp [Rows.uptoBulk]
theorem bulk_lenZ {H : Type} : ∀ es : List (DataW H), es.length ≤ Rows.uptoBulkAll es
  | [] => Nat.zero_le _
  | d :: r => by
    rw [Rows.uptoBulkAll, List.length_cons]
    have := bulk_posZ d
    have := bulk_lenZ r
    omega
theorem bulk_sliceZ {l : List Pz} {d : DataW H} {n : Nat} (h : l = [] ∨ ∃ es rest, d = .slice es rest ∧ es.length = l.length) (hb : Rows.uptoBulk d ≤ n) : l.length ≤ n := by
  rcases h with rfl | ⟨es, rest, rfl, e⟩
  · exact Nat.zero_le _
  · rw [Rows.uptoBulk] at hb
    have := bulk_lenZ es
    omega
end
end Go.Proofs.YtcgdjnmfeibnoaaDoor
/-! SixJoinsCard -/
namespace Go.Proofs.YtcgdjnmfeibnoaaDoor.fnSixJoins
open Go.ChangeShapes Go.WideShapes Go.ChangeAt Go.RowKit Go.Proofs.YtcgdjnmfeibnoaaDoor
set_option linter.unusedVariables false
theorem own : ownKnob Tryd.prog.godebug = none := by kernel_rfl
theorem laidOut : laidOutB Tryd.prog = true := by kernel_rfl
theorem tab_of {W : World} (h : laidMetH Tryd.prog Rows.sixJoinsUptoRow.laid W) : Tab W ∧ 0 < W.heap.size := by
  have h1 := laidMetH.filter (fun x => x.1 == "math/bits.deBruijn64tab") h
  rw [show Rows.sixJoinsUptoRow.laid.filter (fun x => x.1 == "math/bits.deBruijn64tab") = [("math/bits.deBruijn64tab", Lib.tabData .u8 (Lib.deBruijn64tab.map fun n : Nat => (n : Int)))] by kernel_rfl] at h1
  have hT : Lib.TabIs Tryd.prog W "math/bits.deBruijn64tab" .u8 (Lib.deBruijn64tab.map fun n : Nat => (n : Int)) := Lib.tabIs_of_head (g := 0) (n := 64) (rest := []) (by kernel_rfl) (by kernel_rfl) Tryd.underlying188 Tryd.underlying5 (by kernel_rfl) (by kernel_rfl) h1
  have hc : Tab W := by
    intro j hj
    have := hT.cell (show Tryd.prog.globalNamed "math/bits.deBruijn64tab" = some 0 by kernel_rfl) j (by simpa using hj)
    rw [this]
    have hj' : j < Lib.deBruijn64tab.length := hj
    simp [hj']
  exact ⟨hc, World.block_lt_of_cell? W _ (hc 0 (by decide))⟩
set_option maxRecDepth 100000 in
theorem contract (H : Type) (enc : TypeId × Value → H) (W : World) (base : Nat) (args : Array Value) (ds gs : List (DataW H)) (before : List MemPlace)
    (hval : ∀ (j : Nat) t v, Tryd.f6.params[j]? = some t → args[j]? = some v → Value.okWide Tryd.prog W .any base t v)
    (hW : DataW.Whole enc Tryd.prog Tryd.f6.params.toList Rows.sixJoinsSpec.vars false W args.toList ds gs before) (hk : Rows.uptoSmall H (ds ++ gs) = true) (hL : laidMetH Tryd.prog Rows.sixJoinsUptoRow.laid W) (hsh : W.ShapedOpen Tryd.prog) :
    Calls Tryd.prog 6 args W fun e W' => ∃ v, e = .returned v ∧ Rows.sixJoinsSpec.post enc Tryd.prog Tryd.f6 false true false false W args v W' := by
  have hW' := hW
  obtain ⟨p, q, hA0, hV, rfl, hfz, hnd⟩ := hW
  have hA : DataW.TrodAll enc Tryd.prog W 0 (fun _ => true) true Tryd.f6.params.toList args.toList ds p := hA0
  rw [Tryd.params6] at hA hval
  obtain ⟨v0, vs0, d0, ds0, p0, q0, hargs, rfl, rfl, h0, r0⟩ := trodAll_cons hA
  obtain ⟨v1, vs1, d1, ds1, p1, q1, rfl, rfl, rfl, h1, r1⟩ := trodAll_cons r0
  obtain ⟨rfl, rfl, rfl⟩ := trodAll_nil r1
  obtain rfl : args = #[v0, v1] := by cases args; simp_all
  obtain ⟨rfl, rfl⟩ := trodVars_none hV
  obtain ⟨A0, c0, l0, rfl, hR0, hw0, hd0⟩ := pfxs_open (hval 0 25 v0 rfl rfl) h0
  obtain ⟨x10, x11, x12, x13, x14, x15, x16, x17, rfl, r1⟩ := six_open (hval 1 24 v1 rfl rfl)
  clear hA0
  have hb : Rows.uptoBulkAll _ ≤ 1048576 := of_decide_eq_true hk
  simp only [Rows.uptoBulkAll, Rows.uptoBulk, List.append_nil] at hb
  have hG := tab_of hL
  refine (joins_walk A0 c0 l0 x10 x11 x12 x13 x14 x15 x16 x17 r1 W hR0 (bulk_sliceZ (n := 1048576) hd0 (by omega)) hw0 hG.2 hG.1).mono fun e W' ⟨he, hg⟩ => ?_
  subst he
  exact ⟨_, rfl, law_post (s := Rows.sixJoinsSpec) (f := Tryd.f6) rfl rfl (tb := 4) rfl Tryd.underlying4 laidOut (by rw [Tryd.params6]; intro t ht; simp at ht; rcases ht with rfl | rfl <;> exact ⟨by kernel_rfl, of_decide_eq_true (by kernel_rfl)⟩) hW' hg⟩
/-- A world for the witness: the settled one, the tables holding what their initialisers lay. -/
noncomputable def laidWorld (os : Os) : World := { World.holding Tryd.prog os ⟨#[], #[], []⟩ with heap := ((World.holding Tryd.prog os ⟨#[], #[], []⟩).heap.modify 0 fun | .cells _ t frozen => .cells ((Lib.deBruijn64tab : List Nat).map fun (z : Nat) => Value.int .u8 z).toArray t frozen | o => o) }
theorem laid_met (os : Os) : laidMet Tryd.prog Rows.sixJoinsUptoRow.laid ((laidWorld os).forCall (fun _ _ => 0) ⟨#[], #[.slice none 0 0, .agg #[.int .u16 0, .int .u16 0, .int .u16 0, .int .u16 0, .int .u16 0, .int .u16 0, .int .u16 0, .int .u16 0]], []⟩).memory :=
  laidMet_of_run' 8 (by kernel_rfl) (by kernel_rfl)
theorem reads (os : Os) {H : Type} (enc : TypeId × Value → H) : ∃ places, DataW.whole enc Tryd.prog ((laidWorld os).forCall (fun _ _ => 0) ⟨#[], #[.slice none 0 0, .agg #[.int .u16 0, .int .u16 0, .int .u16 0, .int .u16 0, .int .u16 0, .int .u16 0, .int .u16 0, .int .u16 0]], []⟩).memory Tryd.f6.params.toList Rows.sixJoinsSpec.vars false (#[.slice none 0 0, .agg #[.int .u16 0, .int .u16 0, .int .u16 0, .int .u16 0, .int .u16 0, .int .u16 0, .int .u16 0, .int .u16 0]] : Array Value).toList 8 = some ([.nil, .agg [.lit (.int .u16 0), .lit (.int .u16 0), .lit (.int .u16 0), .lit (.int .u16 0), .lit (.int .u16 0), .lit (.int .u16 0), .lit (.int .u16 0), .lit (.int .u16 0)]], [], places) :=
  ⟨[], by kernel_rfl⟩
set_option maxRecDepth 100000 in
theorem lifted (os : Os) (started : os.Started) (H : Type) (enc : TypeId × Value → H) (F : Stop.Interp) :
    ReturnsInHanded {} Tryd.checked os 6 .any ((Rows.OpenSpec.upto Rows.sixJoinsSpec).preRow enc Tryd.prog Tryd.f6 Rows.sixJoinsUptoRow.domain false Rows.sixJoinsUptoRow.laid) (((Rows.OpenSpec.upto Rows.sixJoinsSpec).at F).post enc Tryd.prog Tryd.f6 false true false false) := by
  obtain ⟨places, hx⟩ := reads os enc
  refine returnsInHanded_of_row (C := Tryd.checked) (s := Rows.OpenSpec.upto Rows.sixJoinsSpec) own started (by kernel_rfl) Tryd.func6
    (witness_row_at (enc := enc) (C := Tryd.checked) false (laidWorld os) #[.slice none 0 0, .agg #[.int .u16 0, .int .u16 0, .int .u16 0, .int .u16 0, .int .u16 0, .int .u16 0, .int .u16 0, .int .u16 0]] rfl (by kernel_rfl) (by kernel_rfl) (by kernel_rfl)
      (OpenSpec.preRow_of_cond 8 hx (by kernel_rfl) (fun k hk => by cases hk; kernel_rfl) (by kernel_rfl) (laid_met os))) ?_
  intro W base args ds gs before hval hW _ hcond _ hL hsh _
  exact contract H enc W base args ds gs before hval hW (hcond _ rfl) hL hsh
theorem said : Rows.SixJoinsUptoSaid :=
  OpenClaim.holds_of_cond 6 Tryd.f6 rfl rfl rfl rfl rfl rfl rfl ⟨rfl, rfl, rfl, rfl, rfl⟩ rfl rfl rfl rfl rfl (by kernel_rfl) Tryd.func6 (by kernel_rfl)
    (of_decide_eq_true (by kernel_rfl)) (by unfold Func.isWrapper; first | (rw [if_pos (by decide +kernel)]; kernel_rfl) | (rw [if_neg (by decide +kernel)]; exact ⟨rfl, rfl⟩))
    (fun os started H enc _ F => by rw [OpenClaim.pre_eq_preRow]; exact lifted os started H enc F)
/-- No parameter wants a stand-in; the program's own looks are off. -/
theorem plain (f : FuncId) (fn : Func) (hf : Tryd.pinned.checked.prog.funcNamed "postern/posternlaw21.SixJoins" = some f) (hfn : Tryd.pinned.checked.prog.funcs[f]? = some fn) :
    false = Tryd.pinned.checked.prog.looks [] ∧ ∀ (j : Nat) t, fn.params[j]? = some t → Tryd.pinned.checked.prog.wantsStandIn t = false := by
  obtain rfl : f = 6 := Option.some.inj ((show Tryd.prog.funcNamed "postern/posternlaw21.SixJoins" = some 6 by kernel_rfl).symm.trans hf) |>.symm
  obtain rfl : fn = Tryd.f6 := (Option.some.inj (Tryd.func6.symm.trans hfn)).symm
  refine ⟨by kernel_rfl, fun j t ht => ?_⟩
  rw [Tryd.params6] at ht
  have hm := Array.mem_of_getElem? ht
  simp at hm
  rcases hm with rfl | rfl
  · exact (show Tryd.prog.wantsStandIn 25 = false by kernel_rfl)
  · exact (show Tryd.prog.wantsStandIn 24 = false by kernel_rfl)
theorem card : Rows.SixJoinsUptoCardSaid :=
  Claim7.holds_tied_plain_at .later [] _ _ _ _ said (fun _ h => by cases h) (by kernel_rfl) (fun _ h => by cases h) sixJoinsUpto_row_tie rfl ⟨rfl, rfl⟩ (by kernel_rfl) rfl plain (by kernel_rfl)
#print axioms card
end Go.Proofs.YtcgdjnmfeibnoaaDoor.fnSixJoins
