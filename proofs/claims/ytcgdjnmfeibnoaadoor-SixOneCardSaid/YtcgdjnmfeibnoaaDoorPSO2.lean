/- Several texts in one (wip/gen/pack.py): SixParse Builder Hex SixV SixRun SixText SixPrint SixEq SixParses SixPath SixRunV SixBackV SixOneV SixOne Frame SixOneCard. -/
import Derived.Deep.RegionHeld3
import Derived.Laws.CopyOwn
import Derived.Test.YtcgdjnmfeibnoaaDoorPSO1
import Derived.Test.YtcgdjnmfeibnoaaDoorPSO0
import Derived.Laws.BitsLemmas
import Derived.Laws.Externs
import Derived.Laws.IdiomCopy
import Derived.Lib.AppendStr
import Derived.Lib.Builder
import Derived.Lib.Slices
import Derived.Lib.Strings
import Derived.Lib.UnsafeStr
import Derived.Lib.Walk
import Derived.Deep.LoopGhost
import Derived.Laws.MakeOwn
import Derived.Laws.OwnMore
import Derived.Lib.ConvBytes
import Derived.Lib.Hide
import Derived.BigQuiet
import Derived.ChangeKeysEq
import Derived.Deep.QuietTactic
import Derived.Handy
import Derived.ProofKit
import Derived.WalkKit
import Derived.WalkLawsBesides
import Derived.WalkSpells
import Derived.OpenShut
import Derived.ChangeMaps5
import Derived.Deep.DeepHandedRow
import Derived.LaidSub
import Derived.Lib.LaidTab
import Derived.Test.YtcgdjnmfeibnoaaDoorCards
import Derived.Test.YtcgdjnmfeibnoaaDoorTie
/-! SixParse -/
namespace Go.Proofs.YtcgdjnmfeibnoaaDoor
open Go.RowKit Go.Proofs.YtcgdjnmfeibnoaaDoorW.PrintWords
set_option linter.unusedVariables false
set_option linter.unusedSimpArgs false
/-- The result's box is there, and all that was there. -/
structure PB (w w0 W : World) : Prop where
  box : w0.heap[w.heap.size]? = some (.cells (ar8 fun _ => 0) 24 (0, 0))
  below : Below w0.heap.size w0 W
  start : Below w.heap.size w w0
theorem PB.keep {w w0 W W' : World} (h : PB w w0 W) (hb : Below W.heap.size W W') : PB w w0 W' := ⟨h.box, h.below.trans (hb.mono h.below.size), h.start⟩
theorem PB.blk {w w0 W : World} (h : PB w w0 W) : W.heap[w.heap.size]? = some (.cells (ar8 fun _ => 0) 24 (0, 0)) := blk_below h.box h.below
theorem PB.all {w w0 W : World} (h : PB w w0 W) : Below w.heap.size w W := h.start.trans (h.below.mono h.start.size)
/-- What stands at the head of a round over the bytes. -/
def ORel (s : ByteArray) (w w0 : World) (v i : Value) (W : World) : Prop :=
  ∃ (n : Nat) (x : Sc) (l : List St), n ≤ s.size ∧ i = .int .i64 n ∧ statesV s.data.toList [st0] 0 = statesV (s.data.toList.drop n) l n ∧ Sim x l ∧ (∀ y ∈ l, StOk y) ∧ W.ownsRow w0.heap.size 80 6 v l.length (stCs l) ∧ PB w w0 W
/-- What stands at the head of a round over the states. -/
def NRel (W1 : World) (l : List St) (c : Int) (v k : Value) (W : World) : Prop :=
  ∃ n : Nat, n ≤ l.length ∧ k = .int .i64 n ∧ W.ownsRow W1.heap.size 80 6 v ((l.take n).flatMap (nextP · c)).length (stCs ((l.take n).flatMap (nextP · c))) ∧ Below W1.heap.size W1 W
theorem sim_len {x : Sc} {l : List St} (h : Sim x l) : l.length ≤ 2 := by cases h <;> simp
theorem next_len (x : St) (c : Int) : (nextP x c).length ≤ 2 := by
  have hb : (beginP x c).length ≤ 2 := by unfold beginP; rw [List.length_append]; repeat' split; all_goals simp
  unfold nextP
  repeat' split
  all_goals first | exact hb | simp
theorem flat_len (l : List St) (c : Int) : (l.flatMap (nextP · c)).length ≤ 2 * l.length := by
  induction l with
  | nil => simp
  | cons x l ih =>
    have := next_len x c
    rw [List.flatMap_cons, List.length_append, List.length_cons]
    omega
theorem ld8a {W : World} {b : Nat} {f : Nat → Int} (h : W.heap[b]? = some (.cells (ar8 f) 24 (0, 0))) : (loadVar 24 ⟨b, 0, none⟩).run Tryd.prog W = .ok (.agg (ar8 f)) W :=
  run_loadVar_row _ _ 24 24 _ (0, 0) _ h Tryd.underlying24 rfl (by kernel_rfl)
theorem parsed_of {s : ByteArray} {w W : World} {f F : Nat → Int} {a b : Int} (h : parseP s.data.toList = (F, a, b)) (hf : ∀ j, j < 8 → f j = F j) (hb : Below w.heap.size w W) : RefParsed s w (.returned (.tuple #[.agg (ar8 f), .int .i64 a, .int .i64 b])) W := by
  obtain ⟨h1, h2⟩ := parse_same s.data.toList
  rw [h] at h1 h2
  exact ⟨f, by rw [← h2], fun j hj => (hf j hj).trans (h1 j hj), hb⟩
theorem cut2_len (l : List UInt8) : (cut2 l).1.length ≤ l.length ∧ (cut2 l).2.1.length ≤ l.length := by
  induction l with
  | nil => exact ⟨Nat.le_refl _, Nat.le_refl _⟩
  | cons a l ih =>
    rw [cut2]
    split
    · exact ⟨Nat.zero_le _, by simp; omega⟩
    · exact ⟨by simp only [List.length_cons]; omega, by simp only [List.length_cons]; omega⟩
def off8 (n : Nat) : Nat := if n = 0 then 0 else 8 - n
theorem slice8 (b : Nat) : ∀ n : Nat, n ≤ 8 → ∀ W : World, (Instr.sliceAt 24 (.pointer (some ⟨b, 0, none⟩)) (some (.int .i64 (8 - (n : Int)))) none none).run Tryd.prog W = .ok (.slice (some ⟨b, off8 n, none⟩) n n) W
  | 0, _ => fun W => by kernel_rfl
  | 1, _ => fun W => by kernel_rfl
  | 2, _ => fun W => by kernel_rfl
  | 3, _ => fun W => by kernel_rfl
  | 4, _ => fun W => by kernel_rfl
  | 5, _ => fun W => by kernel_rfl
  | 6, _ => fun W => by kernel_rfl
  | 7, _ => fun W => by kernel_rfl
  | 8, _ => fun W => by kernel_rfl
  | n + 9, h => absurd h (by omega)
/-- The row behind both copies. -/
theorem rows_out {F B : List Int} (h : F.length + B.length ≤ 8) : splice (splice (List.replicate 8 (Value.int .u16 0)) 0 (F.map (Value.int .u16))) (8 - B.length) (B.map (Value.int .u16)) = (ar8 (outOf F B)).toList := by
  have e : (ar8 (outOf F B)).toList = (List.range 8).map fun j => Value.int .u16 (outOf F B j) := rfl
  rw [e]
  apply List.ext_getElem?
  intro j
  rw [List.getElem?_map]
  by_cases hj : j < 8
  · rw [List.getElem?_range hj]
    show _ = some (Value.int .u16 (outOf F B j))
    have hl : (splice (List.replicate 8 (Value.int .u16 0)) 0 (F.map (Value.int .u16))).length = 8 := by rw [length_splice _ _ _ (by simp; omega)]; simp
    unfold outOf
    by_cases hB : 8 - B.length ≤ j
    · rw [if_pos hB]
      unfold splice
      rw [List.getElem?_append_right (by rw [List.length_take]; simp; omega)]
      have hk : j - (8 - B.length) < B.length := by omega
      rw [List.length_take]
      rw [show min (8 - B.length) (List.take 0 (List.replicate 8 (Value.int .u16 0)) ++ (List.map (Value.int .u16) F ++ List.drop (0 + (List.map (Value.int .u16) F).length) (List.replicate 8 (Value.int .u16 0)))).length = 8 - B.length from by simp; omega]
      rw [List.getElem?_append_left (by rw [List.length_map]; exact hk), List.getElem?_map, List.getElem?_eq_getElem hk, List.getD_eq_getElem?_getD, List.getElem?_eq_getElem hk]
      rfl
    · rw [if_neg hB]
      generalize hsp : splice (List.replicate 8 (Value.int .u16 0)) 0 (F.map (Value.int .u16)) = R at *
      have hR : R = F.map (Value.int .u16) ++ List.replicate (8 - F.length) (Value.int .u16 0) := by
        rw [← hsp]
        show List.take 0 _ ++ (F.map (Value.int .u16) ++ List.drop (0 + (F.map (Value.int .u16)).length) (List.replicate 8 (Value.int .u16 0))) = _
        rw [List.drop_replicate, List.length_map, Nat.zero_add]
        rfl
      unfold splice
      rw [List.getElem?_append_left (by rw [List.length_take]; omega), List.getElem?_take, if_pos (by omega), hR]
      by_cases hF : j < F.length
      · rw [List.getElem?_append_left (by rw [List.length_map]; exact hF), List.getElem?_map, List.getElem?_eq_getElem hF, List.getD_eq_getElem?_getD, List.getElem?_eq_getElem hF]
        rfl
      · rw [List.getElem?_append_right (by rw [List.length_map]; omega), List.length_map, List.getElem?_replicate, if_pos (by omega), List.getD_eq_getElem?_getD, List.getElem?_eq_none (by omega)]
        rfl
  · rw [List.getElem?_eq_none (by
      rw [length_splice _ _ _ (by rw [length_splice _ _ _ (by simp; omega), List.length_map]; simp; omega), length_splice _ _ _ (by simp; omega)]
      simp
      omega), List.getElem?_eq_none (by simp; omega)]
    rfl
/-- Pieces that lie in a row. -/
def Cells16 (W : World) (A : Option Addr) (l : List Int) : Prop := 0 < l.length → ∃ ad, A = some ad ∧ ∀ j v, (l.map (Value.int .u16))[j]? = some v → W.cell? (ad.add j) = some v
theorem written_walk (t : ByteArray) (ht : t.size ≤ 4294967280) (w : World) (hG : GW w) : Calls Tryd.prog 46 #[.string t] w fun e w' => ∃ A c, e = .returned (.slice A (writtenV t.data.toList).length c) ∧ Cells16 w' A (writtenV t.data.toList) ∧ Below w.heap.size w w' := by
  obtain ⟨k, hk⟩ := (written_ev t ht).rounds
  refine (Go.Proofs.YtcgdjnmfeibnoaaDoor.X.six_written.calls k t _ w hG hk).mono ?_
  rintro e w' ⟨v, rfl, hR, hb⟩
  obtain ⟨A, c, rfl, _, hC⟩ := Kd.R_reads hR
  refine ⟨A, c, rfl, ?_, hb⟩
  intro hpos
  obtain ⟨ad, hA, _⟩ := Kd.at_int hC 0 (Int.le_refl _) (by omega)
  refine ⟨ad, hA, fun j v hv => ?_⟩
  have hj := (List.getElem?_eq_some_iff.1 hv).1
  rw [List.length_map] at hj
  obtain ⟨ad', hA', hc⟩ := Kd.at_int hC (j : Int) (by omega) (by omega)
  obtain rfl : ad = ad' := Option.some.inj (hA.symm.trans hA')
  rw [Int.toNat_natCast] at hc
  rw [hc]
  rw [List.getElem?_map, List.getElem?_eq_getElem hj] at hv
  rw [← Option.some.inj hv]
  unfold rd
  rw [Int.toNat_natCast, List.getD_eq_getElem?_getD, List.getElem?_eq_getElem hj]
  rfl
theorem cut_walk (s : ByteArray) (hs : s.size ≤ 4294967280) (w : World) (hG : GW w) : Calls Tryd.prog 45 #[.string s, .string ⟨#[58, 58]⟩] w fun e w' => e = .returned (.tuple #[.string (BA (cut2 s.data.toList).1), .string (BA (cut2 s.data.toList).2.1), .bool (cut2 s.data.toList).2.2]) ∧ Below w.heap.size w w' := by
  refine (strings_Cut.calls s ⟨#[58, 58]⟩ (BA (cut2 s.data.toList).1) (BA (cut2 s.data.toList).2.1) (cut2 s.data.toList).2.2 w hG ?_).mono fun e w' ⟨h1, h2⟩ => ⟨h1, h2.below⟩
  unfold strings_Cut.f
  rw [if_pos (.inl (by omega)), ← cut_58]
  rfl
set_option maxHeartbeats 4000000 in
set_option maxRecDepth 100000 in
theorem parse_walk (s : ByteArray) (hs : s.size ≤ 9223372036854775807) (w : World) (hG : GW w) : Calls Tryd.prog 15 #[.string s] w (RefParsed s w) := by
  have HZ := Lib.hid (size_len s)
  have HG := Lib.hid hG
  clear hG
  obtain ⟨i0, hi0, hz0, hz1, hz2⟩ := st_info
  have HI := Lib.hid hi0
  have HZ0 := Lib.hid hz0
  have HZ1 := Lib.hid hz1
  have HZ2 := Lib.hid hz2
  clear hi0 hz0 hz1 hz2
  go_enter Tryd.func15, Tryd.ntmps15
  go_upto_region 1 with fail
  have hPB : PB w (w.alloc (.cells #[.int .u16 0, .int .u16 0, .int .u16 0, .int .u16 0, .int .u16 0, .int .u16 0, .int .u16 0, .int .u16 0] 24)) (w.alloc (.cells #[.int .u16 0, .int .u16 0, .int .u16 0, .int .u16 0, .int .u16 0, .int .u16 0, .int .u16 0, .int .u16 0] 24)) := ⟨blk_new _ _, Below.refl _ _, (Below.refl _ _).alloc (Nat.le_refl _) _⟩
  generalize w.alloc (.cells #[.int .u16 0, .int .u16 0, .int .u16 0, .int .u16 0, .int .u16 0, .int .u16 0, .int .u16 0, .int .u16 0] 24) = w0 at *
  go_wp2_with fail
  go_loopw [5, 19] (fun v i W => ORel s w w0 v i W) (fun v i _ => s.size - (intOf i).toNat)
  case atStart =>
    refine ⟨0, sc0, [st0], Nat.zero_le _, rfl, rfl, sim0, fun y hy => by rw [List.mem_singleton.1 hy]; exact st0_ok, ?_, hPB.keep ((Below.refl _ _).alloc (Nat.le_refl _) _)⟩
    exact World.ownsRow_lit (base := w0.heap.size) (size := 6) (e := 80) w0 #[.int .i64 0, .int .i64 0, .bool false, .int .i64 0, .int .i64 0, .int .i64 0] 1 (Nat.le_refl _) (by unfold maxLen; omega) rfl
  case round =>
    obtain ⟨n, x, l, hn, rfl, hsv, hS, hok, hown, hP⟩ := hrel
    have hne := hS.ne
    have hl2 := sim_len hS
    obtain ⟨g, cap, rfl, hg0, hg1⟩ := own_head hown hne
    by_cases hlt : n < s.size
    · have hz := HZ.out
      have hd : s.data.toList.drop n = s[n] :: s.data.toList.drop (n + 1) := List.drop_eq_getElem_cons (by omega)
      rw [hd, statesV] at hsv
      have hst := step_sim hS ((s[n].toNat : Nat) : Int)
      have c1 : ((s[n].toNat : Nat) : Int) < 256 := by have := s[n].toNat_lt; omega
      have hltI : (n : Int) < s.size := by omega
      have HSV := Lib.hid hsv
      have HST := Lib.hid hst
      have HOK := Lib.hid hok
      have HOW := Lib.hid hown
      have HNE := Lib.hid hne
      clear hsv hst hok hown hd hz hne
      obtain ⟨W1, rfl⟩ : ∃ W, W = wr := ⟨_, rfl⟩
      go_wp2_with fail
      go_loopw [7, 24] (fun v k W => NRel W1 l ((s[n].toNat : Nat) : Int) v k W) (fun v k _ => l.length - (intOf k).toNat)
      case atStart => exact ⟨0, Nat.zero_le _, rfl, own_nil _ _ _ _, Below.refl _ _⟩
      case round =>
        obtain ⟨k, hk, rfl, hrow, hbi⟩ := hrel
        have HROW := Lib.hid hrow
        have hle := hbi.size
        clear hrow
        by_cases hkl : k < l.length
        · obtain ⟨y, ey⟩ : ∃ y, y = l[k] := ⟨_, rfl⟩
          have cell : ∀ (i : Nat) (u : Value), (stC y)[i]? = some u → wr.cell? ⟨g, k * 6 + i, none⟩ = some u := fun i u h => (hbi.cell (p := ⟨g, k * 6 + i, none⟩) hg1).trans (own_state HOW.out k hkl i u (by rw [← ey]; exact h))
          have c0 : wr.cell? ⟨g, k * 6, none⟩ = some (.int .i64 y.wh) := cell 0 _ rfl
          have c1' := cell 1 _ rfl
          have c2 := cell 2 _ rfl
          have c3 := cell 3 _ rfl
          have c4 := cell 4 _ rfl
          have c5 := cell 5 _ rfl
          have hyo := HOK.out y (by rw [ey]; exact List.getElem_mem _)
          have HYO := Lib.hid hyo
          have EY := Lib.hid ey
          have hgl : g < wr.heap.size := by omega
          clear ey hyo cell
          go_wp2_with fail
          have hbk : (wr.alloc (.cells #[.int .i64 y.wh, .int .i64 y.pc, .bool y.gap, .int .i64 y.dg, .int .i64 y.nu, .int .i64 y.va] 80)).heap[wr.heap.size]? = some (.cells #[.int .i64 y.wh, .int .i64 y.pc, .bool y.gap, .int .i64 y.dg, .int .i64 y.nu, .int .i64 y.va] 80 (0, 0)) := blk_new _ _
          have HROW2 := Lib.hid (HROW.out.alloc (.cells #[.int .i64 y.wh, .int .i64 y.pc, .bool y.gap, .int .i64 y.dg, .int .i64 y.nu, .int .i64 y.va] 80))
          have hbw : Below W1.heap.size W1 (wr.alloc (.cells #[.int .i64 y.wh, .int .i64 y.pc, .bool y.gap, .int .i64 y.dg, .int .i64 y.nu, .int .i64 y.va] 80)) := hbi.alloc hle _
          have hlk := blk_lt hbk
          have hnb : u7.ownBlock ≠ some wr.heap.size := fun e => Nat.lt_irrefl _ (HROW.out.lt _ e).2
          have HNB := Lib.hid hnb
          clear hnb
          generalize wr.heap.size = b at *
          generalize wr.alloc (.cells #[.int .i64 y.wh, .int .i64 y.pc, .bool y.gap, .int .i64 y.dg, .int .i64 y.nu, .int .i64 y.va] 80) = WA at *
          have hle2 := hbw.size
          clear c0 c1' c2 c3 c4 c5
          have d0 : WA.cell? ⟨b, 0, none⟩ = some (.int .i64 y.wh) := (blk_cell hbk 0).trans rfl
          have d1 : WA.cell? ⟨b, 1, none⟩ = some (.int .i64 y.pc) := (blk_cell hbk 1).trans rfl
          have d2 : WA.cell? ⟨b, 2, none⟩ = some (.bool y.gap) := (blk_cell hbk 2).trans rfl
          have d3 : WA.cell? ⟨b, 3, none⟩ = some (.int .i64 y.dg) := (blk_cell hbk 3).trans rfl
          have d4 : WA.cell? ⟨b, 4, none⟩ = some (.int .i64 y.nu) := (blk_cell hbk 4).trans rfl
          have d5 : WA.cell? ⟨b, 5, none⟩ = some (.int .i64 y.va) := (blk_cell hbk 5).trans rfl
          clear hbk
          have hlen := flat_len (l.take k) ((s[n].toNat : Nat) : Int)
          have hnl := next_len y ((s[n].toNat : Nat) : Int)
          have hlk2 : (l.take k).length ≤ 2 := by rw [List.length_take]; omega
          generalize hrows : (l.take k).flatMap (nextP · ((s[n].toNat : Nat) : Int)) = rows at *
          generalize hnews : nextP y ((s[n].toNat : Nat) : Int) = news at *
          have HROWS := Lib.hid hrows
          have HNEWS := Lib.hid hnews
          clear hrows
          have HN : Hid (∀ W, Calls Tryd.prog 42 #[stV y, .int .u8 ((s[n].toNat : Nat) : Int)] W (StRow W news)) := Lib.hid (fun W => by rw [← hnews]; exact next_walk y HYO.out.w0 HYO.out.w6 HYO.out.p0 (by have := HYO.out.p8; omega) HYO.out.d0 HYO.out.n0 HYO.out.v0 (by have := HYO.out.v1; omega) _ (by omega) c1 W)
          clear hnews
          go_region_held3 (fun w' => w'.cell? ⟨b, 0, none⟩ = some (.int .i64 y.wh) ∧ w'.cell? ⟨b, 1, none⟩ = some (.int .i64 y.pc) ∧ w'.cell? ⟨b, 2, none⟩ = some (.bool y.gap) ∧ w'.cell? ⟨b, 3, none⟩ = some (.int .i64 y.dg) ∧ w'.cell? ⟨b, 4, none⟩ = some (.int .i64 y.nu) ∧ w'.cell? ⟨b, 5, none⟩ = some (.int .i64 y.va))
            (first | go_keep | (go_split_ands; refine ⟨?_, ?_, ?_, ?_, ?_, ?_⟩ <;> (rw [hgrow.cell_far _ (Nat.lt_of_lt_of_le hlk hb3.size) (Ne.symm HNB.out)]; assumption)))
            (first
              | (go_at_call 42
                 refine (HN.out _).mono ?_
                 rintro e w3 ⟨u, rfl, ho3, hb3⟩
                 have hcc : ∀ (q o : Nat), q < WA.heap.size → w3.cell? ⟨q, o, none⟩ = WA.cell? ⟨q, o, none⟩ := fun q o h => hb3.cell (p := ⟨q, o, none⟩) h)
              | (revert hb3
                 intro hb3
                 refine step_app_row (by rfl) (.tmp 28) (.tmp 33) 81 (by rfl) W1.heap.size 80 i0 (.agg #[.int .i64 0, .int .i64 0, .bool false, .int .i64 0, .int .i64 0, .int .i64 0]) 6 48 Tryd.underlying81 HI.out HZ0.out HZ1.out HZ2.out rfl (by decide) u7 rows.length (stCs rows) (by rfl) (own_belowS HROW2.out.drew hb3) u WA.heap.size news.length (stCs news) (by rfl) ho3 (stCs_one _) (by unfold maxLen; omega) (by omega) (Nat.le_trans hle2 hb3.size) ?_
                 intro v4 w4 hown4 hbel4 hgrow))
          rename_i hHeld
          clear hHeld
          go_wp2_with fail
          have hnow : (l.take (k + 1)).flatMap (nextP · ((s[n].toNat : Nat) : Int)) = rows ++ news := by
            rw [List.take_succ_eq_append_getElem hkl, List.flatMap_append, HROWS.out, ← EY.out]
            show rows ++ (nextP y ((s[n].toNat : Nat) : Int) ++ []) = _
            rw [List.append_nil, HNEWS.out]
          refine ⟨⟨k + 1, by omega, by go_num, ?_, hbel4 _ _ (Nat.le_refl _) ((bdn hbw 1).trans (hb3.mono hle2))⟩, ?_⟩
          · rw [hnow, List.length_append, stCs_app]
            exact hown4
          · simp [intOf]; omega
        · obtain rfl : k = l.length := by omega
          have hP2 := hP.keep hbi
          have hrow := HROW.out
          rw [List.take_length] at hrow
          obtain ⟨L, hL⟩ : ∃ L, L = l.flatMap (nextP · ((s[n].toNat : Nat) : Int)) := ⟨_, rfl⟩
          rw [← hL] at hrow
          have HL := Lib.hid hL
          clear hL HROW
          obtain ⟨A, cc, rfl⟩ := own_slice hrow
          have HR2 := Lib.hid hrow
          have hP3 := Lib.hid hP2
          have hb2 := hP2.blk
          clear hrow hP2
          by_cases hLn : L = []
          · subst hLn
            have y0 : wr.cell? ⟨w.heap.size, 0, none⟩ = some (.int .u16 0) := (blk_cell hb2 0).trans rfl
            have v0 : wr.frozen? ⟨w.heap.size, 0, none⟩ = false := blk_frozen hb2 0
            have y1 : wr.cell? ⟨w.heap.size, 1, none⟩ = some (.int .u16 0) := (blk_cell hb2 1).trans rfl
            have v1 : wr.frozen? ⟨w.heap.size, 1, none⟩ = false := blk_frozen hb2 1
            have y2 : wr.cell? ⟨w.heap.size, 2, none⟩ = some (.int .u16 0) := (blk_cell hb2 2).trans rfl
            have v2 : wr.frozen? ⟨w.heap.size, 2, none⟩ = false := blk_frozen hb2 2
            have y3 : wr.cell? ⟨w.heap.size, 3, none⟩ = some (.int .u16 0) := (blk_cell hb2 3).trans rfl
            have v3 : wr.frozen? ⟨w.heap.size, 3, none⟩ = false := blk_frozen hb2 3
            have y4 : wr.cell? ⟨w.heap.size, 4, none⟩ = some (.int .u16 0) := (blk_cell hb2 4).trans rfl
            have v4 : wr.frozen? ⟨w.heap.size, 4, none⟩ = false := blk_frozen hb2 4
            have y5 : wr.cell? ⟨w.heap.size, 5, none⟩ = some (.int .u16 0) := (blk_cell hb2 5).trans rfl
            have v5 : wr.frozen? ⟨w.heap.size, 5, none⟩ = false := blk_frozen hb2 5
            have y6 : wr.cell? ⟨w.heap.size, 6, none⟩ = some (.int .u16 0) := (blk_cell hb2 6).trans rfl
            have v6 : wr.frozen? ⟨w.heap.size, 6, none⟩ = false := blk_frozen hb2 6
            have y7 : wr.cell? ⟨w.heap.size, 7, none⟩ = some (.int .u16 0) := (blk_cell hb2 7).trans rfl
            have v7 : wr.frozen? ⟨w.heap.size, 7, none⟩ = false := blk_frozen hb2 7
            go_wp2_with fail
            try simp only [Exit.inBlock, Exit.then]
            refine bodyPost_ret (results_cell3 rfl rfl (ld8a (blk_put8 hb2 (fun _ => 0)))) rfl ?_
            refine parsed_of (f := fun _ => 0) (F := fun _ => 0) (a := n) (b := 210) ?_ (fun _ _ => rfl) (below_put8 hP3.out.all (Nat.le_refl _) _ _ _ _ _ _ _ _)
            unfold parseP
            rw [HSV.out, ← HL.out, if_pos rfl]
          · have hLl : L.length ≠ 0 := fun e => hLn (List.eq_nil_of_length_eq_zero e)
            have hL0 : (L.length == 0) = false := beq_eq_false_iff_ne.2 hLl
            go_wp2_with fail
            refine ⟨⟨n + 1, x.step ((s[n].toNat : Nat) : Int), L, by omega, by go_num, by rw [HSV.out, ← HL.out, if_neg hLn], ?_, ?_, own_base HR2.out hP.below.size, hP3.out⟩, by simp [intOf]; omega⟩
            · rcases HST.out with q | q
              · exact absurd (HL.out.trans q.2) hLn
              · rw [HL.out]; exact q.2
            · rw [HL.out]; exact all_ok HOK.out _
    · obtain rfl : n = s.size := by omega
      have hz := HZ.out
      have hsv' : statesV s.data.toList [st0] 0 = .inr l := hsv.trans (by rw [List.drop_of_length_le (by omega)]; rfl)
      have HSV := Lib.hid hsv'
      have HAC := Lib.hid (any_walk g cap w0.heap.size l wr hne (by omega) hown)
      clear hsv hsv' hown hz hok hlt
      go_wp2_with fail
      refine HAC.out.mono ?_
      rintro e w2 ⟨rfl, hb2⟩
      have hP2 := hP.keep hb2
      generalize hany : l.any endsP = any at *
      have HANY := Lib.hid hany
      clear hany HAC hb2
      cases any
      · have hk2 := hP2.blk
        have y0 : w2.cell? ⟨w.heap.size, 0, none⟩ = some (.int .u16 0) := (blk_cell hk2 0).trans rfl
        have v0 : w2.frozen? ⟨w.heap.size, 0, none⟩ = false := blk_frozen hk2 0
        have y1 : w2.cell? ⟨w.heap.size, 1, none⟩ = some (.int .u16 0) := (blk_cell hk2 1).trans rfl
        have v1 : w2.frozen? ⟨w.heap.size, 1, none⟩ = false := blk_frozen hk2 1
        have y2 : w2.cell? ⟨w.heap.size, 2, none⟩ = some (.int .u16 0) := (blk_cell hk2 2).trans rfl
        have v2 : w2.frozen? ⟨w.heap.size, 2, none⟩ = false := blk_frozen hk2 2
        have y3 : w2.cell? ⟨w.heap.size, 3, none⟩ = some (.int .u16 0) := (blk_cell hk2 3).trans rfl
        have v3 : w2.frozen? ⟨w.heap.size, 3, none⟩ = false := blk_frozen hk2 3
        have y4 : w2.cell? ⟨w.heap.size, 4, none⟩ = some (.int .u16 0) := (blk_cell hk2 4).trans rfl
        have v4 : w2.frozen? ⟨w.heap.size, 4, none⟩ = false := blk_frozen hk2 4
        have y5 : w2.cell? ⟨w.heap.size, 5, none⟩ = some (.int .u16 0) := (blk_cell hk2 5).trans rfl
        have v5 : w2.frozen? ⟨w.heap.size, 5, none⟩ = false := blk_frozen hk2 5
        have y6 : w2.cell? ⟨w.heap.size, 6, none⟩ = some (.int .u16 0) := (blk_cell hk2 6).trans rfl
        have v6 : w2.frozen? ⟨w.heap.size, 6, none⟩ = false := blk_frozen hk2 6
        have y7 : w2.cell? ⟨w.heap.size, 7, none⟩ = some (.int .u16 0) := (blk_cell hk2 7).trans rfl
        have v7 : w2.frozen? ⟨w.heap.size, 7, none⟩ = false := blk_frozen hk2 7
        go_wp2_with fail
        try simp only [Exit.inBlock, Exit.then]
        refine bodyPost_ret (results_cell3 rfl rfl (ld8a (blk_put8 hk2 (fun _ => 0)))) rfl ?_
        refine parsed_of (f := fun _ => 0) (F := fun _ => 0) (a := s.size) (b := 210) ?_ (fun _ _ => rfl) (below_put8 hP2.all (Nat.le_refl _) _ _ _ _ _ _ _ _)
        unfold parseP
        rw [HSV.out]
        simp only
        rw [HANY.out, if_neg (by decide), HZ.out]
      · have hfit := parse_fits s.data.toList l HSV.out HANY.out
        have hcl := cut2_len s.data.toList
        have hzz := HZ.out
        have hshort := parse_short HSV.out
        have hs' : s.size ≤ 65 := by omega
        have HCUT := Lib.hid (cut_walk s (by omega) w2 (HG.out.keep hP2.all))
        have HPV : Hid (parseP s.data.toList = (outOf (writtenV (cut2 s.data.toList).1) (writtenV (cut2 s.data.toList).2.1), 0, 0)) := Lib.hid (by
          unfold parseP
          rw [HSV.out]
          simp only
          rw [HANY.out, if_pos rfl])
        have hW1 := fun w hG => written_walk (BA (cut2 s.data.toList).1) (by rw [ba_size]; omega) w hG
        have hW2 := fun w hG => written_walk (BA (cut2 s.data.toList).2.1) (by rw [ba_size]; omega) w hG
        rw [ba_list] at hW1 hW2
        generalize (cut2 s.data.toList).1 = front at *
        generalize (cut2 s.data.toList).2.1 = back at *
        generalize (cut2 s.data.toList).2.2 = found at *
        generalize writtenV front = F at *
        generalize writtenV back = B at *
        have HW1 := Lib.hid hW1
        have HW2 := Lib.hid hW2
        clear hW1 hW2 hzz hcl
        go_wp2_with fail
        refine HCUT.out.mono ?_
        rintro e w3 ⟨rfl, hb3⟩
        have hP3 := hP2.keep hb3
        clear hb3 HCUT
        go_wp2_with fail
        have hP4 := hP3.keep ((Below.refl _ _).alloc (Nat.le_refl _) (.cells (ar8 fun _ => 0) 24))
        have hk4 : (w3.alloc (.cells (ar8 fun _ => 0) 24)).heap[w3.heap.size]? = some (.cells (((List.replicate 8 (Value.int .u16 0)) : List Value).toArray) 24 (0, 0)) := blk_new _ _
        have hle4 : w0.heap.size ≤ w3.heap.size := hP3.below.size
        have hwb : w.heap.size < w3.heap.size := blk_lt hP3.blk
        show (Code.region 19 _ true).wp Tryd.prog _ _ (w3.alloc (.cells (ar8 fun _ => 0) 24))
        generalize w3.heap.size = b at *
        generalize w3.alloc (.cells (ar8 fun _ => 0) 24) = WA at *
        have hbl := blk_lt hk4
        have HP4 := Lib.hid hP4
        have HK4 := Lib.hid hk4
        clear hP4 hk4 hP3
        go_region_held3 (fun w' => True) (trivial)
          (first
            | (go_at_call 46
               refine (HW1.out _ (HG.out.keep (bdn HP4.out.all 1))).mono ?_
               rintro e w5 ⟨A1, k1, rfl, hc1, hb5⟩)
            | (revert hb5
               intro hb5
               refine step_copy_splice (by rfl) (.tmp 55) (.tmp 57) 87 87 (by rfl) 22 Tryd.underlying87 (by kernel_rfl) (some ⟨b, 0, none⟩) A1 8 8 F.length k1 (by rfl) (by rfl) b 0 (List.replicate 8 (Value.int .u16 0)) 24 (blk_below HK4.out ((bdn (Below.refl _ _) 1).trans hb5)) (F.map (Value.int .u16)) (by rw [List.length_map]; exact (Nat.min_eq_left (by omega)).symm) (fun hp => ⟨rfl, hc1 (by rw [List.length_map] at hp; exact hp)⟩) (by simp; omega) (by intro v hv; obtain ⟨x, _, rfl⟩ := List.mem_map.1 hv; rfl) w0.heap.size w0 (HP4.out.keep ((bdn (Below.refl _ _) 1).trans hb5)).below hle4 ?_
               intro w6 hg6 hB6))
        rename_i hHeld
        clear hHeld hc1 hb5
        have hP6 : PB w w0 w6 := ⟨hP.box, hB6, hP.start⟩
        clear hB6
        generalize hrow : splice (List.replicate 8 (Value.int .u16 0)) 0 (F.map (Value.int .u16)) = row1 at *
        have hr1 : row1.length = 8 := by rw [← hrow, length_splice _ _ _ (by simp; omega)]; simp
        have HROW1 := Lib.hid hrow
        have HR1 := Lib.hid hr1
        clear hrow hr1
        go_wp2_with fail
        refine (HW2.out _ (HG.out.keep hP6.all)).mono ?_
        rintro e w7 ⟨A2, k2, rfl, hc2, hb7⟩
        have hP7 := hP6.keep hb7
        have hk7 := blk_below hg6.out hb7
        have HC2 := Lib.hid hc2
        have HP7 := Lib.hid hP7
        have HK7 := Lib.hid hk7
        clear hc2 hb7 hg6 hP6 hP7 hk7
        have hB8 : B.length ≤ 8 := by omega
        have hB8' : (B.length : Int) ≤ 8 := by omega
        have hsl := slice8 b B.length hB8
        go_wp2_with (with_reducible refine wpList_copy_splice (o := ⟨some 66, _, _, _, _, _⟩) rfl (.tmp 64) (.tmp 65) 87 87 rfl 22 ?u ?sz (some ⟨b, off8 B.length, none⟩) A2 B.length B.length B.length k2 rfl rfl b (8 - B.length) row1 24 HK7.out (B.map (Value.int .u16)) ?hn ?hpos ?hfit ?h1 w0.heap.size w0 ?hb hle4 ?_)
        case u => exact Tryd.underlying87
        case sz => kernel_rfl
        case hn => rw [List.length_map]; exact (Nat.min_self _).symm
        case hpos =>
          intro hp
          rw [List.length_map] at hp
          exact ⟨by unfold off8; rw [if_neg (by omega)], HC2.out hp⟩
        case hfit => rw [List.length_map, HR1.out]; omega
        case h1 =>
          intro v hv
          obtain ⟨x, _, rfl⟩ := List.mem_map.1 hv
          rfl
        case hb => exact HP7.out.below
        intro w9 hg9 hB9
        have hP9 : PB w w0 w9 := ⟨hP.box, hB9, hP.start⟩
        obtain ⟨f, hf⟩ : ∃ f, f = outOf F B := ⟨_, rfl⟩
        have hk9 : w9.heap[b]? = some (.cells (ar8 f) 24 (0, 0)) := by rw [hg9.out, ← HROW1.out, rows_out hfit, hf, Array.toArray_toList]
        have hk9w := hP9.blk
        have HF := Lib.hid hf
        have hne9 : ¬ b = w.heap.size := by omega
        have hne9' : ¬ w.heap.size = b := by omega
        clear hsl hg9 hB9 HK7 HP7 hf
        have y0 : w9.cell? ⟨w.heap.size, 0, none⟩ = some (.int .u16 0) := (blk_cell hk9w 0).trans rfl
        have v0 : w9.frozen? ⟨w.heap.size, 0, none⟩ = false := blk_frozen hk9w 0
        have z0 : w9.cell? ⟨b, 0, none⟩ = some (.int .u16 (f 0)) := (blk_cell hk9 0).trans rfl
        have y1 : w9.cell? ⟨w.heap.size, 1, none⟩ = some (.int .u16 0) := (blk_cell hk9w 1).trans rfl
        have v1 : w9.frozen? ⟨w.heap.size, 1, none⟩ = false := blk_frozen hk9w 1
        have z1 : w9.cell? ⟨b, 1, none⟩ = some (.int .u16 (f 1)) := (blk_cell hk9 1).trans rfl
        have y2 : w9.cell? ⟨w.heap.size, 2, none⟩ = some (.int .u16 0) := (blk_cell hk9w 2).trans rfl
        have v2 : w9.frozen? ⟨w.heap.size, 2, none⟩ = false := blk_frozen hk9w 2
        have z2 : w9.cell? ⟨b, 2, none⟩ = some (.int .u16 (f 2)) := (blk_cell hk9 2).trans rfl
        have y3 : w9.cell? ⟨w.heap.size, 3, none⟩ = some (.int .u16 0) := (blk_cell hk9w 3).trans rfl
        have v3 : w9.frozen? ⟨w.heap.size, 3, none⟩ = false := blk_frozen hk9w 3
        have z3 : w9.cell? ⟨b, 3, none⟩ = some (.int .u16 (f 3)) := (blk_cell hk9 3).trans rfl
        have y4 : w9.cell? ⟨w.heap.size, 4, none⟩ = some (.int .u16 0) := (blk_cell hk9w 4).trans rfl
        have v4 : w9.frozen? ⟨w.heap.size, 4, none⟩ = false := blk_frozen hk9w 4
        have z4 : w9.cell? ⟨b, 4, none⟩ = some (.int .u16 (f 4)) := (blk_cell hk9 4).trans rfl
        have y5 : w9.cell? ⟨w.heap.size, 5, none⟩ = some (.int .u16 0) := (blk_cell hk9w 5).trans rfl
        have v5 : w9.frozen? ⟨w.heap.size, 5, none⟩ = false := blk_frozen hk9w 5
        have z5 : w9.cell? ⟨b, 5, none⟩ = some (.int .u16 (f 5)) := (blk_cell hk9 5).trans rfl
        have y6 : w9.cell? ⟨w.heap.size, 6, none⟩ = some (.int .u16 0) := (blk_cell hk9w 6).trans rfl
        have v6 : w9.frozen? ⟨w.heap.size, 6, none⟩ = false := blk_frozen hk9w 6
        have z6 : w9.cell? ⟨b, 6, none⟩ = some (.int .u16 (f 6)) := (blk_cell hk9 6).trans rfl
        have y7 : w9.cell? ⟨w.heap.size, 7, none⟩ = some (.int .u16 0) := (blk_cell hk9w 7).trans rfl
        have v7 : w9.frozen? ⟨w.heap.size, 7, none⟩ = false := blk_frozen hk9w 7
        have z7 : w9.cell? ⟨b, 7, none⟩ = some (.int .u16 (f 7)) := (blk_cell hk9 7).trans rfl
        go_wp2_with fail
        try simp only [Exit.inBlock, Exit.then]
        refine bodyPost_ret (results_cell3 rfl rfl (ld8a (blk_put8 hk9w f))) rfl ?_
        exact parsed_of HPV.out (fun j _ => by rw [HF.out]) (below_put8 hP9.all (Nat.le_refl _) _ _ _ _ _ _ _ _)
end Go.Proofs.YtcgdjnmfeibnoaaDoor
/-! Builder -/
namespace Go.Proofs.YtcgdjnmfeibnoaaDoor
open Go.RowKit
set_option linter.unusedVariables false
set_option linter.unusedSimpArgs false
theorem bld_size : (Tryd.prog.info? 126).map (·.size) = some 2 := by kernel_rfl
theorem bld_lies : liesAt Tryd.prog Tryd.prog.depth 126 (2 / Tryd.prog.cellsOf 126) 0 126 1 = true := by kernel_rfl
theorem byte_info : (Tryd.prog.info? 5).map (fun i => (i.zero, i.size, i.bytes)) = some (some (.int .u8 0), 1, 1) := by kernel_rfl
theorem bld_ne : (126 : Nat) ≠ 5 := by decide
/-- A builder of this program. -/
abbrev IsB (B b : Nat) (bs : List Value) (w : World) : Prop := Lib.IsBuilder 126 5 B b bs w
/-- .. that has been written to. -/
abbrev AtB (B b : Nat) (bs : List Value) (w : World) : Prop := Lib.BuilderAt 126 5 B b (.pointer (some ⟨b, 0, none⟩)) bs w
set_option maxHeartbeats 1000000 in
set_option maxRecDepth 100000 in
theorem copyCheck_old (b : Nat) (w : World) (h0 : w.cell? ⟨b, 0, none⟩ = some (.pointer (some ⟨b, 0, none⟩))) :
    Calls Tryd.prog 113 #[.pointer (some ⟨b, 0, none⟩)] w fun e w' => e = .returned (.tuple #[]) ∧ w = w' := by
  obtain ⟨j, hj, _⟩ := Option.map_eq_some_iff.1 bld_size
  go_enter Tryd.func113, Tryd.ntmps113
  go_wp2
  rw [Lib.run_neq_ptr_same w _ Tryd.underlying123 hj]
  go_wp2
  go_end0
  exact ⟨rfl, rfl⟩
set_option maxHeartbeats 1000000 in
set_option maxRecDepth 100000 in
theorem copyCheck_new (b : Nat) (w : World) (h0 : w.cell? ⟨b, 0, none⟩ = some (.pointer none)) (hsh : w.shape? b = some (126, 2)) (hfz : w.frozen? ⟨b, 0, none⟩ = false) :
    Calls Tryd.prog 113 #[.pointer (some ⟨b, 0, none⟩)] w fun e w' => e = .returned (.tuple #[]) ∧ w.setCell ⟨b, 0, none⟩ (.pointer (some ⟨b, 0, none⟩)) = w' := by
  obtain ⟨j, hj, hjs⟩ := Option.map_eq_some_iff.1 bld_size
  go_enter Tryd.func113, Tryd.ntmps113
  go_wp2
  rw [Lib.run_to_unsafe w ⟨b, 0, none⟩ Tryd.underlying123 Tryd.underlying186 hj (by rw [hjs]; decide) hsh (Nat.zero_lt_succ 1)]
  simp only [Result.andThen]
  rw [Oper.upon_value]
  go_wp2
  rw [run_callFunc_extern Tryd.func142 (by kernel_rfl) (by kernel_rfl) (by kernel_rfl) (e := Extern.AbiNoEscape.same) (by kernel_rfl)]
  rw [Lib.run_noEscape]
  simp only [Result.andThen]
  rw [Oper.upon_value]
  go_wp2
  rw [Lib.run_from_unsafe w ⟨b, 0, none⟩ Tryd.underlying186 Tryd.underlying123 hj hsh bld_lies]
  simp only [Result.andThen]
  rw [Oper.upon_value]
  go_wp2
  go_end0
  exact ⟨rfl, rfl⟩
theorem copyCheck_walk (B b : Nat) (bs : List Value) (w : World) (h : IsB B b bs w) :
    Calls Tryd.prog 113 #[.pointer (some ⟨b, 0, none⟩)] w fun e w' => e = .returned (.tuple #[]) ∧ AtB B b bs w' ∧ Below B w w' := by
  rcases h with h | h
  · exact (copyCheck_new b w h.cell0 h.shape h.frozen0).mono fun e w' ⟨he, hw⟩ => ⟨he, hw ▸ h.used _, hw ▸ (Below.refl B w).setCell (p := ⟨b, 0, none⟩) h.1 _⟩
  · exact (copyCheck_old b w h.cell0).mono fun e w' ⟨he, hw⟩ => ⟨he, hw ▸ h, hw ▸ Below.refl B w⟩
/-- What a used builder's block gives a walk. -/
theorem atB_open {B b : Nat} {bs : List Value} {w : World} (h : AtB B b bs w) : ∃ v, B ≤ b ∧ b < w.heap.size ∧ w.heap[b]? = some (.cells #[.pointer (some ⟨b, 0, none⟩), v] 126 (0, 0)) ∧ w.ownsRow B 5 1 v bs.length bs ∧ v.ownBlock ≠ some b ∧
    w.cell? ⟨b, 0, none⟩ = some (.pointer (some ⟨b, 0, none⟩)) ∧ w.cell? ⟨b, 1, none⟩ = some v ∧ w.frozen? ⟨b, 1, none⟩ = false := by
  have hlt := h.lt
  obtain ⟨hB, v, hbk, hown, hne⟩ := h
  exact ⟨v, hB, hlt, hbk, hown, hne, by rw [Lib.cell_of_heap hbk]; rfl, by rw [Lib.cell_of_heap hbk]; rfl, Lib.frozen_of_heap hbk 1⟩
set_option maxHeartbeats 2000000 in
set_option maxRecDepth 100000 in
theorem writeByte_walk (B b : Nat) (bs : List Value) (c : Int) (w : World) (h : IsB B b bs w) (hlen : bs.length + 1 ≤ 140737488355328) (hBw : B ≤ w.heap.size) :
    Calls Tryd.prog 77 #[.pointer (some ⟨b, 0, none⟩), .int .u8 c] w fun e w' => e = .returned .nilIface ∧ AtB B b (bs ++ [.int .u8 c]) w' ∧ Below B w w' := by
  obtain ⟨i0, hi, hz0, hz1, hz2⟩ := info_parts byte_info
  go_enter Tryd.func77, Tryd.ntmps77
  go_wp2_with fail
  refine (copyCheck_walk B b bs _ h).mono ?_
  rintro e w1 ⟨rfl, h1, hb1⟩
  obtain ⟨v, hB, hlt, hbk, hown, hne, c0, c1, f1⟩ := atB_open h1
  have hs1 := hb1.size
  go_wp2_with (at_builtin; refine wpList_append_own _ rfl _ _ 124 rfl B 5 i0 (.int .u8 0) 1 1 Tryd.underlying124 hi hz0 hz1 hz2 rfl (by decide) _ _ _ rfl (hown.alloc _) ⟨w1.heap.size, 0, none⟩ 1 1 [.int .u8 c] rfl rfl ?c1 ?c2 ?c3 ?c4 ?c5 ?_)
  case c1 =>
    intro j u hj
    match j, hj with
    | 0, hj => simp at hj; subst hj; simp [Addr.add]
  case c2 => intro u hu; simp at hu; subst hu; rfl
  case c3 => unfold maxLen; omega
  case c4 => omega
  case c5 => simp; omega
  intro v' w2 hown' hgrow _
  have hb2 : w2.heap[b]? = some (.cells #[.pointer (some ⟨b, 0, none⟩), v] 126 (0, 0)) := by
    rw [hgrow.block b (by simp; omega) (fun e => hne e.symm), Lib.alloc_old w1 _ b hlt]
    exact hbk
  have d1 : w2.cell? ⟨b, 1, none⟩ = some v := by rw [Lib.cell_of_heap hb2]; rfl
  have f2 : w2.frozen? ⟨b, 1, none⟩ = false := Lib.frozen_of_heap hb2 1
  obtain ⟨g, cap, rfl⟩ : ∃ g cap, v' = .slice (some ⟨g, 0, none⟩) (bs.length + 1) cap := by
    rcases hown'.2 with ⟨_, h0⟩ | ⟨g, cap, cur, hv, _⟩
    · omega
    · exact ⟨g, cap, hv⟩
  go_wp2
  go_ret
  refine ⟨rfl, ?_, ?_⟩
  · exact Lib.BuilderAt.put hB hb2 (bs' := bs ++ [.int .u8 c]) (by simpa using hown') bld_ne
  · exact ((hb1.alloc (by omega) _).grown hgrow (by simp; omega) (fun k hk => (hown.lt k hk).1)).setCell (p := ⟨b, 1, none⟩) hB _
set_option maxHeartbeats 2000000 in
set_option maxRecDepth 100000 in
theorem writeString_walk (B b : Nat) (bs : List Value) (s : ByteArray) (w : World) (h : IsB B b bs w) (hlen : bs.length + s.size ≤ 140737488355328) (hBw : B ≤ w.heap.size) :
    Calls Tryd.prog 97 #[.pointer (some ⟨b, 0, none⟩), .string s] w fun e w' => e = .returned (.tuple #[.int .i64 s.size, .nilIface]) ∧ AtB B b (bs ++ Lib.strCells s) w' ∧ Below B w w' := by
  obtain ⟨i0, hi, hz0, hz1, hz2⟩ := info_parts byte_info
  go_enter Tryd.func97, Tryd.ntmps97
  go_wp2_with fail
  refine (copyCheck_walk B b bs _ h).mono ?_
  rintro e w1 ⟨rfl, h1, hb1⟩
  obtain ⟨v, hB, hlt, hbk, hown, hne, c0, c1, f1⟩ := atB_open h1
  have hs1 := hb1.size
  go_wp2_with (at_builtin; refine Lib.wpList_append_own_string _ rfl _ _ 124 9 rfl B 5 i0 Tryd.underlying124 Tryd.underlying9 hi hz0 hz1 hz2 _ _ _ rfl hown s rfl ?c3 ?c4 ?c5 ?_)
  case c3 => unfold maxLen; omega
  case c4 => omega
  case c5 => omega
  intro v' w2 hown' hgrow _
  have hb2 : w2.heap[b]? = some (.cells #[.pointer (some ⟨b, 0, none⟩), v] 126 (0, 0)) := by
    rw [hgrow.block b hlt (fun e => hne e.symm)]
    exact hbk
  have d1 : w2.cell? ⟨b, 1, none⟩ = some v := by rw [Lib.cell_of_heap hb2]; rfl
  have f2 : w2.frozen? ⟨b, 1, none⟩ = false := Lib.frozen_of_heap hb2 1
  obtain ⟨ao, n', cap, rfl⟩ : ∃ ao n' cap, v' = .slice ao n' cap := by
    rcases hown'.2 with ⟨hv, _⟩ | ⟨g, cap, cur, hv, _⟩
    · exact ⟨_, _, _, hv⟩
    · exact ⟨_, _, _, hv⟩
  go_wp2
  go_ret2
  refine ⟨rfl, ?_, ?_⟩
  · exact Lib.BuilderAt.put hB hb2 (bs' := bs ++ Lib.strCells s) (by simpa [Lib.strCells_length] using hown') bld_ne
  · exact (hb1.grown hgrow (by omega) (fun k hk => (hown.lt k hk).1)).setCell (p := ⟨b, 1, none⟩) hB _
set_option maxHeartbeats 2000000 in
set_option maxRecDepth 100000 in
/-- What a builder that holds a byte at least tells. -/
theorem builderString_walk (B b : Nat) (l : List UInt8) (w : World) (h : IsB B b (Lib.byteCells l) w) (h0 : l ≠ []) :
    Calls Tryd.prog 78 #[.pointer (some ⟨b, 0, none⟩)] w fun e w' => e = .returned (.string ⟨l.toArray⟩) ∧ Below B w w' := by
  obtain ⟨p, hB, v, hbk, hown, hne⟩ : ∃ p, Lib.BuilderAt 126 5 B b p (Lib.byteCells l) w := by
    rcases h with h | h
    · exact ⟨_, h⟩
    · exact ⟨_, h⟩
  have c1 : w.cell? ⟨b, 1, none⟩ = some v := by rw [Lib.cell_of_heap hbk]; rfl
  have hl0 : l.length ≠ 0 := by simpa using h0
  rw [Lib.byteCells_length] at hown
  obtain ⟨g, cap, cur, rfl, hbg, hg, hnc, hcm, hcs, htake⟩ : ∃ g cap cur, v = .slice (some ⟨g, 0, none⟩) l.length cap ∧ B ≤ g ∧ w.heap[g]? = some (.cells cur 5 (0, 0)) ∧ l.length ≤ cap ∧ cap ≤ maxLen ∧ cur.size = cap * 1 ∧ cur.toList.take (l.length * 1) = Lib.byteCells l := by
    rcases hown.2 with ⟨_, hz⟩ | ⟨g, cap, cur, hv, r⟩
    · exact absurd hz hl0
    · exact ⟨g, cap, cur, hv, r⟩
  have hSD : (Builtin.unsafeSliceData_ #[124] 165 #[.slice (some ⟨g, 0, none⟩) l.length cap]).run Tryd.prog w.drew = .ok (.pointer (some ⟨g, 0, none⟩)) w.drew :=
    Lib.run_unsafeSliceData_row _ _ _ _ _ _ (by omega)
  have hUS : (Builtin.unsafeString_ #[165, 3] 9 #[.pointer (some ⟨g, 0, none⟩), .int .i64 l.length]).run Tryd.prog w.drew = .ok (.string ⟨l.toArray⟩) (w.drew.freeze ⟨g, 0, none⟩ l.length) := by
    refine Lib.run_unsafeString_row w.drew 165 3 9 5 Tryd.underlying165 (by kernel_rfl) g cur.size (by have hg' : w.drew.heap[g]? = some (.cells cur 5 (0, 0)) := hg; simp [World.shape?, hg']) l h0 (by omega) (by unfold maxLen at hcm; omega) ?_
    intro j x hx
    exact hown.cells (g := g) rfl j (.int .u8 x.toNat) (by simp [Lib.byteCells, hx])
  go_enter Tryd.func78, Tryd.ntmps78
  go_wp2
  go_region
  all_goals (go_wp2; go_ret; exact ⟨rfl, Lib.below_freeze (Below.drew (Below.refl B w)) (p := ⟨g, 0, none⟩) hbg _⟩)
end Go.Proofs.YtcgdjnmfeibnoaaDoor
/-! Hex -/
namespace Go.Proofs.YtcgdjnmfeibnoaaDoor
open Go.RowKit
set_option linter.unusedVariables false
set_option linter.unusedSimpArgs false
/-- A digit's letter. -/
def digB (d : Nat) : UInt8 := if d < 10 then (48 + d).toUInt8 else (87 + d).toUInt8
/-- The digits of a number to the base 16, the lowest first. -/
def revHex (n : Nat) : List UInt8 := digB (n % 16) :: (if n / 16 = 0 then [] else revHex (n / 16))
  termination_by n
  decreasing_by omega
theorem revHex_last {n : Nat} (h : n / 16 = 0) : revHex n = [digB (n % 16)] := by rw [revHex, if_pos h]
theorem revHex_more {n : Nat} (h : n / 16 ≠ 0) : revHex n = digB (n % 16) :: revHex (n / 16) := by rw [revHex, if_neg h]
set_option maxRecDepth 100000 in
theorem digit_at (m : Nat) (w : World) : (Instr.index 9 (.string ⟨#[48, 49, 50, 51, 52, 53, 54, 55, 56, 57, 97, 98, 99, 100, 101, 102, 103, 104, 105, 106, 107, 108, 109, 110, 111, 112, 113, 114, 115, 116, 117, 118, 119, 120, 121, 122]⟩) (.int .u64 ((m : Int) % 16))).run Tryd.prog w = .ok (.int .u8 (digB (m % 16)).toNat) w := by
  have h : ∃ d : Nat, d < 16 ∧ m % 16 = d := ⟨m % 16, by omega, rfl⟩
  obtain ⟨d, hd, he⟩ := h
  rw [show ((m : Int) % 16) = (d : Int) from by omega, he]
  have hc : d = 0 ∨ d = 1 ∨ d = 2 ∨ d = 3 ∨ d = 4 ∨ d = 5 ∨ d = 6 ∨ d = 7 ∨ d = 8 ∨ d = 9 ∨ d = 10 ∨ d = 11 ∨ d = 12 ∨ d = 13 ∨ d = 14 ∨ d = 15 := by omega
  rcases hc with rfl | rfl | rfl | rfl | rfl | rfl | rfl | rfl | rfl | rfl | rfl | rfl | rfl | rfl | rfl | rfl
  all_goals (change _ = _; kernel_rfl)
/-- What stands when k of the digits have been laid, from the other end. -/
def RevRel (base g cap g2 L : Nat) (all : List UInt8) (w : World) (i : Value) (W : World) : Prop :=
  ∃ k : Nat, k ≤ L ∧ i = .int .i64 k ∧ W.ownsRow base 5 1 (.slice (some ⟨g, 0, none⟩) L cap) L (Lib.byteCells all) ∧
    W.ownsRow base 5 1 (.slice (some ⟨g2, 0, none⟩) L L) L (List.replicate (L - k) (.int .u8 0) ++ Lib.byteCells (all.take k).reverse) ∧ Below w.heap.size w W
theorem rev_step {base g cap g2 n k : Nat} {all : List UInt8} {x : UInt8} {w W : World} (hx : all[k]? = some x) (hlen : n + 1 = all.length) (hk : k < n + 1)
    (hA : W.ownsRow base 5 1 (.slice (some ⟨g, 0, none⟩) (n + 1) cap) (n + 1) (Lib.byteCells all))
    (hO : W.ownsRow base 5 1 (.slice (some ⟨g2, 0, none⟩) (n + 1) (n + 1)) (n + 1) (List.replicate (n + 1 - k) (.int .u8 0) ++ Lib.byteCells (all.take k).reverse)) (hb : Below w.heap.size w W) (hne : g ≠ g2) (hbase : w.heap.size ≤ base) :
    RevRel base g cap g2 (n + 1) all w (.int .i64 ((k : Int) + 1)) (W.setCell ⟨g2, n - k, none⟩ (.int .u8 x.toNat)) := by
  obtain ⟨h1, h2⟩ := hO.stored (n - k) (.int .u8 x.toNat)
  have hg2 : base ≤ g2 := (hO.lt g2 (by simp [Value.ownBlock])).1
  refine ⟨k + 1, by omega, by simp, hA.kept h2 (by simp [Value.ownBlock, hne]), ?_, hb.setCell (p := ⟨g2, n - k, none⟩) (by simpa using Nat.le_trans hbase hg2) _⟩
  have e : (List.replicate (n + 1 - k) (Value.int .u8 0) ++ Lib.byteCells (all.take k).reverse).set (n - k) (.int .u8 x.toNat) = List.replicate (n + 1 - (k + 1)) (.int .u8 0) ++ Lib.byteCells (all.take (k + 1)).reverse := by
    have e1 : n + 1 - k = (n - k) + 1 := by omega
    have e2 : all.take (k + 1) = all.take k ++ [x] := by rw [List.take_add_one, hx]; rfl
    rw [e1, List.replicate_succ', List.append_assoc, List.set_append_right _ _ (by simp), e2]
    simp [Lib.byteCells]
  rw [e] at h1
  exact h1
theorem rev_cell {base g2 n : Nat} {all : List UInt8} {W : World} (hlen : n + 1 = all.length)
    (hO : W.ownsRow base 5 1 (.slice (some ⟨g2, 0, none⟩) (n + 1) (n + 1)) (n + 1) (List.replicate (n + 1 - (n + 1)) (.int .u8 0) ++ Lib.byteCells (all.take (n + 1)).reverse)) (i : Nat) (hi : i < n + 1) :
    W.cell? ⟨g2, i, none⟩ = some (.int .u8 ((all.reverse.map fun b => (b.toNat : Int)).getD i 0)) := by
  rw [hO.cellAt i (by omega)]
  rw [hlen, List.take_length, Nat.sub_self, List.replicate_zero, List.nil_append]
  have hi' : i < all.reverse.length := by simp; omega
  rw [Lib.byteCells, List.getElem?_map, List.getElem?_eq_getElem hi', List.getD_eq_getElem?_getD, List.getElem?_map, List.getElem?_eq_getElem hi']
  rfl
theorem strOfNums_bytes (l : List UInt8) : strOfNums (l.map fun b => (b.toNat : Int)) = ⟨l.toArray⟩ := by
  unfold strOfNums
  rw [List.map_map]
  have : ((fun n : Int => UInt8.ofNat n.toNat) ∘ fun b : UInt8 => (b.toNat : Int)) = id := by
    funext b
    simp
  rw [this, List.map_id]
set_option maxHeartbeats 2000000 in
set_option maxRecDepth 100000 in
theorem print16_walk (N : Nat) (hN : N < 18446744073709551616) (w : World) :
    Calls Tryd.prog 104 #[.int .u64 N, .int .i64 16] w fun e w' => e = .returned (.tuple #[.string ⟨(revHex N).reverse.toArray⟩, .int .i64 0]) ∧ Below w.heap.size w w' := by
  obtain ⟨i0, hi, hz0, hz1, hz2⟩ := info_parts byte_info
  go_enter Tryd.func104, Tryd.ntmps104
  go_wp2
  go_loopw [0, 6] (fun n v wr => ∃ (m : Nat) (done : List UInt8), n = .int .u64 m ∧ m ≤ N ∧ revHex N = done ++ revHex m ∧ wr.ownsRow w.heap.size 5 1 v done.length (Lib.byteCells done) ∧ Below w.heap.size w wr ∧ 2 ^ done.length * m ≤ N ∧ (m = 0 → done = []))
    (fun n _ _ => (intOf n).toNat)
  case atStart => exact ⟨N, [], rfl, Nat.le_refl _, rfl, World.ownsRow_nil _ _ _ _, Below.refl _ _, by simp, fun _ => rfl⟩
  case round =>
    obtain ⟨m, done, rfl, hm, hd, hown, hb, hp, hz⟩ := hrel
    have hs := hb.size
    have hix := digit_at m
    have hl : done.length ≤ 64 := by
      rcases Nat.lt_or_ge 64 done.length with h | h
      · exfalso
        have h0 : m ≠ 0 := fun e => by rw [hz e] at h; simp at h
        have h1 := Nat.pow_le_pow_right (n := 2) (by omega) (show 65 ≤ done.length from h)
        have h2 := Nat.le_mul_of_pos_right (2 ^ done.length) (Nat.pos_of_ne_zero h0)
        have h3 : (2 : Nat) ^ 65 = 36893488147419103232 := by decide
        omega
      · exact h
    have hbl : (Lib.byteCells done).length = done.length := Lib.byteCells_length done
    clear hbl
    go_wp2_with (at_builtin; refine app_one rfl _ _ 124 rfl w.heap.size 5 i0 (.int .u8 0) 1 1 Tryd.underlying124 hi hz0 hz1 hz2 rfl (by decide) _ _ _ rfl hown [.int .u8 (digB (m % 16)).toNat] rfl rfl (by simp [Value.oneCell']) (by unfold maxLen; omega) (by omega) (by omega) ?_; intro g cap w2 hg hown' hgrow hbel)
    · clear hgrow hix
      have hb2 := hbel _ _ (Nat.le_refl _) hb
      have hs2 := hb2.size
      obtain ⟨w3, hmk, hown3, hgr3⟩ := run_make_full w2 w.heap.size 124 5 i0 (.int .u8 0) 1 Tryd.underlying124 hi hz0 hz1 .i64 .i64 (done.length + 1) (by rw [hz2]; omega) (by unfold maxLen; omega) hs2
      rw [show ((done.length + 1 : Nat) : Int) = (done.length : Int) + 1 from by omega] at hmk
      have hb3 : Below w.heap.size w w3 := hb2.grown hgr3 hs2 (fun k hk => by simp at hk)
      have hown3' := hown'.kept hgr3 (by simp [Value.ownBlock])
      have hall : revHex N = done ++ [digB (m % 16)] := by rw [hd, revHex_last (by simp at *; omega)]
      have hne : g ≠ w2.heap.size := by have := (hown'.lt g (by simp [Value.ownBlock])).2; omega
      obtain ⟨all, hal⟩ : ∃ all, all = done ++ [digB (m % 16)] := ⟨_, rfl⟩
      have hlen : done.length + 1 = all.length := by rw [hal]; simp
      have hback : w3.ownsRow w.heap.size 5 1 (.slice (some ⟨g, 0, none⟩) (done.length + 1) cap) (done.length + 1) (Lib.byteCells all) := by
        rw [hal]; simpa [Lib.byteCells] using hown3'
      have hout : w3.ownsRow w.heap.size 5 1 (.slice (some ⟨w2.heap.size, 0, none⟩) (done.length + 1) (done.length + 1)) (done.length + 1) (List.replicate (done.length + 1) (.int .u8 0)) := by
        have h := hown3
        rw [show (Value.int .u8 0).cells = #[.int .u8 0] from rfl, Nat.mul_one, toList_madeCells_one] at h
        exact h
      rw [← hal] at hall
      clear hown3 hown3' hown' hown hd hz hp hb hbel hb2 hgr3
      have HMK := Lib.hid hall
      have HAL := Lib.hid hal
      have HLEN := Lib.hid hlen
      clear hall hal hlen
      go_simp
      go_wp2_with fail
      go_loopw [35] (fun i W => RevRel w.heap.size g cap w2.heap.size (done.length + 1) all w i W) (fun i _ => done.length + 1 - (intOf i).toNat)
      case atStart => exact ⟨0, Nat.zero_le _, rfl, hback, by simpa [Lib.byteCells] using hout, hb3⟩
      case round =>
        clear hback hout hb3 hmk
        obtain ⟨k, hk, rfl, hA, hO, hb4⟩ := hrel
        by_cases hlt : k < done.length + 1
        · obtain ⟨x, hx⟩ : ∃ x, all[k]? = some x := ⟨all[k]'(by have := HLEN.out; omega), List.getElem?_eq_getElem _⟩
          have hc : wr.cell? ⟨g, k, none⟩ = some (.int .u8 x.toNat) := by
            rw [hA.cellAt k (by omega)]; simp [Lib.byteCells, hx]
          have ho : wr.cell? ⟨w2.heap.size, done.length - k, none⟩ = some (.int .u8 0) := by
            rw [hO.cellAt _ (by omega), List.getElem?_append_left (by simp; omega)]
            rw [List.getElem?_replicate, if_pos (by omega)]
          have hf := hO.frozenAt (done.length - k)
          have HX := Lib.hid hx
          clear hx
          go_wp2
          exact ⟨rev_step HX.out HLEN.out hlt hA hO hb4 hne (Nat.le_refl _), by simp [intOf]; omega⟩
        · obtain rfl : k = done.length + 1 := by omega
          have hcv := run_convert_bytes_arg (P := Tryd.prog) wr 124 5 Tryd.underlying124 Tryd.underlying5 w2.heap.size 0 (done.length + 1) (done.length + 1) (all.reverse.map fun b => (b.toNat : Int)) (by simp [HLEN.out])
            (fun i hi => by rw [Nat.zero_add]; exact rev_cell HLEN.out hO i hi) 9 Tryd.underlying9
          rw [strOfNums_bytes] at hcv
          clear hlt
          go_wp2
          go_returns
          exact ⟨by rw [HMK.out]; rfl, hb4⟩
    · have h16 : ¬ (m / 16 = 0) := by simp at *; omega
      have hmm := revHex_more h16
      refine ⟨⟨m / 16, done ++ [digB (m % 16)], rfl, by omega, by rw [hd, hmm]; simp, by simpa [Lib.byteCells] using hown', hbel _ _ (Nat.le_refl _) hb, ?_, fun h => absurd h h16⟩, by simp [intOf]; omega⟩
      rw [List.length_append, List.length_singleton, Nat.pow_succ, Nat.mul_assoc]
      exact Nat.le_trans (Nat.mul_le_mul_left _ (by omega)) hp
end Go.Proofs.YtcgdjnmfeibnoaaDoor
/-! SixV -/
namespace Go.Proofs.YtcgdjnmfeibnoaaDoor
open Go.RowKit
set_option linter.unusedVariables false
set_option linter.unusedSimpArgs false
abbrev A8 (x0 x1 x2 x3 x4 x5 x6 x7 : Int) : Value := .agg #[.int .u16 x0, .int .u16 x1, .int .u16 x2, .int .u16 x3, .int .u16 x4, .int .u16 x5, .int .u16 x6, .int .u16 x7]
/-- Each piece is of 16 bits. -/
structure R8 (x0 x1 x2 x3 x4 x5 x6 x7 : Int) : Prop where
  h0 : 0 ≤ x0 ∧ x0 ≤ 65535
  h1 : 0 ≤ x1 ∧ x1 ≤ 65535
  h2 : 0 ≤ x2 ∧ x2 ≤ 65535
  h3 : 0 ≤ x3 ∧ x3 ≤ 65535
  h4 : 0 ≤ x4 ∧ x4 ≤ 65535
  h5 : 0 ≤ x5 ∧ x5 ≤ 65535
  h6 : 0 ≤ x6 ∧ x6 ≤ 65535
  h7 : 0 ≤ x7 ∧ x7 ≤ 65535
theorem run_part8 {P : Program} {E : TypeId} (hE : P.underlying E = some (.int .u16)) (cs : Array Value) (k : Nat) (v : Value) (h : cs[k]? = some v) (w : World) : (part E cs k).run P w = .ok v w := by
  simp [part, isAgg, run_underlying hE, h]
/-- Two arrays of eight pieces: '=='. -/
theorem run_eq8 {P : Program} {T E : TypeId} {i : TypeInfo} (hT : P.underlying T = some (.array 8 E)) (hi : P.info? E = some i) (hE : P.underlying E = some (.int .u16)) (hc : P.cellsOf E = 1)
    (x0 x1 x2 x3 x4 x5 x6 x7 y0 y1 y2 y3 y4 y5 y6 y7 : Int) (w : World) :
    (Op.equalIn 10000 T (A8 x0 x1 x2 x3 x4 x5 x6 x7) (A8 y0 y1 y2 y3 y4 y5 y6 y7)).run P w = .ok (x0 == y0 && (x1 == y1 && (x2 == y2 && (x3 == y3 && (x4 == y4 && (x5 == y5 && (x6 == y6 && x7 == y7))))))) w := by
  rw [run_equalIn_array w 9999 _ _ hT hi, hc, show List.range 8 = [0, 1, 2, 3, 4, 5, 6, 7] from rfl]
  have he : ∀ a b : Int, (Op.equalIn 9999 E (.int .u16 a) (.int .u16 b)).run P w = .ok (a == b) w := fun a b => run_equalIn_int w 9998 E .u16 .u16 a b hE
  have st : ∀ (xs ys : Array Value) (k : Nat) (ks : List Nat) (a b : Int) (r : Bool), xs[k]? = some (.int .u16 a) → ys[k]? = some (.int .u16 b) → (Op.eqItems 9999 E 1 xs ys ks).run P w = .ok r w →
      (Op.eqItems 9999 E 1 xs ys (k :: ks)).run P w = .ok (a == b && r) w := by
    intro xs ys k ks a b r h1 h2 h3
    simp only [Op.eqItems, Sem.run_bind, Nat.mul_one]
    rw [run_part8 hE _ k _ h1, Result.andThen_ok, run_part8 hE _ k _ h2, Result.andThen_ok, he, Result.andThen_ok]
    cases a == b
    · simp
    · simpa using h3
  have h8 : (Op.eqItems 9999 E 1 #[.int .u16 x0, .int .u16 x1, .int .u16 x2, .int .u16 x3, .int .u16 x4, .int .u16 x5, .int .u16 x6, .int .u16 x7] #[.int .u16 y0, .int .u16 y1, .int .u16 y2, .int .u16 y3, .int .u16 y4, .int .u16 y5, .int .u16 y6, .int .u16 y7] []).run P w = .ok true w := rfl
  have h7 := st _ _ 7 [] x7 y7 _ rfl rfl h8
  have h6 := st _ _ 6 [7] x6 y6 _ rfl rfl h7
  have h5 := st _ _ 5 [6, 7] x5 y5 _ rfl rfl h6
  have h4 := st _ _ 4 [5, 6, 7] x4 y4 _ rfl rfl h5
  have h3 := st _ _ 3 [4, 5, 6, 7] x3 y3 _ rfl rfl h4
  have h2 := st _ _ 2 [3, 4, 5, 6, 7] x2 y2 _ rfl rfl h3
  have h1 := st _ _ 1 [2, 3, 4, 5, 6, 7] x1 y1 _ rfl rfl h2
  have h0 := st _ _ 0 [1, 2, 3, 4, 5, 6, 7] x0 y0 _ rfl rfl h1
  rw [Bool.and_true] at h0
  exact h0
@[go_sem] theorem eq8_six (x0 x1 x2 x3 x4 x5 x6 x7 y0 y1 y2 y3 y4 y5 y6 y7 : Int) (w : World) :
    (Op.equalIn 10000 24 (A8 x0 x1 x2 x3 x4 x5 x6 x7) (A8 y0 y1 y2 y3 y4 y5 y6 y7)).run Tryd.prog w = .ok (x0 == y0 && (x1 == y1 && (x2 == y2 && (x3 == y3 && (x4 == y4 && (x5 == y5 && (x6 == y6 && x7 == y7))))))) w := by
  obtain ⟨i, hi, _⟩ := info_parts (show (Tryd.prog.info? 22).map (fun i => (i.zero, i.size, i.bytes)) = some (some (.int .u16 0), 1, 2) by kernel_rfl)
  exact run_eq8 Tryd.underlying24 hi Tryd.underlying22 (by kernel_rfl) ..
@[go_sem] theorem eq8_ref (x0 x1 x2 x3 x4 x5 x6 x7 y0 y1 y2 y3 y4 y5 y6 y7 : Int) (w : World) :
    (Op.equalIn 10000 30 (A8 x0 x1 x2 x3 x4 x5 x6 x7) (A8 y0 y1 y2 y3 y4 y5 y6 y7)).run Tryd.prog w = .ok (x0 == y0 && (x1 == y1 && (x2 == y2 && (x3 == y3 && (x4 == y4 && (x5 == y5 && (x6 == y6 && x7 == y7))))))) w := by
  obtain ⟨i, hi, _⟩ := info_parts (show (Tryd.prog.info? 22).map (fun i => (i.zero, i.size, i.bytes)) = some (some (.int .u16 0), 1, 2) by kernel_rfl)
  exact run_eq8 Tryd.underlying30 hi Tryd.underlying22 (by kernel_rfl) ..
end Go.Proofs.YtcgdjnmfeibnoaaDoor
/-! SixRun -/
namespace Go.Proofs.YtcgdjnmfeibnoaaDoor
open Go.RowKit
set_option linter.unusedVariables false
set_option linter.unusedSimpArgs false
/-- A piece's text. -/
def hexL (p : Nat) : List UInt8 := (revHex p).reverse
set_option maxHeartbeats 1000000 in
set_option maxRecDepth 100000 in
theorem hex_walk (p : Nat) (hp : p ≤ 65535) (w : World) :
    Calls Tryd.prog 68 #[.int .u16 p] w fun e w' => e = .returned (.string ⟨(hexL p).toArray⟩) ∧ Below w.heap.size w w' := by
  go_enter Tryd.func68, Tryd.ntmps68
  go_wp2_with fail
  refine (print16_walk p (by omega) _).mono ?_
  rintro e w1 ⟨rfl, hb⟩
  go_wp2_with fail
  go_returns
  exact ⟨rfl, hb⟩
/-- The loop of run: what is left of the pieces, the place, what was found. -/
def runGo : List Nat → Int → Int → Int → Int → Int × Int
  | [], _, at_, most, _ => (at_, most)
  | p :: r, i, at_, most, from_ => if p = 0 then (if most < i + 1 - from_ then runGo r (i + 1) from_ (i + 1 - from_) from_ else runGo r (i + 1) at_ most from_) else runGo r (i + 1) at_ most (i + 1)
/-- The run of pieces: its place and length; -1 and 0. -/
def runL (xs : List Nat) : Int × Int := if (runGo xs 0 (-1) 1 0).1 < 0 then (-1, 0) else runGo xs 0 (-1) 1 0
/-- What stands at the head of a round of run. -/
def RunRel (xs : List Nat) (a m f i : Value) : Prop :=
  ∃ (k : Nat) (at_ most from_ : Int), k ≤ xs.length ∧ i = .int .i64 k ∧ a = .int .i64 at_ ∧ m = .int .i64 most ∧ f = .int .i64 from_ ∧
    runGo xs 0 (-1) 1 0 = runGo (xs.drop k) k at_ most from_ ∧ -1 ≤ at_ ∧ at_ ≤ k ∧ 1 ≤ most ∧ most ≤ k + 1 ∧ 0 ≤ from_ ∧ from_ ≤ k
theorem run_meas {n k : Nat} (h : k < n) : n - (intOf (.int .i64 ((k : Int) + 1))).toNat < n - (intOf (.int .i64 (k : Int))).toNat := by simp [intOf]; omega
theorem run_step0 {xs : List Nat} {k : Nat} {at_ most from_ : Int} (hk : k < xs.length) (hr : runGo xs 0 (-1) 1 0 = runGo (xs.drop k) k at_ most from_)
    (b : -1 ≤ at_ ∧ at_ ≤ k ∧ 1 ≤ most ∧ most ≤ k + 1 ∧ 0 ≤ from_ ∧ from_ ≤ k) (h0 : (((xs[k]'hk : Nat) : Int) != 0) = false) (h : (k : Int) + 1 - from_ ≤ most) :
    RunRel xs (.int .i64 at_) (.int .i64 most) (.int .i64 from_) (.int .i64 ((k : Int) + 1)) := by
  refine ⟨k + 1, at_, most, from_, hk, rfl, rfl, rfl, rfl, ?_, by omega, by omega, by omega, by omega, by omega, by omega⟩
  rw [hr, List.drop_eq_getElem_cons hk, runGo, if_pos (by simp at h0; omega), if_neg (by omega)]
  rfl
theorem run_step1 {xs : List Nat} {k : Nat} {at_ most from_ : Int} (hk : k < xs.length) (hr : runGo xs 0 (-1) 1 0 = runGo (xs.drop k) k at_ most from_)
    (b : -1 ≤ at_ ∧ at_ ≤ k ∧ 1 ≤ most ∧ most ≤ k + 1 ∧ 0 ≤ from_ ∧ from_ ≤ k) (h0 : (((xs[k]'hk : Nat) : Int) != 0) = false) (h : most < (k : Int) + 1 - from_) :
    RunRel xs (.int .i64 from_) (.int .i64 ((k : Int) + 1 - from_)) (.int .i64 from_) (.int .i64 ((k : Int) + 1)) := by
  refine ⟨k + 1, from_, (k : Int) + 1 - from_, from_, hk, rfl, rfl, rfl, rfl, ?_, by omega, by omega, by omega, by omega, by omega, by omega⟩
  rw [hr, List.drop_eq_getElem_cons hk, runGo, if_pos (by simp at h0; omega), if_pos h]
  rfl
theorem run_step2 {xs : List Nat} {k : Nat} {at_ most from_ : Int} (hk : k < xs.length) (hr : runGo xs 0 (-1) 1 0 = runGo (xs.drop k) k at_ most from_)
    (b : -1 ≤ at_ ∧ at_ ≤ k ∧ 1 ≤ most ∧ most ≤ k + 1 ∧ 0 ≤ from_ ∧ from_ ≤ k) (h0 : (((xs[k]'hk : Nat) : Int) != 0) = true) :
    RunRel xs (.int .i64 at_) (.int .i64 most) (.int .i64 ((k : Int) + 1)) (.int .i64 ((k : Int) + 1)) := by
  refine ⟨k + 1, at_, most, (k : Int) + 1, hk, rfl, rfl, rfl, rfl, ?_, by omega, by omega, by omega, by omega, by omega, by omega⟩
  rw [hr, List.drop_eq_getElem_cons hk, runGo, if_neg (by simp at h0; omega)]
  rfl
theorem runL_neg {xs : List Nat} {at_ most from_ : Int} (hr : runGo xs 0 (-1) 1 0 = runGo (xs.drop xs.length) xs.length at_ most from_) (h : at_ < 0) : runL xs = (-1, 0) := by
  rw [List.drop_length, runGo] at hr
  unfold runL
  rw [hr, if_pos h]
theorem runL_pos {xs : List Nat} {at_ most from_ : Int} (hr : runGo xs 0 (-1) 1 0 = runGo (xs.drop xs.length) xs.length at_ most from_) (h : ¬ at_ < 0) : runL xs = (at_, most) := by
  rw [List.drop_length, runGo] at hr
  unfold runL
  rw [hr, if_neg h]
set_option maxHeartbeats 1000000 in
set_option maxRecDepth 100000 in
theorem run_walk (xs : List Nat) (b c : Nat) (w : World) (hl : xs.length ≤ 8) (hc : ∀ j, j < xs.length → w.cell? ⟨b, j, none⟩ = some (.int .u16 (xs.getD j 0))) :
    Calls Tryd.prog 65 #[.slice (some ⟨b, 0, none⟩) xs.length c] w fun e w' => e = .returned (.tuple #[.int .i64 (runL xs).1, .int .i64 (runL xs).2]) ∧ w = w' := by
  go_enter Tryd.func65, Tryd.ntmps65
  go_wp2
  go_loop [4, 5, 6, 12] (RunRel xs) (fun _ _ _ i => xs.length - (intOf i).toNat)
  case atStart => exact ⟨0, -1, 1, 0, Nat.zero_le _, rfl, rfl, rfl, rfl, rfl, by omega, by omega, by omega, by omega, by omega, by omega⟩
  case round =>
    obtain ⟨k, at_, most, from_, hk, rfl, rfl, rfl, rfl, hrun, b1, b2, b3, b4, b5, b6⟩ := hrel
    by_cases hlt : k < xs.length
    · have hck := hc k hlt
      have HR := Lib.hid hrun
      clear hrun hc
      go_wp2
      all_goals refine ⟨?_, run_meas hlt⟩
      all_goals first
        | exact run_step0 hlt HR.out ⟨b1, b2, b3, b4, b5, b6⟩ ‹_› ‹_›
        | exact run_step1 hlt HR.out ⟨b1, b2, b3, b4, b5, b6⟩ ‹_› ‹_›
        | exact run_step2 hlt HR.out ⟨b1, b2, b3, b4, b5, b6⟩ ‹_›
    · obtain rfl : k = xs.length := by omega
      have HR := Lib.hid hrun
      clear hrun hc hlt
      by_cases hneg : at_ < 0
      · go_wp2
        go_returns
        rw [runL_neg HR.out hneg]
        exact ⟨rfl, rfl⟩
      · go_wp2
        go_returns
        rw [runL_pos HR.out (by omega)]
        exact ⟨rfl, rfl⟩
end Go.Proofs.YtcgdjnmfeibnoaaDoor
/-! SixText -/
namespace Go.Proofs.YtcgdjnmfeibnoaaDoor
open Go.RowKit
set_option linter.unusedVariables false
set_option linter.unusedSimpArgs false
theorem revHex_len (n : Nat) : (revHex n).length ≤ n + 1 := by
  induction n using Nat.strongRecOn with
  | ind n ih =>
    by_cases h : n / 16 = 0
    · rw [revHex_last h]; simp
    · rw [revHex_more h, List.length_cons]
      have := ih (n / 16) (by omega)
      omega
theorem hexL_len (n : Nat) : (hexL n).length ≤ n + 1 := by unfold hexL; rw [List.length_reverse]; exact revHex_len n
/-- What a piece writes. -/
def textAt (at_ n i : Int) (p : Nat) : List UInt8 :=
  if i = at_ then [58, 58] else if 0 ≤ at_ ∧ at_ < i ∧ i < at_ + n then [] else (if 0 < i ∧ i ≠ at_ + n then [58] else []) ++ hexL p
/-- What pieces write from one on. -/
def textGo (at_ n : Int) : Int → List Nat → List UInt8
  | _, [] => []
  | i, p :: r => textAt at_ n i p ++ textGo at_ n (i + 1) r
/-- The text of pieces. -/
def textL (xs : List Nat) : List UInt8 := textGo (runL xs).1 (runL xs).2 0 xs
theorem runGo_bounds : ∀ (xs : List Nat) (i at_ most from_ : Int), 0 ≤ i → -1 ≤ at_ → at_ ≤ i → 1 ≤ most → most ≤ i + 1 → 0 ≤ from_ → from_ ≤ i →
    -1 ≤ (runGo xs i at_ most from_).1 ∧ (runGo xs i at_ most from_).1 ≤ i + xs.length ∧ 1 ≤ (runGo xs i at_ most from_).2 ∧ (runGo xs i at_ most from_).2 ≤ i + xs.length + 1
  | [], i, at_, most, from_, h0, h1, h2, h3, h4, h5, h6 => by simp only [runGo, List.length_nil]; omega
  | p :: r, i, at_, most, from_, h0, h1, h2, h3, h4, h5, h6 => by
    rw [runGo, List.length_cons]
    split
    · split
      · have := runGo_bounds r (i + 1) from_ (i + 1 - from_) from_ (by omega) (by omega) (by omega) (by omega) (by omega) (by omega) (by omega)
        omega
      · have := runGo_bounds r (i + 1) at_ most from_ (by omega) (by omega) (by omega) (by omega) (by omega) (by omega) (by omega)
        omega
    · have := runGo_bounds r (i + 1) at_ most (i + 1) (by omega) (by omega) (by omega) (by omega) (by omega) (by omega) (by omega)
      omega
theorem runL_bounds (xs : List Nat) : -1 ≤ (runL xs).1 ∧ (runL xs).1 ≤ xs.length ∧ 0 ≤ (runL xs).2 ∧ (runL xs).2 ≤ xs.length + 1 := by
  have := runGo_bounds xs 0 (-1) 1 0 (by omega) (by omega) (by omega) (by omega) (by omega) (by omega) (by omega)
  unfold runL
  split
  · simp; omega
  · omega
theorem hexL_ne (n : Nat) : hexL n ≠ [] := by
  unfold hexL
  rw [revHex]
  simp
theorem textL_ne {xs : List Nat} (h : xs ≠ []) : textL xs ≠ [] := by
  cases xs with
  | nil => exact absurd rfl h
  | cons p r =>
    unfold textL
    rw [textGo, textAt]
    split
    · simp
    · split
      · rename_i h1; exact absurd h1 (by omega)
      · have := hexL_ne p
        simp [this]
/-- A builder stays where all stays that was there. -/
theorem isB_keep {B b : Nat} {bs : List Value} {w W : World} (h : IsB B b bs w) (hb : Below w.heap.size w W) : IsB B b bs W := by
  have key : ∀ p, Lib.BuilderAt 126 5 B b p bs w → Lib.BuilderAt 126 5 B b p bs W := by
    intro p hp
    have hlt := hp.lt
    obtain ⟨hB, v, hbk, hown, hne⟩ := hp
    exact ⟨hB, v, by rw [hb.block b hlt]; exact hbk, hown.kept (row := none) ⟨hb.os, hb.tape, hb.output, hb.size, fun i hi _ => hb.block i hi⟩ (by cases v.ownBlock <;> simp), hne⟩
  rcases h with h | h
  · exact .inl (key _ h)
  · exact .inr (key _ h)
/-- What stands at the head of a round of text. -/
def TextRel (xs : List Nat) (at_ n : Int) (w : World) (i : Value) (W : World) : Prop :=
  ∃ (k : Nat) (done : List UInt8), k ≤ xs.length ∧ i = .int .i64 k ∧ textL xs = done ++ textGo at_ n k (xs.drop k) ∧ IsB w.heap.size w.heap.size (Lib.byteCells done) W ∧ Below w.heap.size w W ∧ done.length ≤ k * 70000
theorem text_step {xs : List Nat} {at_ n : Int} {k : Nat} {w W : World} {done new : List UInt8} (hk : k < xs.length) (ht : textL xs = done ++ textGo at_ n k (xs.drop k)) (hn : textAt at_ n k xs[k] = new)
    (hB : IsB w.heap.size w.heap.size (Lib.byteCells (done ++ new)) W) (hb : Below w.heap.size w W) (hl : done.length ≤ k * 70000) (hnl : new.length ≤ 70000) :
    TextRel xs at_ n w (.int .i64 ((k : Int) + 1)) W := by
  refine ⟨k + 1, done ++ new, hk, rfl, ?_, hB, hb, by rw [List.length_append]; omega⟩
  rw [ht, List.drop_eq_getElem_cons hk, textGo, hn, List.append_assoc]
  rfl
set_option maxHeartbeats 2000000 in
set_option maxRecDepth 100000 in
theorem text_walk (xs : List Nat) (b c : Nat) (w : World) (hl : xs.length ≤ 8) (h0 : xs ≠ []) (hb : b < w.heap.size) (hp : ∀ x ∈ xs, x ≤ 65535) (hc : ∀ j, j < xs.length → w.cell? ⟨b, j, none⟩ = some (.int .u16 (xs.getD j 0))) :
    Calls Tryd.prog 49 #[.slice (some ⟨b, 0, none⟩) xs.length c] w fun e w' => e = .returned (.string ⟨(textL xs).toArray⟩) ∧ Below w.heap.size w w' := by
  obtain ⟨r1, r2, r3, r4⟩ := runL_bounds xs
  have HT : Hid (textL xs = textGo (runL xs).1 (runL xs).2 0 xs) := Lib.hid rfl
  have HC := Lib.hid hc
  go_enter Tryd.func49, Tryd.ntmps49
  go_wp2_with fail
  refine (run_walk xs b c _ hl hc).mono ?_
  rintro e w1 ⟨rfl, rfl⟩
  generalize (runL xs).1 = at_ at *
  generalize (runL xs).2 = n at *
  clear hc
  go_wp2_with fail
  go_loopw [14] (fun i W => TextRel xs at_ n w i W) (fun i _ => xs.length - (intOf i).toNat)
  case atStart => exact ⟨0, [], Nat.zero_le _, rfl, HT.out, Lib.fresh_isBuilder _ _ _, (Below.refl _ _).alloc (Nat.le_refl _) _, by simp⟩
  case round =>
    obtain ⟨k, done, hk, rfl, ht, hB, hbl, hdl⟩ := hrel
    by_cases hlt : k < xs.length
    · have hpk := hp _ (List.getElem_mem hlt)
      have hwl : w.heap.size ≤ wr.heap.size := hbl.size
      have hcw : wr.cell? ⟨b, k, none⟩ = some (.int .u16 xs[k]) := by
        rw [hbl.cell (p := ⟨b, k, none⟩) hb, HC.out k hlt, List.getD_eq_getElem?_getD, List.getElem?_eq_getElem hlt]; rfl
      have HTT := Lib.hid ht
      have hbc : (Lib.byteCells done).length ≤ 560000 := by rw [Lib.byteCells_length]; omega
      have hhl := hexL_len xs[k]
      generalize hx : xs[k] = x at *
      have HX := Lib.hid hx
      clear ht hx
      by_cases c1 : (k : Int) = at_
      · subst c1
        go_wp2_with fail
        refine (writeString_walk w.heap.size w.heap.size (Lib.byteCells done) ⟨#[58, 58]⟩ _ hB (by simp [ByteArray.size]; omega) hwl).mono ?_
        rintro e w1 ⟨rfl, hA, hb1⟩
        go_wp2_with fail
        refine ⟨text_step hlt HTT.out (new := [58, 58]) (by rw [textAt, if_pos rfl]) (.inr (by rw [Lib.byteCells_append]; exact hA)) (hbl.trans hb1) hdl (by simp), run_meas hlt⟩
      · have e1 : ((k : Int) == at_) = false := beq_eq_false_iff_ne.2 c1
        by_cases c2 : 0 ≤ at_ ∧ at_ < k ∧ (k : Int) < at_ + n
        · obtain ⟨d1, d2, d3⟩ := c2
          go_wp2_with fail
          refine ⟨text_step hlt HTT.out (new := []) (by rw [textAt, if_neg c1, if_pos ⟨d1, d2, d3⟩]) (by simpa using hB) hbl hdl (by simp), run_meas hlt⟩
        · have hN : textAt at_ n k xs[k] = (if 0 < (k : Int) ∧ (k : Int) ≠ at_ + n then [58] else []) ++ hexL x := by rw [textAt, if_neg c1, if_neg c2, HX.out]
          have HN := Lib.hid hN
          clear hN
          have hd : at_ < 0 ∨ (0 ≤ at_ ∧ (k : Int) < at_) ∨ (0 ≤ at_ ∧ at_ < k ∧ at_ + n ≤ k) := by omega
          by_cases c3 : 0 < (k : Int) ∧ (k : Int) ≠ at_ + n
          · obtain ⟨c4, c5⟩ := c3
            have e2 : ((k : Int) != at_ + n) = true := by rw [bne_iff_ne]; exact c5
            clear c2
            rcases hd with d | ⟨d0, d⟩ | ⟨d0, d2, d⟩
            all_goals
              go_wp2_with fail
              refine (writeByte_walk w.heap.size w.heap.size (Lib.byteCells done) 58 _ hB (by omega) hwl).mono ?_
              rintro e w1 ⟨rfl, hA, hb1⟩
              have hcw1 : w1.cell? ⟨b, k, none⟩ = some (.int .u16 x) := by rw [hb1.cell (p := ⟨b, k, none⟩) hb]; exact hcw
              go_wp2_with fail
              refine (hex_walk x hpk _).mono ?_
              rintro e w2 ⟨rfl, hb2⟩
              have hA2 := isB_keep (.inr hA) hb2
              have hs1 := hb1.size
              have hs2 := hb2.size
              go_wp2_with fail
              refine (writeString_walk w.heap.size w.heap.size _ _ _ hA2 (by simp [ByteArray.size]; omega) (by omega)).mono ?_
              rintro e w3 ⟨rfl, hA3, hb3⟩
              go_wp2_with fail
              refine ⟨text_step hlt HTT.out (new := [58] ++ hexL x) (by rw [HN.out, if_pos ⟨c4, c5⟩]) (.inr (by simpa [Lib.byteCells, Lib.strCells] using hA3)) (((hbl.trans hb1).trans (hb2.mono (by omega))).trans hb3) hdl (by simp; omega), run_meas hlt⟩
          · have hd2 : (k : Int) ≤ 0 ∨ (0 < (k : Int) ∧ (k : Int) = at_ + n) := by omega
            rcases hd2 with d4 | ⟨d4, d5⟩
            · rcases hd with d | ⟨d0, d⟩ | ⟨d0, d2, d⟩
              all_goals
                first
                  | (exfalso; omega)
                  | (go_wp2_with fail
                     refine (hex_walk x hpk _).mono ?_
                     rintro e w2 ⟨rfl, hb2⟩
                     have hA2 := isB_keep hB hb2
                     have hs2 := hb2.size
                     go_wp2_with fail
                     refine (writeString_walk w.heap.size w.heap.size _ _ _ hA2 (by simp [ByteArray.size]; omega) (by omega)).mono ?_
                     rintro e w3 ⟨rfl, hA3, hb3⟩
                     go_wp2_with fail
                     refine ⟨text_step hlt HTT.out (new := hexL x) (by rw [HN.out, if_neg c3]; rfl) (.inr (by simpa [Lib.byteCells, Lib.strCells] using hA3)) ((hbl.trans (hb2.mono (by omega))).trans hb3) hdl (by omega), run_meas hlt⟩)
            · have e2 : ((k : Int) != at_ + n) = false := by rw [bne_eq_false_iff_eq]; exact d5
              clear d5
              rcases hd with d | ⟨d0, d⟩ | ⟨d0, d2, d⟩
              all_goals
                first
                  | (exfalso; omega)
                  | (go_wp2_with fail
                     refine (hex_walk x hpk _).mono ?_
                     rintro e w2 ⟨rfl, hb2⟩
                     have hA2 := isB_keep hB hb2
                     have hs2 := hb2.size
                     go_wp2_with fail
                     refine (writeString_walk w.heap.size w.heap.size _ _ _ hA2 (by simp [ByteArray.size]; omega) (by omega)).mono ?_
                     rintro e w3 ⟨rfl, hA3, hb3⟩
                     go_wp2_with fail
                     refine ⟨text_step hlt HTT.out (new := hexL x) (by rw [HN.out, if_neg c3]; rfl) (.inr (by simpa [Lib.byteCells, Lib.strCells] using hA3)) ((hbl.trans (hb2.mono (by omega))).trans hb3) hdl (by omega), run_meas hlt⟩)
    · obtain rfl : k = xs.length := by omega
      rw [List.drop_length, textGo, List.append_nil] at ht
      have hne : done ≠ [] := by
        intro h
        rw [h] at ht
        exact textL_ne h0 ht
      have HTT := Lib.hid ht
      clear ht hlt
      go_wp2_with fail
      refine (builderString_walk w.heap.size w.heap.size done _ hB hne).mono ?_
      rintro e w1 ⟨rfl, hb1⟩
      go_wp2_with fail
      go_returns
      exact ⟨by rw [HTT.out]; rfl, hbl.trans hb1⟩
end Go.Proofs.YtcgdjnmfeibnoaaDoor
/-! SixPrint -/
namespace Go.Proofs.YtcgdjnmfeibnoaaDoor
open Go.RowKit
set_option linter.unusedVariables false
set_option linter.unusedSimpArgs false
/-- The text of an address. -/
def printL (x0 x1 x2 x3 x4 x5 x6 x7 : Int) : List UInt8 := textL [x0.toNat, x1.toNat, x2.toNat, x3.toNat, x4.toNat, x5.toNat, x6.toNat, x7.toNat]
set_option maxHeartbeats 2000000 in
set_option maxRecDepth 100000 in
theorem print_walk (x0 x1 x2 x3 x4 x5 x6 x7 : Int) (h : R8 x0 x1 x2 x3 x4 x5 x6 x7) (w : World) :
    Calls Tryd.prog 17 #[A8 x0 x1 x2 x3 x4 x5 x6 x7] w fun e w' => e = .returned (.string ⟨(printL x0 x1 x2 x3 x4 x5 x6 x7).toArray⟩) ∧ Below w.heap.size w w' := by
  obtain ⟨⟨a0, b0⟩, ⟨a1, b1⟩, ⟨a2, b2⟩, ⟨a3, b3⟩, ⟨a4, b4⟩, ⟨a5, b5⟩, ⟨a6, b6⟩, ⟨a7, b7⟩⟩ := h
  obtain ⟨n0, rfl⟩ := Int.eq_ofNat_of_zero_le a0
  obtain ⟨n1, rfl⟩ := Int.eq_ofNat_of_zero_le a1
  obtain ⟨n2, rfl⟩ := Int.eq_ofNat_of_zero_le a2
  obtain ⟨n3, rfl⟩ := Int.eq_ofNat_of_zero_le a3
  obtain ⟨n4, rfl⟩ := Int.eq_ofNat_of_zero_le a4
  obtain ⟨n5, rfl⟩ := Int.eq_ofNat_of_zero_le a5
  obtain ⟨n6, rfl⟩ := Int.eq_ofNat_of_zero_le a6
  obtain ⟨n7, rfl⟩ := Int.eq_ofNat_of_zero_le a7
  have hT := text_walk [n0, n1, n2, n3, n4, n5, n6, n7] w.heap.size 8 (w.alloc (.cells #[.int .u16 n0, .int .u16 n1, .int .u16 n2, .int .u16 n3, .int .u16 n4, .int .u16 n5, .int .u16 n6, .int .u16 n7] 24))
    (by simp) (by simp) (by simp) (by
      intro x hx
      simp only [List.mem_cons, List.not_mem_nil, or_false] at hx
      omega)
    (by
      intro j hj
      have hb : (w.alloc (.cells #[.int .u16 n0, .int .u16 n1, .int .u16 n2, .int .u16 n3, .int .u16 n4, .int .u16 n5, .int .u16 n6, .int .u16 n7] 24)).heap[w.heap.size]? = some (.cells #[.int .u16 n0, .int .u16 n1, .int .u16 n2, .int .u16 n3, .int .u16 n4, .int .u16 n5, .int .u16 n6, .int .u16 n7] 24 (0, 0)) := heap_alloc_new w _
      rw [Lib.cell_of_heap hb]
      match j, hj with
      | 0, _ => rfl
      | 1, _ => rfl
      | 2, _ => rfl
      | 3, _ => rfl
      | 4, _ => rfl
      | 5, _ => rfl
      | 6, _ => rfl
      | 7, _ => rfl
      | j + 8, hj => exact absurd hj (by simp))
  have HT := Lib.hid hT
  clear hT
  go_enter Tryd.func17, Tryd.ntmps17
  go_wp2_with fail
  refine (HT.out).mono ?_
  rintro e w1 ⟨rfl, hb⟩
  go_wp2_with fail
  go_returns
  exact ⟨rfl, ((Below.refl _ _).alloc (Nat.le_refl _) _).trans (hb.mono (by simp))⟩
theorem revHex_one : revHex 1 = [49] := by rw [revHex_last (by decide)]; rfl
theorem text_one : textL [0, 0, 0, 0, 0, 0, 0, 1] = [58, 58, 49] := by
  unfold textL
  rw [show runL [0, 0, 0, 0, 0, 0, 0, 1] = (0, 7) from by decide]
  simp [textGo, textAt, hexL, revHex_one]
set_option maxHeartbeats 1000000 in
set_option maxRecDepth 100000 in
theorem awake_walk (w : World) : Calls Tryd.prog 12 #[] w fun e w' => e = .returned (.bool true) ∧ Below w.heap.size w w' := by
  go_enter Tryd.func12, Tryd.ntmps12
  go_wp2_with fail
  refine (print_walk 0 0 0 0 0 0 0 1 ⟨by decide, by decide, by decide, by decide, by decide, by decide, by decide, by decide⟩ _).mono ?_
  rintro e w1 ⟨rfl, hb⟩
  rw [show printL 0 0 0 0 0 0 0 1 = [58, 58, 49] from text_one]
  go_wp2_with fail
  go_returns
  exact ⟨rfl, hb⟩
end Go.Proofs.YtcgdjnmfeibnoaaDoor
/-! SixEq -/
namespace Go.Proofs.YtcgdjnmfeibnoaaDoor
open Go.RowKit
set_option linter.unusedVariables false
set_option linter.unusedSimpArgs false
@[go_sem] theorem eq8_flat (x0 x1 x2 x3 x4 x5 x6 x7 y0 y1 y2 y3 y4 y5 y6 y7 : Int) (w : World) :
    (Op.equalIn 10000 23 (A8 x0 x1 x2 x3 x4 x5 x6 x7) (A8 y0 y1 y2 y3 y4 y5 y6 y7)).run Tryd.prog w = .ok (x0 == y0 && (x1 == y1 && (x2 == y2 && (x3 == y3 && (x4 == y4 && (x5 == y5 && (x6 == y6 && x7 == y7))))))) w := by
  obtain ⟨i, hi, _⟩ := info_parts (show (Tryd.prog.info? 22).map (fun i => (i.zero, i.size, i.bytes)) = some (some (.int .u16 0), 1, 2) by kernel_rfl)
  exact run_eq8 Tryd.underlying23 hi Tryd.underlying22 (by kernel_rfl) ..
end Go.Proofs.YtcgdjnmfeibnoaaDoor
/-! SixParses -/
namespace Go.Proofs.YtcgdjnmfeibnoaaDoor
open Go.RowKit Go.Proofs.YtcgdjnmfeibnoaaDoorW.PrintWords
set_option linter.unusedVariables false
set_option linter.unusedSimpArgs false
theorem parsed_atP {s : ByteArray} {w : World} {f : Nat → Int} {a b : Int} (hp : parseP s.data.toList = (f, a, b)) {e : Ending} {w' : World} (h : RefParsed s w e w') :
    e = .returned (.tuple #[.agg #[.int .u16 (f 0), .int .u16 (f 1), .int .u16 (f 2), .int .u16 (f 3), .int .u16 (f 4), .int .u16 (f 5), .int .u16 (f 6), .int .u16 (f 7)], .int .i64 a, .int .i64 b]) ∧ Below w.heap.size w w' := by
  obtain ⟨g, rfl, hg, hb⟩ := h
  obtain ⟨h1, h2⟩ := parse_same s.data.toList
  rw [hp] at h1 h2
  rw [← h2]
  refine ⟨?_, hb⟩
  rw [ar8_ext (fun j hj => (hg j hj).trans (h1 j hj).symm)]
  rfl
end Go.Proofs.YtcgdjnmfeibnoaaDoor
/-! SixPath -/
namespace Go.Proofs.YtcgdjnmfeibnoaaDoor
open Go.RowKit Go.Proofs.YtcgdjnmfeibnoaaDoorW.PrintWords
set_option linter.unusedVariables false
set_option linter.unusedSimpArgs false
/-- A way of a reader over a text. -/
inductive Way : List UInt8 → St → St → Prop
  | none {s : St} : Way [] s s
  | more {c : UInt8} {t : List UInt8} {s y z : St} (h : y ∈ nextP s (c.toNat : Int)) (r : Way t y z) : Way (c :: t) s z
theorem Way.one {c : UInt8} {s y : St} (h : y ∈ nextP s (c.toNat : Int)) : Way [c] s y := .more h .none
theorem Way.trans {a b : List UInt8} {s y z : St} (h : Way a s y) (k : Way b y z) : Way (a ++ b) s z := by
  induction h with
  | none => exact k
  | more h _ ih => exact .more h (ih k)
theorem Way.states {t : List UInt8} {s z : St} (h : Way t s z) : ∀ (l : List St) (i : Nat), s ∈ l → ∃ m, statesV t l i = .inr m ∧ z ∈ m := by
  induction h with
  | none => exact fun l i hs => ⟨l, rfl, hs⟩
  | @more c t s y z h _ ih =>
    intro l i hs
    have hy : y ∈ l.flatMap (nextP · (c.toNat : Int)) := List.mem_flatMap.2 ⟨s, hs, h⟩
    rw [statesV, if_neg (fun e => by rw [e] at hy; cases hy)]
    exact ih _ _ hy
theorem way_parse {t : List UInt8} {z : St} (h : Way t st0 z) (he : endsP z = true) : parseP t = (outOf (writtenV (cut2 t).1) (writtenV (cut2 t).2.1), 0, 0) := by
  obtain ⟨m, hm, hz⟩ := h.states [st0] 0 (by simp)
  unfold parseP
  rw [hm]
  simp only
  rw [if_pos (List.any_eq_true.2 ⟨z, hz, he⟩)]
theorem hex_not58 {c : UInt8} (h : 0 ≤ digV (c.toNat : Int) 16) : ¬ (c.toNat : Int) = 58 := fun e => by rw [e, hex_58] at h; omega
theorem next_dig {s : St} {c : UInt8} (hw : s.wh = 4) (hd : s.dg < 4) (h : 0 ≤ digV (c.toNat : Int) 16) : { s with dg := s.dg + 1 } ∈ nextP s (c.toNat : Int) := by
  have h58 := hex_not58 h
  unfold nextP
  rw [if_neg (by omega), if_neg (by omega), if_neg (by omega), if_neg (by omega), if_pos ⟨hw, h, hd⟩]
  simp
theorem way_digits : ∀ (p : List UInt8) (s : St), s.wh = 4 → s.dg + (p.length : Int) ≤ 4 → (∀ c ∈ p, 0 ≤ digV (c.toNat : Int) 16) → Way p s { s with dg := s.dg + (p.length : Int) }
  | [], s, _, _, _ => by
    have : ({ s with dg := s.dg + (([] : List UInt8).length : Int) } : St) = s := by simp
    rw [this]; exact .none
  | c :: p, s, hw, hd, h => by
    rw [List.length_cons] at hd
    have ih := way_digits p { s with dg := s.dg + 1 } hw (by show s.dg + 1 + (p.length : Int) ≤ 4; omega) (fun x hx => h x (List.mem_cons_of_mem _ hx))
    have e : ({ s with dg := s.dg + ((c :: p).length : Int) } : St) = { s with dg := s.dg + 1 + (p.length : Int) } := by
      rw [List.length_cons]
      congr 1
      omega
    rw [e]
    exact .more (next_dig hw (by omega) (h c (by simp))) ih
/-- Where a piece may begin. -/
def opens (s : St) : Prop := s.wh = 0 ∨ s.wh = 2 ∨ s.wh = 3
theorem next_first {s : St} {c : UInt8} (hw : opens s) (hm : moreP s = true) (h : 0 ≤ digV (c.toNat : Int) 16) : { s with wh := 4, dg := 1 } ∈ nextP s (c.toNat : Int) := by
  have h58 := hex_not58 h
  unfold nextP opens at *
  rw [if_neg (by omega), if_neg (by omega), if_pos hw]
  unfold beginP
  rw [if_pos ⟨h, hm⟩]
  simp
theorem way_piece {p : List UInt8} (hp : Pc p) {s : St} (hw : opens s) (hm : moreP s = true) : Way p s { s with wh := 4, dg := (p.length : Int) } := by
  obtain ⟨l1, l4, hx⟩ := hp
  cases p with
  | nil => simp at l1
  | cons c p =>
    have h1 := next_first hw hm (hx c (by simp))
    have h2 := way_digits p { s with wh := 4, dg := 1 } rfl (by simp at l4; show (1 : Int) + p.length ≤ 4; omega) (fun x q => hx x (List.mem_cons_of_mem _ q))
    have e : ({ s with wh := 4, dg := ((c :: p).length : Int) } : St) = { s with wh := 4, dg := 1 + (p.length : Int) } := by
      rw [List.length_cons]
      congr 1
      omega
    rw [e]
    exact .more h1 h2
theorem next_end {s : St} (hw : s.wh = 4) (hm : moreP { s with wh := 2, pc := s.pc + 1 } = true) : { s with wh := 2, pc := s.pc + 1 } ∈ nextP s 58 := by
  unfold nextP
  rw [if_neg (by omega), if_neg (by omega), if_neg (by omega), if_pos ⟨hw, rfl⟩, if_pos hm]
  simp
/-- How many pieces there may be. -/
def mostOf (s : St) : Int := if s.gap then 7 else 8
theorem more_most (s : St) : moreP s = decide (s.pc < mostOf s) := by
  unfold moreP mostOf
  split <;> rfl
/-- Pieces, a colon behind each, behind which one more may stand. -/
theorem way_ends : ∀ (fs : List (List UInt8)) (s : St), (∀ p ∈ fs, Pc p) → opens s → s.pc + (fs.length : Int) < mostOf s → ∃ z, Way (endC fs) s z ∧ opens z ∧ z.pc = s.pc + (fs.length : Int) ∧ z.gap = s.gap ∧ z.nu = s.nu ∧ (fs ≠ [] → z.wh = 2) ∧ (fs = [] → z = s)
  | [], s, _, hw, _ => ⟨s, .none, hw, by simp, rfl, rfl, fun h => absurd rfl h, fun _ => rfl⟩
  | p :: r, s, hp, hw, hn => by
    rw [List.length_cons] at hn
    have h1 := way_piece (hp p (by simp)) hw (by rw [more_most]; exact decide_eq_true (by omega))
    have hm : moreP { s with wh := 2, pc := s.pc + 1, dg := (p.length : Int) } = true := by
      rw [more_most]
      refine decide_eq_true ?_
      show s.pc + 1 < mostOf s
      omega
    have h2 : Way [58] { s with wh := 4, dg := (p.length : Int) } { s with wh := 2, pc := s.pc + 1, dg := (p.length : Int) } := .one (next_end (s := { s with wh := 4, dg := (p.length : Int) }) rfl hm)
    obtain ⟨z, hz, ho, a, b, c, d, e⟩ := way_ends r { s with wh := 2, pc := s.pc + 1, dg := (p.length : Int) } (fun q hq => hp q (List.mem_cons_of_mem _ hq)) (.inr (.inl rfl)) (by show s.pc + 1 + (r.length : Int) < mostOf s; omega)
    refine ⟨z, ?_, ho, by rw [a, List.length_cons]; show s.pc + 1 + (r.length : Int) = _; omega, b, c, fun _ => ?_, fun h => by cases h⟩
    · have := (h1.trans h2).trans hz
      rw [endC]
      simpa using this
    · by_cases hr : r = []
      · rw [e hr]
      · exact d hr
/-- The state behind '::'. -/
theorem way_gap (fs : List (List UInt8)) (hp : ∀ p ∈ fs, Pc p) (hn : fs.length ≤ 7) : ∃ z, Way (headC fs ++ [58]) st0 z ∧ z.wh = 3 ∧ z.pc = (fs.length : Int) ∧ z.gap = true ∧ z.nu = 0 := by
  unfold headC
  by_cases hf : fs = []
  · subst hf
    rw [if_pos rfl]
    refine ⟨{ st0 with wh := 3, gap := true }, .more (y := { st0 with wh := 1 }) ?_ (.one ?_), rfl, rfl, rfl, rfl⟩
    · unfold nextP; rw [if_pos ⟨rfl, rfl⟩]; simp
    · unfold nextP; rw [if_neg (by decide), if_pos (by decide)]; simp
  · rw [if_neg hf]
    obtain ⟨z, hz, _, a, b, c, d, _⟩ := way_ends fs st0 hp (.inl rfl) (by show (0 : Int) + _ < 8; omega)
    have h2 := d hf
    refine ⟨{ z with wh := 3, gap := true }, hz.trans (.one ?_), rfl, by rw [show ({ z with wh := 3, gap := true } : St).pc = z.pc from rfl, a]; show (0 : Int) + _ = _; omega, rfl, c⟩
    unfold nextP
    rw [if_neg (by omega), if_pos ⟨.inr ⟨h2, b⟩, rfl⟩]
    simp
/-- Pieces, all eight of them. -/
theorem parse_full (fs : List (List UInt8)) (hp : ∀ p ∈ fs, Pc p) (hn : fs.length = 8) : parseP (joinC fs) = (outOf (fs.map pcV) [], 0, 0) := by
  obtain ⟨f, cur, rfl⟩ : ∃ f cur, fs = f ++ [cur] := ⟨fs.dropLast, fs.getLast (fun e => by rw [e] at hn; cases hn), (List.dropLast_concat_getLast _).symm⟩
  have hc : Pc cur := hp cur (by simp)
  have hf : ∀ p ∈ f, Pc p := fun p h => hp p (by simp [h])
  rw [List.length_append] at hn
  simp at hn
  rw [joinC_last]
  obtain ⟨z, hz, ho, a, b, c, d, _⟩ := way_ends f st0 hf (.inl rfl) (by show (0 : Int) + _ < 8; omega)
  have ha : z.pc = 7 := by rw [a]; show (0 : Int) + _ = 7; omega
  have hb : z.gap = false := b
  have h1 := hz.trans (way_piece hc ho (by rw [more_most]; refine decide_eq_true ?_; unfold mostOf; rw [hb, ha]; decide))
  rw [way_parse h1 (by unfold endsP; show (if (4 : Int) = 3 then true else if (4 : Int) = 4 then (z.gap || decide (z.pc = 7)) else _) = true; rw [if_neg (by decide), if_pos rfl, ha]; simp)]
  obtain ⟨e1, e2⟩ := cut_neg hf hc.pt
  rw [e1]
  show (outOf (writtenV (endC f ++ cur)) (writtenV []), (0 : Int), (0 : Int)) = _
  rw [e2, grpV_pc hc, List.map_append]
  rfl
/-- Pieces ahead of '::' and behind it. -/
theorem parse_gap (fs bs : List (List UInt8)) (hp : ∀ p ∈ fs, Pc p) (hb : ∀ p ∈ bs, Pc p) (hn : fs.length + bs.length ≤ 7) : parseP (joinC fs ++ 58 :: 58 :: joinC bs) = (outOf (fs.map pcV) (bs.map pcV), 0, 0) := by
  have e0 : ∀ l : List UInt8, joinC fs ++ 58 :: 58 :: l = headC fs ++ 58 :: l := by
    intro l
    unfold headC
    by_cases h : fs = []
    · rw [if_pos h, h]; rfl
    · rw [if_neg h, endC_join h]; simp
  rw [e0]
  obtain ⟨z, hz, z3, zp, zg, zn⟩ := way_gap fs hp (by omega)
  have hcut := cut_pos hp (joinC bs)
  by_cases hbs : bs = []
  · subst hbs
    have h1 : Way (headC fs ++ 58 :: joinC []) st0 z := hz
    rw [way_parse h1 (by unfold endsP; rw [if_pos z3]), hcut.1]
    show (outOf (writtenV (joinC fs)) (writtenV []), (0 : Int), (0 : Int)) = _
    rw [hcut.2]
    rfl
  · obtain ⟨b, cur, rfl⟩ : ∃ b cur, bs = b ++ [cur] := ⟨bs.dropLast, bs.getLast hbs, (List.dropLast_concat_getLast _).symm⟩
    have hc : Pc cur := hb cur (by simp)
    have hf : ∀ p ∈ b, Pc p := fun p h => hb p (by simp [h])
    rw [List.length_append] at hn
    simp at hn
    have hmz : mostOf z = 7 := by unfold mostOf; rw [zg]; rfl
    obtain ⟨y, hy, yo, ya, yb, _, _, _⟩ := way_ends b z hf (.inr (.inr z3)) (by rw [hmz, zp]; omega)
    have h2 := (hz.trans hy).trans (way_piece hc yo (by rw [more_most]; refine decide_eq_true ?_; unfold mostOf; rw [yb, zg, ya, zp]; show _ < (7 : Int); omega))
    have e3 : headC fs ++ [58] ++ endC b ++ cur = headC fs ++ 58 :: joinC (b ++ [cur]) := by rw [joinC_last]; simp
    rw [e3] at h2
    rw [way_parse h2 (by unfold endsP; show (if (4 : Int) = 3 then true else if (4 : Int) = 4 then (y.gap || decide (y.pc = 7)) else _) = true; rw [if_neg (by decide), if_pos rfl, yb, zg]; rfl), hcut.1]
    show (outOf (writtenV (joinC fs)) (writtenV (joinC (b ++ [cur]))), (0 : Int), (0 : Int)) = _
    rw [hcut.2, joinC_last, written_back hf hc.pt, grpV_pc hc, List.map_append]
    rfl
theorem strict_pt {q : List UInt8} {n : Int} (h : strictV q = (n, 0, 0)) : (46 : UInt8) ∈ q := by
  refine Classical.byContradiction fun hno => ?_
  unfold strictV at h
  have := strictL_no q 0 0 0 0 0 hno (by decide)
  rw [h] at this
  cases this
end Go.Proofs.YtcgdjnmfeibnoaaDoor
/-! SixRunV -/
namespace Go.Proofs.YtcgdjnmfeibnoaaDoor
open Go.RowKit Go.Proofs.YtcgdjnmfeibnoaaDoorW.PrintWords
set_option linter.unusedVariables false
set_option linter.unusedSimpArgs false
/-- Is the piece there a nought? -/
def nought (xs : List Nat) (j : Nat) : Prop := xs.getD j 1 = 0
/-- A stretch of noughts. -/
def noughts (xs : List Nat) (i z : Nat) : Prop := ∀ j, i ≤ j → j < i + z → nought xs j
structure RI (xs : List Nat) (k : Nat) (at_ most from_ : Int) : Prop where
  f0 : 0 ≤ from_
  fk : from_ ≤ k
  fz : ∀ j : Nat, from_ ≤ j → j < k → nought xs j
  fn : 0 < from_ → ¬ nought xs (from_ - 1).toNat
  lo : -1 ≤ at_
  m1 : 1 ≤ most
  pos : 0 ≤ at_ → 2 ≤ most ∧ at_ + most ≤ k ∧ ∀ j : Nat, at_ ≤ j → (j : Int) < at_ + most → nought xs j
  max : ∀ i z : Nat, i + z ≤ k → noughts xs i z → (z : Int) ≤ most
theorem run_inv (xs : List Nat) : ∀ (r : List Nat) (k : Nat) (at_ most from_ : Int), xs.drop k = r → k ≤ xs.length → RI xs k at_ most from_ → ∃ f, RI xs xs.length (runGo r k at_ most from_).1 (runGo r k at_ most from_).2 f
  | [], k, at_, most, from_, hd, hk, h => by
    have : k = xs.length := by
      have := congrArg List.length hd
      simp at this
      omega
    subst this
    exact ⟨from_, h⟩
  | p :: r, k, at_, most, from_, hd, hk, h => by
    have hlt : k < xs.length := by
      have := congrArg List.length hd
      simp at this
      omega
    rw [List.drop_eq_getElem_cons hlt] at hd
    injection hd with hp hd
    have hnp : xs.getD k 1 = p := by rw [List.getD_eq_getElem?_getD, List.getElem?_eq_getElem hlt]; exact hp
    have hlast : ∀ i z : Nat, i + z = k + 1 → 0 < z → noughts xs i z → p = 0 ∧ from_ ≤ i := by
      intro i z hz h0 hn
      have h1 := hn k (by omega) (by omega)
      unfold nought at h1
      refine ⟨by omega, ?_⟩
      rcases Int.lt_or_le (i : Int) from_ with hi | hi
      · exfalso
        have hf := h.fk
        exact h.fn (by omega) (hn (from_ - 1).toNat (by omega) (by omega))
      · exact hi
    rw [runGo]
    by_cases h0 : p = 0
    · rw [if_pos h0]
      have hz : nought xs k := by unfold nought; omega
      have fz : ∀ j : Nat, from_ ≤ j → j < k + 1 → nought xs j := fun j a b => by
        rcases Nat.lt_or_eq_of_le (Nat.le_of_lt_succ b) with c | c
        · exact h.fz j a c
        · rw [c]; exact hz
      by_cases hm : most < (k : Int) + 1 - from_
      · rw [if_pos hm]
        refine run_inv xs r (k + 1) _ _ _ hd hlt ⟨h.f0, by have := h.fk; omega, fz, h.fn, by have := h.f0; omega, by have := h.m1; omega, fun _ => ⟨by have := h.m1; omega, by omega, fun j a b => fz j a (by omega)⟩, ?_⟩
        intro i z hz' hn
        rcases Nat.eq_zero_or_pos z with hz0 | hz0
        · have := h.fk; omega
        · rcases Nat.lt_or_eq_of_le hz' with c | c
          · have := h.max i z (by omega) hn; omega
          · have := (hlast i z c hz0 hn).2; omega
      · rw [if_neg hm]
        refine run_inv xs r (k + 1) _ _ _ hd hlt ⟨h.f0, by have := h.fk; omega, fz, h.fn, h.lo, h.m1, fun a => ⟨(h.pos a).1, by have := (h.pos a).2.1; omega, (h.pos a).2.2⟩, ?_⟩
        intro i z hz' hn
        rcases Nat.eq_zero_or_pos z with hz0 | hz0
        · have := h.m1; omega
        · rcases Nat.lt_or_eq_of_le hz' with c | c
          · exact h.max i z (by omega) hn
          · have := (hlast i z c hz0 hn).2; omega
    · rw [if_neg h0]
      refine run_inv xs r (k + 1) _ _ _ hd hlt ⟨by omega, by omega, fun j a b => by omega, fun _ => ?_, h.lo, h.m1, fun a => ⟨(h.pos a).1, by have := (h.pos a).2.1; omega, (h.pos a).2.2⟩, ?_⟩
      · rw [show ((k : Int) + 1 - 1).toNat = k by omega]
        unfold nought
        omega
      · intro i z hz' hn
        rcases Nat.eq_zero_or_pos z with hz0 | hz0
        · have := h.m1; omega
        · rcases Nat.lt_or_eq_of_le hz' with c | c
          · exact h.max i z (by omega) hn
          · exact absurd (hlast i z c hz0 hn).1 h0
/-- The run: none, and no two noughts stand together; or the longest stretch. -/
theorem runL_spec (xs : List Nat) : (runL xs = (-1, 0) ∧ ∀ i z, i + z ≤ xs.length → noughts xs i z → z ≤ 1) ∨
    ∃ a n : Nat, runL xs = ((a : Int), (n : Int)) ∧ 2 ≤ n ∧ a + n ≤ xs.length ∧ noughts xs a n ∧ ∀ i z, i + z ≤ xs.length → noughts xs i z → z ≤ n := by
  obtain ⟨f, h⟩ := run_inv xs xs 0 (-1) 1 0 rfl (Nat.zero_le _) ⟨by omega, by omega, fun j _ b => by omega, fun q => by omega, by omega, by omega, fun q => by omega, fun i z hz _ => by omega⟩
  have h : RI xs xs.length (runGo xs 0 (-1) 1 0).1 (runGo xs 0 (-1) 1 0).2 f := h
  have hneg : (runGo xs 0 (-1) 1 0).1 < 0 → (runGo xs 0 (-1) 1 0).2 = 1 := by
    have key : ∀ (r : List Nat) (k at_ most from_ : Int), 0 ≤ from_ → (at_ < 0 → most = 1) → (runGo r k at_ most from_).1 < 0 → 0 ≤ k → (runGo r k at_ most from_).2 = 1 := by
      intro r
      induction r with
      | nil => intro k at_ most from_ _ h1 h2 _; exact h1 h2
      | cons p r ih =>
        intro k at_ most from_ h0 h1 h2 hk
        rw [runGo] at h2 ⊢
        split at h2
        · split at h2
          · rename_i a b
            rw [if_pos a, if_pos b]
            exact ih _ _ _ _ h0 (fun q => by omega) h2 (by omega)
          · rename_i a b
            rw [if_pos a, if_neg b]
            exact ih _ _ _ _ h0 h1 h2 (by omega)
        · rename_i a
          rw [if_neg a]
          exact ih _ _ _ _ (by omega) h1 h2 (by omega)
    exact fun q => key xs 0 (-1) 1 0 (Int.le_refl _) (fun _ => rfl) q (Int.le_refl _)
  unfold runL
  by_cases hn : (runGo xs 0 (-1) 1 0).1 < 0
  · left
    rw [if_pos hn]
    refine ⟨rfl, fun i z a b => ?_⟩
    have h1 := h.max i z a b
    have h2 := hneg hn
    omega
  · right
    rw [if_neg hn]
    have hp := h.pos (by simpa using hn)
    obtain ⟨p1, p2, p3⟩ := hp
    have ea : (((runGo xs 0 (-1) 1 0).1.toNat : Nat) : Int) = (runGo xs 0 (-1) 1 0).1 := by omega
    have en : (((runGo xs 0 (-1) 1 0).2.toNat : Nat) : Int) = (runGo xs 0 (-1) 1 0).2 := by omega
    refine ⟨(runGo xs 0 (-1) 1 0).1.toNat, (runGo xs 0 (-1) 1 0).2.toNat, by rw [ea, en], by omega, by omega, fun j a b => p3 j (by omega) (by omega), fun i z a b => ?_⟩
    have := h.max i z a b
    omega
/-- Pieces, a colon ahead of each. -/
def colJ (l : List (List UInt8)) : List UInt8 := l.flatMap (fun p => 58 :: p)
theorem joinC_cons (p : List UInt8) (l : List (List UInt8)) : joinC (p :: l) = p ++ colJ l := by
  induction l generalizing p with
  | nil => simp [joinC, colJ]
  | cons q l ih => rw [joinC, ih]; simp [colJ]
theorem textGo_app (a n : Int) : ∀ (l r : List Nat) (i : Int), textGo a n i (l ++ r) = textGo a n i l ++ textGo a n (i + l.length) r
  | [], r, i => by simp [textGo]
  | p :: l, r, i => by
    rw [List.cons_append, textGo, textGo_app a n l r (i + 1), textGo, List.append_assoc, List.length_cons]
    congr 3
    omega
/-- Pieces out of the run, behind others. -/
theorem textGo_col (a n : Int) (hn : 0 ≤ n) : ∀ (l : List Nat) (i : Int), 0 < i → (a < 0 ∧ n = 0 ∨ i + l.length ≤ a ∨ a + n < i) → textGo a n i l = colJ (l.map hexL)
  | [], i, _, _ => rfl
  | p :: l, i, h0, h => by
    rw [List.length_cons] at h
    rw [textGo, textGo_col a n hn l (i + 1) (by omega) (by omega)]
    unfold textAt
    rw [if_neg (by omega), if_neg (by omega), if_pos (by omega)]
    simp [colJ]
/-- Pieces out of the run: the first ones, or the first ones behind the run. -/
theorem textGo_join (a n : Int) (hn : 0 ≤ n) (l : List Nat) (i : Int) (h : i = 0 ∧ (a < 0 ∧ n = 0 ∨ (l.length : Int) ≤ a) ∨ 0 < i ∧ 0 ≤ a ∧ 0 < n ∧ i = a + n) : textGo a n i l = joinC (l.map hexL) := by
  cases l with
  | nil => rfl
  | cons p l =>
    rw [List.length_cons] at h
    rw [textGo, textGo_col a n hn l (i + 1) (by omega) (by omega), List.map_cons, joinC_cons]
    unfold textAt
    rw [if_neg (by omega), if_neg (by omega), if_neg (by omega)]
    simp
/-- The run itself. -/
theorem textGo_in (a n : Int) (ha : 0 ≤ a) : ∀ (l : List Nat) (i : Int), a < i → i + l.length ≤ a + n → textGo a n i l = []
  | [], i, _, _ => rfl
  | p :: l, i, h0, h => by
    rw [List.length_cons] at h
    rw [textGo, textGo_in a n ha l (i + 1) (by omega) (by omega)]
    unfold textAt
    rw [if_neg (by omega), if_pos (by omega)]
    rfl
theorem textGo_run (a n : Int) (ha : 0 ≤ a) (l : List Nat) (h : (l.length : Int) = n) (hn : 0 < n) : textGo a n a l = [58, 58] := by
  cases l with
  | nil => simp at h; omega
  | cons p l =>
    rw [List.length_cons] at h
    rw [textGo, textGo_in a n ha l (a + 1) (by omega) (by omega)]
    unfold textAt
    rw [if_pos rfl]
    rfl
/-- The text of pieces: all of them; or those ahead of the longest stretch of noughts and those behind it. -/
theorem textL_spec (xs : List Nat) : (textL xs = joinC (xs.map hexL) ∧ runL xs = (-1, 0) ∧ ∀ i z, i + z ≤ xs.length → noughts xs i z → z ≤ 1) ∨
    ∃ a n : Nat, runL xs = ((a : Int), (n : Int)) ∧ 2 ≤ n ∧ a + n ≤ xs.length ∧ noughts xs a n ∧ (∀ i z, i + z ≤ xs.length → noughts xs i z → z ≤ n) ∧ textL xs = joinC ((xs.take a).map hexL) ++ 58 :: 58 :: joinC ((xs.drop (a + n)).map hexL) := by
  rcases runL_spec xs with ⟨h, hm⟩ | ⟨a, n, h, h2, hl, hz, hm⟩
  · left
    refine ⟨?_, h, hm⟩
    unfold textL
    rw [h]
    exact textGo_join (-1) 0 (by decide) xs 0 (.inl ⟨rfl, .inl ⟨by decide, rfl⟩⟩)
  · right
    refine ⟨a, n, h, h2, hl, hz, hm, ?_⟩
    unfold textL
    rw [h]
    have e : xs = xs.take a ++ ((xs.drop a).take n ++ xs.drop (a + n)) := by
      rw [← List.drop_drop, List.take_append_drop, List.take_append_drop]
    have l1 : (xs.take a).length = a := by rw [List.length_take]; omega
    have l2 : ((xs.drop a).take n).length = n := by rw [List.length_take, List.length_drop]; omega
    show textGo (a : Int) (n : Int) 0 xs = _
    rw [show textGo (a : Int) (n : Int) 0 xs = textGo (a : Int) (n : Int) 0 (xs.take a ++ ((xs.drop a).take n ++ xs.drop (a + n))) from by rw [← e]]
    rw [textGo_app, textGo_app, l1, l2, textGo_join (a : Int) (n : Int) (by omega) _ 0 (.inl ⟨rfl, .inr (by omega)⟩)]
    rw [show (0 : Int) + (a : Int) = (a : Int) by omega, textGo_run (a : Int) (n : Int) (by omega) _ (by omega) (by omega)]
    rw [textGo_join (a : Int) (n : Int) (by omega) _ ((a : Int) + (n : Int)) (.inr ⟨by omega, by omega, by omega, rfl⟩)]
    rfl
/-- A piece's text. -/
theorem revHex_short (k : Nat) : ∀ n : Nat, n < 16 ^ (k + 1) → (revHex n).length ≤ k + 1 := by
  induction k with
  | zero =>
    intro n h
    rw [revHex_last (by omega)]
    simp
  | succ k ih =>
    intro n h
    by_cases h0 : n / 16 = 0
    · rw [revHex_last h0]; simp
    · rw [revHex_more h0, List.length_cons]
      have := ih (n / 16) (by rw [Nat.pow_succ] at h; omega)
      omega
theorem hexL_short {n k : Nat} (h : n < 16 ^ (k + 1)) : (hexL n).length ≤ k + 1 := by
  unfold hexL
  rw [List.length_reverse]
  exact revHex_short k n h
theorem digB_dig (d : Nat) (h : d < 16) : digV ((digB d).toNat : Int) 16 = (d : Int) := by
  have hc : d = 0 ∨ d = 1 ∨ d = 2 ∨ d = 3 ∨ d = 4 ∨ d = 5 ∨ d = 6 ∨ d = 7 ∨ d = 8 ∨ d = 9 ∨ d = 10 ∨ d = 11 ∨ d = 12 ∨ d = 13 ∨ d = 14 ∨ d = 15 := by omega
  rcases hc with rfl | rfl | rfl | rfl | rfl | rfl | rfl | rfl | rfl | rfl | rfl | rfl | rfl | rfl | rfl | rfl <;> decide
theorem hexF_snoc (n : Int) (l : List UInt8) (c : UInt8) : hexF n (l ++ [c]) = 16 * hexF n l + digV (c.toNat : Int) 16 := by
  rw [hexF_app]
  rfl
theorem revHex_val (n : Nat) : hexF 0 (revHex n).reverse = (n : Int) ∧ ∀ c ∈ (revHex n).reverse, 0 ≤ digV (c.toNat : Int) 16 := by
  induction n using Nat.strongRecOn with
  | ind n ih =>
    have hd := digB_dig (n % 16) (Nat.mod_lt _ (by decide))
    by_cases h0 : n / 16 = 0
    · rw [revHex_last h0]
      refine ⟨?_, fun c hc => ?_⟩
      · show hexF 0 ([] ++ [digB (n % 16)]) = _
        rw [hexF_snoc, hd]
        show 16 * (0 : Int) + _ = _
        omega
      · simp at hc
        rw [hc, hd]
        omega
    · obtain ⟨a, b⟩ := ih (n / 16) (by omega)
      rw [revHex_more h0, List.reverse_cons]
      refine ⟨by rw [hexF_snoc, a, hd]; omega, fun c hc => ?_⟩
      rcases List.mem_append.1 hc with hc | hc
      · exact b c hc
      · simp at hc
        rw [hc, hd]
        omega
theorem hexL_val (n : Nat) : pcV (hexL n) = (n : Int) := (revHex_val n).1
theorem hexL_pc {n : Nat} (h : n ≤ 65535) : Pc (hexL n) := by
  refine ⟨?_, hexL_short (k := 3) (by show n < 65536; omega), (revHex_val n).2⟩
  have := hexL_ne n
  cases e : hexL n with
  | nil => exact absurd e this
  | cons a l => simp
/-- No text of a piece is shorter. -/
theorem hexL_least {n : Nat} {t : List UInt8} (ht : Pc t) (h : pcV t = (n : Int)) : (hexL n).length ≤ t.length := by
  obtain ⟨a, b⟩ := hexF_bound t 0 ht.hex (Int.le_refl 0)
  have hb : pcV t + 1 ≤ 16 ^ t.length := by
    unfold pcV
    simpa using b
  rw [h] at hb
  obtain ⟨k, hk⟩ : ∃ k, t.length = k + 1 := ⟨t.length - 1, by have := ht.l1; omega⟩
  rw [hk] at hb ⊢
  have hb' : n + 1 ≤ 16 ^ (k + 1) := by exact_mod_cast hb
  exact hexL_short (by omega)
end Go.Proofs.YtcgdjnmfeibnoaaDoor
/-! SixBackV -/
namespace Go.Proofs.YtcgdjnmfeibnoaaDoor
open Go.RowKit Go.Proofs.YtcgdjnmfeibnoaaDoorW.PrintWords
set_option linter.unusedVariables false
set_option linter.unusedSimpArgs false
/-- An address out of eight pieces. -/
def pieceAt (xs : List Nat) (j : Nat) : Int := ((xs.getD j 0 : Nat) : Int)
theorem map_hex (xs : List Nat) : (xs.map hexL).map pcV = xs.map fun n : Nat => (n : Int) := by
  rw [List.map_map]
  exact List.map_congr_left fun n _ => hexL_val n
theorem mem_hex {xs : List Nat} (h : ∀ x ∈ xs, x ≤ 65535) : ∀ p ∈ xs.map hexL, Pc p := by
  intro p hp
  obtain ⟨x, hx, rfl⟩ := List.mem_map.1 hp
  exact hexL_pc (h x hx)
theorem getD_cast (xs : List Nat) (j : Nat) : (xs.map fun n : Nat => (n : Int)).getD j 0 = pieceAt xs j := by
  unfold pieceAt
  rw [List.getD_eq_getElem?_getD, List.getElem?_map, List.getD_eq_getElem?_getD]
  cases xs[j]? <;> rfl
theorem out_full {xs : List Nat} (hl : xs.length = 8) (j : Nat) (hj : j < 8) : outOf (xs.map fun n : Nat => (n : Int)) [] j = pieceAt xs j := by
  unfold outOf
  rw [if_neg (by simp; omega), getD_cast]
theorem out_gap {xs : List Nat} (hl : xs.length = 8) {a n : Nat} (hn : a + n ≤ 8) (hz : noughts xs a n) (j : Nat) (hj : j < 8) :
    outOf ((xs.take a).map fun n : Nat => (n : Int)) ((xs.drop (a + n)).map fun n : Nat => (n : Int)) j = pieceAt xs j := by
  unfold outOf
  rw [List.length_map, List.length_drop, hl, getD_cast, getD_cast]
  by_cases h : 8 - (8 - (a + n)) ≤ j
  · rw [if_pos h]
    unfold pieceAt
    rw [List.getD_eq_getElem?_getD, List.getElem?_drop, List.getD_eq_getElem?_getD, show a + n + (j - (8 - (8 - (a + n)))) = j by omega]
  · rw [if_neg h]
    unfold pieceAt
    by_cases ha : j < a
    · rw [List.getD_eq_getElem?_getD, List.getElem?_take, if_pos ha, List.getD_eq_getElem?_getD]
    · have h1 := hz j (by omega) (by omega)
      unfold nought at h1
      rw [List.getD_eq_getElem?_getD, List.getElem?_eq_none (by rw [List.length_take]; omega)]
      rw [List.getD_eq_getElem?_getD, List.getElem?_eq_getElem (by omega)] at h1
      rw [List.getD_eq_getElem?_getD, List.getElem?_eq_getElem (by omega)]
      simp only [Option.getD_some, Option.getD_none] at h1 ⊢
      rw [h1]
/-- What a text says that is read as an address. -/
def Says (t : List UInt8) (xs : List Nat) : Prop := (∀ j, j < 8 → (parseP t).1 j = pieceAt xs j) ∧ (parseP t).2 = (0, 0)
theorem back_print {xs : List Nat} (hl : xs.length = 8) (h : ∀ x ∈ xs, x ≤ 65535) : Says (textL xs) xs := by
  rcases textL_spec xs with ⟨e, _, _⟩ | ⟨a, n, _, h2, hn, hz, _, e⟩
  · rw [Says, e, parse_full _ (mem_hex h) (by rw [List.length_map]; exact hl), map_hex]
    exact ⟨fun j hj => out_full hl j hj, rfl⟩
  · rw [hl] at hn
    rw [Says, e, parse_gap _ _ (mem_hex fun x hx => h x (List.mem_of_mem_take hx)) (mem_hex fun x hx => h x (List.mem_of_mem_drop hx)) (by simp [hl]; omega), map_hex, map_hex]
    exact ⟨fun j hj => out_gap hl hn hz j hj, rfl⟩
end Go.Proofs.YtcgdjnmfeibnoaaDoor
/-! SixOneV -/
namespace Go.Proofs.YtcgdjnmfeibnoaaDoor
open Go.RowKit Go.Proofs.YtcgdjnmfeibnoaaDoorW.PrintWords
set_option linter.unusedVariables false
set_option linter.unusedSimpArgs false
/-- How many bytes parts have. -/
def lsum (l : List (List UInt8)) : Nat := (l.map List.length).sum
/-- How many digits pieces are written with. -/
def hsum (xs : List Nat) : Nat := lsum (xs.map hexL)
theorem lsum_app (a b : List (List UInt8)) : lsum (a ++ b) = lsum a + lsum b := by unfold lsum; rw [List.map_append, List.sum_append]
theorem hsum_app (a b : List Nat) : hsum (a ++ b) = hsum a + hsum b := by unfold hsum; rw [List.map_append, lsum_app]
theorem joinC_len : ∀ l : List (List UInt8), (joinC l).length + (if l = [] then 0 else 1) = lsum l + l.length
  | [] => rfl
  | [p] => by simp [joinC, lsum]
  | p :: q :: r => by
    have ih := joinC_len (q :: r)
    rw [if_neg (by simp)] at ih
    rw [joinC, if_neg (by simp)]
    unfold lsum at ih ⊢
    simp only [List.length_append, List.length_cons, List.map_cons, List.sum_cons] at ih ⊢
    omega
theorem hexL_zero : (hexL 0).length = 1 := by unfold hexL; rw [revHex_last (by decide)]; rfl
theorem hsum_noughts : ∀ l : List Nat, (∀ x ∈ l, x = 0) → hsum l = l.length
  | [], _ => rfl
  | x :: l, h => by
    have ih := hsum_noughts l (fun y hy => h y (List.mem_cons_of_mem _ hy))
    have hx := h x (by simp)
    subst hx
    unfold hsum lsum at ih ⊢
    simp only [List.map_cons, List.sum_cons, List.length_cons, hexL_zero]
    omega
/-- The length of what is written. -/
theorem textL_len (xs : List Nat) (hn : xs ≠ []) : ((textL xs).length + 1 = hsum xs + xs.length ∧ ∀ i z, i + z ≤ xs.length → noughts xs i z → z ≤ 1) ∨
    ∃ n : Nat, 2 ≤ n ∧ (∀ i z, i + z ≤ xs.length → noughts xs i z → z ≤ n) ∧ ((textL xs).length + 2 * n ≤ hsum xs + xs.length + 1 ∨ (textL xs).length = 2) := by
  rcases textL_spec xs with ⟨e, _, hm⟩ | ⟨a, n, _, h2, hl, hz, hm, e⟩
  · left
    refine ⟨?_, hm⟩
    have := joinC_len (xs.map hexL)
    rw [if_neg (by simpa using hn)] at this
    rw [e]
    unfold hsum
    simpa using this
  · right
    refine ⟨n, h2, hm, ?_⟩
    have hsp : xs = xs.take a ++ ((xs.drop a).take n ++ xs.drop (a + n)) := by rw [← List.drop_drop, List.take_append_drop, List.take_append_drop]
    have hrun : hsum ((xs.drop a).take n) = n := by
      rw [hsum_noughts _ (fun x hx => ?_)]
      · rw [List.length_take, List.length_drop]; omega
      · obtain ⟨j, hj, he⟩ := List.getElem_of_mem hx
        rw [List.length_take, List.length_drop] at hj
        have h1 := hz (a + j) (by omega) (by omega)
        unfold nought at h1
        rw [List.getD_eq_getElem?_getD, List.getElem?_eq_getElem (by omega)] at h1
        simp only [Option.getD_some] at h1
        rw [← he, List.getElem_take, List.getElem_drop]
        exact h1
    have hT : hsum xs = hsum (xs.take a) + (n + hsum (xs.drop (a + n))) := by
      rw [show hsum xs = hsum (xs.take a ++ ((xs.drop a).take n ++ xs.drop (a + n))) from by rw [← hsp], hsum_app, hsum_app, hrun]
    have j1 := joinC_len ((xs.take a).map hexL)
    have j2 := joinC_len ((xs.drop (a + n)).map hexL)
    have hlen : (textL xs).length = (joinC ((xs.take a).map hexL)).length + (joinC ((xs.drop (a + n)).map hexL)).length + 2 := by rw [e]; simp; omega
    rw [List.length_map, List.length_take] at j1
    rw [List.length_map, List.length_drop] at j2
    unfold hsum at hT ⊢
    by_cases ha : a = 0
    · by_cases hb : a + n = xs.length
      · right
        rw [if_pos (by rw [ha]; rfl)] at j1
        rw [if_pos (by rw [hb]; simp)] at j2
        have e1 : lsum ((xs.take a).map hexL) = 0 := by rw [ha]; rfl
        have e2 : lsum ((xs.drop (a + n)).map hexL) = 0 := by rw [hb]; simp [lsum]
        omega
      · left
        rw [if_neg (by simp; omega)] at j2
        have : (if (xs.take a).map hexL = [] then 0 else 1) ≤ 1 := by split <;> omega
        omega
    · left
      rw [if_neg (by simp; exact ⟨ha, hn⟩)] at j1
      have : (if (xs.drop (a + n)).map hexL = [] then 0 else 1) ≤ 1 := by split <;> omega
      omega
/-- What parts say. -/
def pcN (p : List UInt8) : Nat := (pcV p).toNat
theorem pcN_cast {p : List UInt8} (h : Pc p) : ((pcN p : Nat) : Int) = pcV p := by have := pcV_bound h; unfold pcN; omega
theorem hsum_le : ∀ fs : List (List UInt8), (∀ p ∈ fs, Pc p) → hsum (fs.map pcN) ≤ lsum fs
  | [], _ => Nat.le_refl _
  | p :: fs, h => by
    have ih := hsum_le fs (fun q hq => h q (List.mem_cons_of_mem _ hq))
    have hp := h p (by simp)
    have h1 := hexL_least hp (pcN_cast hp).symm
    unfold hsum lsum at ih ⊢
    simp only [List.map_cons, List.sum_cons] at ih ⊢
    omega
/-- All eight pieces: what is written is no longer. -/
theorem len_full {fs : List (List UInt8)} (hp : ∀ p ∈ fs, Pc p) (hn : fs.length = 8) : (textL (fs.map pcN)).length ≤ (joinC fs).length := by
  have hne : fs ≠ [] := fun e => by rw [e] at hn; cases hn
  have j := joinC_len fs
  rw [if_neg hne] at j
  have hl := hsum_le fs hp
  rcases textL_len (fs.map pcN) (by simpa using hne) with ⟨h, _⟩ | ⟨n, h2, _, h | h⟩
  · rw [List.length_map] at h; omega
  · rw [List.length_map] at h; omega
  · omega
/-- Pieces ahead of '::' and behind it, which stands for two at least: what is written is one byte longer at most. -/
theorem len_gap {fs bs : List (List UInt8)} (hp : ∀ p ∈ fs, Pc p) (hb : ∀ p ∈ bs, Pc p) (hn : fs.length + bs.length ≤ 6) :
    (textL (fs.map pcN ++ (List.replicate (8 - fs.length - bs.length) 0 ++ bs.map pcN))).length ≤ (joinC fs ++ 58 :: 58 :: joinC bs).length + 1 := by
  obtain ⟨z, hz⟩ : ∃ z, z = 8 - fs.length - bs.length := ⟨_, rfl⟩
  rw [← hz]
  have hlen : (fs.map pcN ++ (List.replicate z 0 ++ bs.map pcN)).length = 8 := by simp; omega
  have hne : fs.map pcN ++ (List.replicate z 0 ++ bs.map pcN) ≠ [] := fun e => by rw [e] at hlen; cases hlen
  have hstr : noughts (fs.map pcN ++ (List.replicate z 0 ++ bs.map pcN)) fs.length z := by
    intro j h1 h2
    unfold nought
    rw [List.getD_eq_getElem?_getD, List.getElem?_append_right (by rw [List.length_map]; exact h1), List.length_map, List.getElem?_append_left (by rw [List.length_replicate]; omega), List.getElem?_replicate, if_pos (by omega)]
    rfl
  have hT : hsum (fs.map pcN ++ (List.replicate z 0 ++ bs.map pcN)) = hsum (fs.map pcN) + (z + hsum (bs.map pcN)) := by
    rw [hsum_app, hsum_app, hsum_noughts (List.replicate z 0) (fun x hx => (List.mem_replicate.1 hx).2), List.length_replicate]
  have h1 := hsum_le fs hp
  have h2 := hsum_le bs hb
  have j1 := joinC_len fs
  have j2 := joinC_len bs
  have i1 : (if fs = [] then 0 else 1) ≤ fs.length := by
    split
    · omega
    · rename_i h
      rcases Nat.eq_zero_or_pos fs.length with h0 | h0
      · exact absurd (List.eq_nil_of_length_eq_zero h0) h
      · omega
  have i2 : (if bs = [] then 0 else 1) ≤ bs.length := by
    split
    · omega
    · rename_i h
      rcases Nat.eq_zero_or_pos bs.length with h0 | h0
      · exact absurd (List.eq_nil_of_length_eq_zero h0) h
      · omega
  have i3 : (if fs = [] then 0 else 1) ≤ 1 := by split <;> omega
  have i4 : (if bs = [] then 0 else 1) ≤ 1 := by split <;> omega
  have hs : (joinC fs ++ 58 :: 58 :: joinC bs).length = (joinC fs).length + (joinC bs).length + 2 := by simp; omega
  generalize (if fs = [] then 0 else 1) = d1 at *
  generalize (if bs = [] then 0 else 1) = d2 at *
  rcases textL_len _ hne with ⟨_, hm⟩ | ⟨n, n2, hm, h | h⟩
  · have := hm fs.length z (by omega) hstr; omega
  · have := hm fs.length z (by omega) hstr
    rw [hT, hlen] at h
    omega
  · omega
/-- The statement's count of pieces; does a piece begin here? -/
def onePc : Bool → List UInt8 → Nat
  | _, [] => 0
  | b, c :: l => (if c ≠ 58 ∧ b = true then 1 else 0) + onePc (c == 58) l
/-- Its look for '::'; is a colon ahead? -/
def oneSh : Bool → List UInt8 → Bool
  | _, [] => false
  | b, c :: l => (c == 58 && b) || oneSh (c == 58) l
theorem onePc_part : ∀ (p l : List UInt8) (b : Bool), (58 : UInt8) ∉ p → p ≠ [] → onePc b (p ++ l) = (if b = true then 1 else 0) + onePc false l
  | [], l, b, _, h => absurd rfl h
  | [c], l, b, h, _ => by
    have hc : c ≠ 58 := fun e => h (by simp [e])
    rw [List.singleton_append, onePc, beq_eq_false_iff_ne.2 hc]
    simp [hc]
  | c :: d :: p, l, b, h, _ => by
    have hc : c ≠ 58 := fun e => h (by simp [e])
    have ih := onePc_part (d :: p) l false (fun q => h (List.mem_cons_of_mem _ q)) (by simp)
    rw [List.cons_append, onePc, beq_eq_false_iff_ne.2 hc, ih]
    simp [hc]
theorem onePc_ends : ∀ (fs : List (List UInt8)) (l : List UInt8), (∀ p ∈ fs, Pc p) → onePc true (endC fs ++ l) = fs.length + onePc true l
  | [], l, _ => by simp [endC]
  | p :: fs, l, h => by
    have hp := (h p (by simp)).pt
    have ih := onePc_ends fs l (fun q hq => h q (List.mem_cons_of_mem _ hq))
    rw [endC, List.append_assoc, onePc_part p _ true hp.no hp.ne, List.cons_append, onePc]
    rw [show ((58 : UInt8) == 58) = true from rfl, ih]
    simp
    omega
theorem onePc_join {bs : List (List UInt8)} (h : ∀ p ∈ bs, Pc p) : onePc true (joinC bs) = bs.length := by
  by_cases hb : bs = []
  · subst hb; rfl
  · obtain ⟨b, cur, rfl⟩ : ∃ b cur, bs = b ++ [cur] := ⟨bs.dropLast, bs.getLast hb, (List.dropLast_concat_getLast _).symm⟩
    have hc := (h cur (by simp)).pt
    rw [joinC_last, onePc_ends b cur (fun p hp => h p (by simp [hp]))]
    have := onePc_part cur [] true hc.no hc.ne
    rw [List.append_nil] at this
    rw [this]
    simp [onePc]
theorem onePc_gap {fs bs : List (List UInt8)} (hp : ∀ p ∈ fs, Pc p) (hb : ∀ p ∈ bs, Pc p) : onePc true (joinC fs ++ 58 :: 58 :: joinC bs) = fs.length + bs.length := by
  by_cases hf : fs = []
  · subst hf
    show onePc true (58 :: 58 :: joinC bs) = _
    rw [onePc, show ((58 : UInt8) == 58) = true from rfl, onePc, show ((58 : UInt8) == 58) = true from rfl, onePc_join hb]
    simp
  · have e : joinC fs ++ 58 :: 58 :: joinC bs = endC fs ++ 58 :: joinC bs := by rw [endC_join hf]; simp
    rw [e, onePc_ends fs _ hp, onePc, show ((58 : UInt8) == 58) = true from rfl, onePc_join hb]
    simp
theorem oneSh_gap (l r : List UInt8) : ∀ b, oneSh b (l ++ 58 :: 58 :: r) = true := by
  induction l with
  | nil => intro b; simp [oneSh]
  | cons c l ih => intro b; rw [List.cons_append, oneSh, ih]; simp
/-- A text that is one of an address, without dots: its parts. -/
theorem one_shape {s : List UInt8} {i : Int} {f : Nat → Int} (h : parseP s = (f, i, 0)) (hd : (46 : UInt8) ∉ s) :
    (∃ fs, (∀ p ∈ fs, Pc p) ∧ fs.length = 8 ∧ s = joinC fs ∧ ∀ j, j < 8 → f j = outOf (fs.map pcV) [] j) ∨
    ∃ fs bs, (∀ p ∈ fs, Pc p) ∧ (∀ p ∈ bs, Pc p) ∧ fs.length + bs.length ≤ 7 ∧ s = joinC fs ++ 58 :: 58 :: joinC bs ∧ ∀ j, j < 8 → f j = outOf (fs.map pcV) (bs.map pcV) j := by
  have e0 : ∀ (fs : List (List UInt8)) (l : List UInt8), headC fs ++ 58 :: l = joinC fs ++ 58 :: 58 :: l := by
    intro fs l
    unfold headC
    by_cases h : fs = []
    · rw [if_pos h, h]; rfl
    · rw [if_neg h, endC_join h]; simp
  rcases scan_states s sc0 [st0] [] 0 sim0 ti0 with ⟨j, h1, h2⟩ | ⟨x, m, h1, h2, hs, ht⟩
  · unfold parseP at h
    rw [h2] at h
    cases h
  · rw [List.nil_append] at ht
    have hp : m.any endsP = true ∧ f = outOf (writtenV (cut2 s).1) (writtenV (cut2 s).2.1) := by
      unfold parseP at h
      rw [h2] at h
      simp only at h
      split at h
      · rename_i hm
        exact ⟨hm, by injection h with a b; exact a.symm⟩
      · cases h
    obtain ⟨hany, hf⟩ := hp
    have hi0 : Inv x := by cases hs <;> assumption
    rcases whole_out hs ht with ⟨a, _⟩ | ⟨_, hfit, A, hA, _⟩
    · rw [hany] at a; cases a
    · have hwhole : x.st = 3 ∨ x.st = 4 ∨ x.st = 6 := by
        unfold Sc.whole at hA
        by_cases q3 : x.st = 3
        · exact .inl q3
        · by_cases q4 : x.st = 4
          · exact .inr (.inl q4)
          · by_cases q6 : x.st = 6
            · exact .inr (.inr q6)
            · rw [if_neg q3, if_neg q4, if_neg q6] at hA; cases hA
      cases ht with
      | start q hb hk => omega
      | colon q hb hk => omega
      | @single fs bs q hb hf' h3 =>
        right
        have q3 : x.st = 3 := by omega
        have hbs := h3 q3
        subst hbs
        have hk : 0 ≤ x.skip := by
          cases hs <;> omega
        have hN := hb.n
        rw [List.append_nil] at hN
        have e : preT x fs [] = joinC fs ++ 58 :: 58 :: joinC [] := by
          unfold preT
          rw [if_pos hk]
          exact e0 fs []
        refine ⟨fs, [], hb.pf, fun p hp => absurd hp List.not_mem_nil, by have := hi0.n7; simp; omega, e, fun j hj => ?_⟩
        rw [hf, e, cut2_gap fs _ (fun p hp => (hb.pf p hp).pt)]
        show outOf (writtenV (joinC fs)) (writtenV []) j = _
        rw [(cut_pos hb.pf []).2]
        rfl
      | @piece fs bs cur q hb hc hd' hv ht' =>
        by_cases hk : 0 ≤ x.skip
        · right
          have e : preT x fs bs ++ cur = joinC fs ++ 58 :: 58 :: joinC (bs ++ [cur]) := by
            unfold preT
            rw [if_pos hk, List.append_assoc, List.cons_append, e0, joinC_last]
          have hball : ∀ p ∈ bs ++ [cur], Pc p := fun p hp => by
            rcases List.mem_append.1 hp with h | h
            · exact hb.pb p h
            · simp at h; rw [h]; exact hc
          have hw1 := (cut_pos hb.pf (joinC (bs ++ [cur]))).2
          have hw2 : writtenV (joinC (bs ++ [cur])) = (bs ++ [cur]).map pcV := by rw [writtenV_join (fun p hp => (hball p hp).pt), flatMap_pc hball]
          have hcut : cut2 (preT x fs bs ++ cur) = (joinC fs, joinC (bs ++ [cur]), true) := by rw [e, cut2_gap fs _ (fun p hp => (hb.pf p hp).pt)]
          have hroom : 1 ≤ x.room := by
            cases hs <;> first | omega | assumption
          unfold Sc.room at hroom
          rw [if_pos hk] at hroom
          have hN := hb.n
          rw [List.length_append] at hN
          refine ⟨fs, bs ++ [cur], hb.pf, hball, by rw [List.length_append, List.length_singleton]; omega, e, fun j hj => ?_⟩
          rw [hf, hcut]
          show outOf (writtenV (joinC fs)) (writtenV (joinC (bs ++ [cur]))) j = _
          rw [hw1, hw2]
        · left
          have hbs := hb.neg (by omega)
          subst hbs
          have hN := hb.n
          rw [List.append_nil] at hN
          have e : preT x fs [] ++ cur = joinC (fs ++ [cur]) := by
            unfold preT
            rw [if_neg hk, joinC_last]
          have hall : ∀ p ∈ fs ++ [cur], Pc p := fun p hp => by
            rcases List.mem_append.1 hp with h | h
            · exact hb.pf p h
            · simp at h; rw [h]; exact hc
          have hcut : cut2 (preT x fs [] ++ cur) = (joinC (fs ++ [cur]), [], false) := by rw [e, cut2_join _ (fun p hp => (hall p hp).pt) (by simp)]
          have hW : x.whole = x.closed.fin := by unfold Sc.whole; rw [if_neg (by omega), if_pos q]
          have h8 : x.N + 1 = 8 := by
            rw [hW] at hA
            unfold Sc.fin at hA
            rw [if_pos (show x.closed.skip < 0 from Int.not_le.1 hk)] at hA
            split at hA
            · rename_i h8; exact h8
            · cases hA
          refine ⟨fs ++ [cur], hall, by rw [List.length_append, List.length_singleton]; omega, e, fun j hj => ?_⟩
          rw [hf, hcut]
          show outOf (writtenV (joinC (fs ++ [cur]))) (writtenV []) j = _
          rw [writtenV_join (fun p hp => (hall p hp).pt), flatMap_pc hall]
          rfl
      | @stop fs bs cur q hb hn hno hr f0 f1 => omega
      | @part fs bs cur q hb hn hno hr f0 f1 =>
        exfalso
        refine hd (List.mem_append_right _ ?_)
        have hp3 : x.parts = 3 := by
          unfold Sc.whole at hA
          rw [if_neg (by omega), if_neg (by omega), if_pos q] at hA
          split at hA
          · rename_i h3; exact h3
          · cases hA
        rw [hp3] at hr
        have hdg : 1 ≤ x.digs := by
          cases hs <;> first | omega | assumption
        exact strict_pt (DotRun.whole hr (by omega))
/-- The pieces of an address. -/
def xsOf (f : Nat → Int) : List Nat := [(f 0).toNat, (f 1).toNat, (f 2).toNat, (f 3).toNat, (f 4).toNat, (f 5).toNat, (f 6).toNat, (f 7).toNat]
theorem xsOf_map (f : Nat → Int) : xsOf f = (List.range 8).map fun j => (f j).toNat := rfl
theorem xs_of {f : Nat → Int} {xs : List Nat} (hl : xs.length = 8) (h : ∀ j, j < 8 → f j = ((xs.getD j 0 : Nat) : Int)) : xsOf f = xs := by
  rw [xsOf_map]
  apply List.ext_getElem?
  intro j
  rw [List.getElem?_map]
  by_cases hj : j < 8
  · rw [List.getElem?_range hj, List.getElem?_eq_getElem (by omega)]
    show some (f j).toNat = some xs[j]
    rw [h j hj, Int.toNat_natCast, List.getD_eq_getElem?_getD, List.getElem?_eq_getElem (by omega)]
    rfl
  · rw [List.getElem?_eq_none (by simp; omega), List.getElem?_eq_none (by omega)]
    rfl
theorem getD_pc {fs : List (List UInt8)} (h : ∀ p ∈ fs, Pc p) (j : Nat) : (fs.map pcV).getD j 0 = (((fs.map pcN).getD j 0 : Nat) : Int) := by
  rw [List.getD_eq_getElem?_getD, List.getD_eq_getElem?_getD, List.getElem?_map, List.getElem?_map]
  cases e : fs[j]? with
  | none => rfl
  | some p => exact (pcN_cast (h p (List.mem_of_getElem? e))).symm
/-- The statement's last sentence. -/
theorem one_len {s : List UInt8} {i : Int} {f : Nat → Int} (h : parseP s = (f, i, 0)) (hd : (46 : UInt8) ∉ s) (hs : ¬ (oneSh false s = true ∧ 7 ≤ onePc true s)) : (textL (xsOf f)).length ≤ s.length + 1 := by
  rcases one_shape h hd with ⟨fs, hp, hn, e, hf⟩ | ⟨fs, bs, hp, hb, hn, e, hf⟩
  · have hx : xsOf f = fs.map pcN := xs_of (by rw [List.length_map]; exact hn) (fun j hj => by
      rw [hf j hj]
      unfold outOf
      rw [if_neg (by simp; omega), getD_pc hp])
    rw [hx, e]
    have := len_full hp hn
    omega
  · have h7 : fs.length + bs.length ≤ 6 := by
      have h1 := oneSh_gap (joinC fs) (joinC bs) false
      have h2 := onePc_gap hp hb
      rw [← e] at h1 h2
      rcases Nat.lt_or_ge (onePc true s) 7 with q | q
      · omega
      · exact absurd ⟨h1, q⟩ hs
    have hx : xsOf f = fs.map pcN ++ (List.replicate (8 - fs.length - bs.length) 0 ++ bs.map pcN) := xs_of (by simp; omega) (fun j hj => by
      rw [hf j hj]
      unfold outOf
      rw [List.length_map]
      by_cases q : 8 - bs.length ≤ j
      · rw [if_pos q, getD_pc hb]
        congr 1
        rw [List.getD_eq_getElem?_getD, List.getD_eq_getElem?_getD, List.getElem?_append_right (by rw [List.length_map]; omega), List.length_map, List.getElem?_append_right (by rw [List.length_replicate]; omega), List.length_replicate]
        congr 2
        omega
      · rw [if_neg q, getD_pc hp]
        congr 1
        rw [List.getD_eq_getElem?_getD, List.getD_eq_getElem?_getD]
        by_cases q2 : j < fs.length
        · rw [List.getElem?_append_left (by rw [List.length_map]; exact q2)]
        · rw [List.getElem?_eq_none (by rw [List.length_map]; omega), List.getElem?_append_right (by rw [List.length_map]; omega), List.length_map, List.getElem?_append_left (by rw [List.length_replicate]; omega), List.getElem?_replicate, if_pos (by omega)]
          rfl)
    rw [hx, e]
    exact len_gap hp hb h7
end Go.Proofs.YtcgdjnmfeibnoaaDoor
/-! SixOne -/
namespace Go.Proofs.YtcgdjnmfeibnoaaDoor
open Go.RowKit Go.Proofs.YtcgdjnmfeibnoaaDoorW.PrintWords
set_option linter.unusedVariables false
set_option linter.unusedSimpArgs false
/-- An address's numbers are pieces. -/
theorem grpV_range (p : List UInt8) : ∀ x ∈ grpV p, 0 ≤ x ∧ x ≤ 65535 := by
  intro x hx
  unfold grpV at hx
  split at hx
  · simp only [List.mem_cons, List.not_mem_nil, or_false] at hx
    rcases hx with rfl | rfl <;> omega
  · simp only [List.mem_cons, List.not_mem_nil, or_false] at hx
    subst hx
    omega
theorem writtenV_range (t : List UInt8) : ∀ x ∈ writtenV t, 0 ≤ x ∧ x ≤ 65535 := by
  intro x hx
  unfold writtenV at hx
  split at hx
  · cases hx
  · obtain ⟨p, _, hp⟩ := List.mem_flatMap.1 hx
    exact grpV_range p x hp
theorem getD_range {l : List Int} (h : ∀ x ∈ l, 0 ≤ x ∧ x ≤ 65535) (j : Nat) : 0 ≤ l.getD j 0 ∧ l.getD j 0 ≤ 65535 := by
  rw [List.getD_eq_getElem?_getD]
  cases e : l[j]? with
  | none => exact ⟨Int.le_refl _, by show (0 : Int) ≤ 65535; decide⟩
  | some x => exact h x (List.mem_of_getElem? e)
theorem parseP_range {s : List UInt8} {f : Nat → Int} {a b : Int} (h : parseP s = (f, a, b)) : (∀ j, 0 ≤ f j ∧ f j ≤ 65535) ∧ (b = 0 ∨ b = 210) := by
  unfold parseP at h
  split at h
  · injection h with h1 h2
    injection h2 with h2 h3
    exact ⟨fun j => by rw [← h1]; exact ⟨Int.le_refl _, by show (0 : Int) ≤ 65535; decide⟩, .inr h3.symm⟩
  · split at h
    · injection h with h1 h2
      injection h2 with h2 h3
      refine ⟨fun j => ?_, .inl h3.symm⟩
      rw [← h1]
      unfold outOf
      split
      · exact getD_range (writtenV_range _) _
      · exact getD_range (writtenV_range _) _
    · injection h with h1 h2
      injection h2 with h2 h3
      exact ⟨fun j => by rw [← h1]; exact ⟨Int.le_refl _, by show (0 : Int) ≤ 65535; decide⟩, .inr h3.symm⟩
theorem r8_of {f : Nat → Int} (h : ∀ j, 0 ≤ f j ∧ f j ≤ 65535) : R8 (f 0) (f 1) (f 2) (f 3) (f 4) (f 5) (f 6) (f 7) := ⟨h 0, h 1, h 2, h 3, h 4, h 5, h 6, h 7⟩
/-- Two addresses are written alike just if they are the same. -/
theorem printL_xs (f : Nat → Int) : printL (f 0) (f 1) (f 2) (f 3) (f 4) (f 5) (f 6) (f 7) = textL (xsOf f) := rfl
theorem xsOf_le {f : Nat → Int} (h : ∀ j, 0 ≤ f j ∧ f j ≤ 65535) : ∀ x ∈ xsOf f, x ≤ 65535 := by
  intro x hx
  rw [xsOf_map] at hx
  obtain ⟨j, _, rfl⟩ := List.mem_map.1 hx
  have := h j
  omega
theorem xsOf_at {f : Nat → Int} (h : ∀ j, 0 ≤ f j ∧ f j ≤ 65535) (j : Nat) (hj : j < 8) : pieceAt (xsOf f) j = f j := by
  have := h j
  unfold pieceAt
  rw [xsOf_map, List.getD_eq_getElem?_getD, List.getElem?_map, List.getElem?_range hj]
  show ((f j).toNat : Int) = f j
  omega
theorem print_inj {f g : Nat → Int} (hf : ∀ j, 0 ≤ f j ∧ f j ≤ 65535) (hg : ∀ j, 0 ≤ g j ∧ g j ≤ 65535) (h : textL (xsOf f) = textL (xsOf g)) : ∀ j, j < 8 → f j = g j := by
  have h1 := (back_print (xs := xsOf f) rfl (xsOf_le hf)).1
  have h2 := (back_print (xs := xsOf g) rfl (xsOf_le hg)).1
  intro j hj
  rw [← xsOf_at hf j hj, ← h1 j hj, h, h2 j hj, xsOf_at hg j hj]
/-- Does a piece begin at a place; is a colon ahead of it. -/
def beginsAt (s : List UInt8) (n : Nat) : Bool := decide (n = 0) || s.getD (n - 1) 0 == 58
def colonAt (s : List UInt8) (n : Nat) : Bool := decide (0 < n) && s.getD (n - 1) 0 == 58
/-- What stands at the head of a round of the law. -/
def OneRel (s : ByteArray) (p d h i : Value) : Prop :=
  ∃ (n pc : Nat) (dt sh : Bool), n ≤ s.size ∧ pc ≤ n ∧ i = .int .i64 n ∧ p = .int .i64 pc ∧ d = .bool dt ∧ h = .bool sh ∧ pc + onePc (beginsAt s.data.toList n) (s.data.toList.drop n) = onePc true s.data.toList ∧
    (dt || (s.data.toList.drop n).any (· == 46)) = s.data.toList.any (· == 46) ∧ (sh || oneSh (colonAt s.data.toList n) (s.data.toList.drop n)) = oneSh false s.data.toList
theorem byte_beq (c : UInt8) (k : UInt8) : ((c.toNat : Int) == (k.toNat : Int)) = (c == k) := by
  rw [Bool.eq_iff_iff, beq_iff_eq, beq_iff_eq]
  exact byte_eq c k
theorem one_step {s : ByteArray} {n pc : Nat} {dt sh : Bool} (hlt : n < s.size) (hpc : pc ≤ n) (h1 : pc + onePc (beginsAt s.data.toList n) (s.data.toList.drop n) = onePc true s.data.toList)
    (h2 : (dt || (s.data.toList.drop n).any (· == 46)) = s.data.toList.any (· == 46)) (h3 : (sh || oneSh (colonAt s.data.toList n) (s.data.toList.drop n)) = oneSh false s.data.toList)
    (p d h : Value) (hp : p = .int .i64 ((pc + (if s[n] ≠ 58 ∧ beginsAt s.data.toList n = true then 1 else 0) : Nat) : Int)) (hd : d = .bool (dt || s[n] == 46)) (hh : h = .bool (sh || (s[n] == 58 && colonAt s.data.toList n))) :
    OneRel s p d h (.int .i64 ((n : Int) + 1)) := by
  have hz := size_len s
  have hdr : s.data.toList.drop n = s[n] :: s.data.toList.drop (n + 1) := List.drop_eq_getElem_cons (by omega)
  have hg : s.data.toList.getD n 0 = s[n] := by
    rw [List.getD_eq_getElem?_getD, List.getElem?_eq_getElem (by omega)]
    rfl
  have hb1 : beginsAt s.data.toList (n + 1) = (s[n] == 58) := by
    unfold beginsAt
    rw [Nat.add_sub_cancel, hg]
    simp
  have hc1 : colonAt s.data.toList (n + 1) = (s[n] == 58) := by
    unfold colonAt
    rw [Nat.add_sub_cancel, hg]
    simp
  rw [hdr] at h1 h2 h3
  rw [onePc] at h1
  rw [oneSh] at h3
  rw [List.any_cons] at h2
  refine ⟨n + 1, _, _, _, by omega, ?_, by simp, hp, hd, hh, ?_, ?_, ?_⟩
  · split <;> omega
  · rw [hb1, Nat.add_assoc]
    exact h1
  · rw [Bool.or_assoc]
    exact h2
  · rw [hc1, Bool.or_assoc]
    exact h3
theorem ok_short {s : List UInt8} {f : Nat → Int} {a : Int} (h : parseP s = (f, a, 0)) : s.length ≤ 65 := by
  unfold parseP at h
  split at h
  · injection h with h1 h2
    injection h2 with h2 h3
    exact absurd h3 (by decide)
  · rename_i l hl
    exact parse_short hl
set_option maxHeartbeats 4000000 in
set_option maxRecDepth 100000 in
theorem one_walk (s t : ByteArray) (hs : s.size ≤ 9223372036854775807) (ht : t.size ≤ 9223372036854775807) (w : World) (hG : GW w) :
    Calls Tryd.prog 5 #[.string s, .string t] w fun e w' => e = .returned (.bool true) ∧ Below w.heap.size w w' := by
  obtain ⟨f, a, ea, hp⟩ : ∃ f a b, parseP s.data.toList = (f, a, b) := ⟨_, _, _, rfl⟩
  obtain ⟨g, b, eb, hq⟩ : ∃ f a b, parseP t.data.toList = (f, a, b) := ⟨_, _, _, rfl⟩
  obtain ⟨hf, hea⟩ := parseP_range hp
  obtain ⟨hg, heb⟩ := parseP_range hq
  have HF := Lib.hid hf
  have HGR := Lib.hid hg
  have HPS := Lib.hid (fun w hG => (parse_walk s hs w hG).mono fun e w' h => parsed_atP hp h)
  have HRS := Lib.hid (fun w => (refParse_walk s hs w).mono fun e w' h => parsed_atP hp h)
  have HPT := Lib.hid (fun w hG => (parse_walk t ht w hG).mono fun e w' h => parsed_atP hq h)
  have HRT := Lib.hid (fun w => (refParse_walk t ht w).mono fun e w' h => parsed_atP hq h)
  have HG := Lib.hid hG
  have HP := Lib.hid hp
  clear hG hp hq hf hg
  go_enter Tryd.func5, Tryd.ntmps5
  go_wp2_with fail
  refine (HPS.out _ HG.out).mono ?_
  rintro e w1 ⟨rfl, hb1⟩
  go_wp2_with fail
  have hk1 : (w1.alloc (.cells (ar8 f) 24)).heap[w1.heap.size]? = some (.cells (ar8 f) 24 (0, 0)) := blk_new _ _
  have B1 : Below w.heap.size w (w1.alloc (.cells (ar8 f) 24)) := hb1.alloc hb1.size _
  show Calls _ _ _ (w1.alloc (.cells (ar8 f) 24)) _
  generalize w1.heap.size = b1 at *
  generalize w1.alloc (.cells (ar8 f) 24) = WA at *
  refine (HPT.out _ (HG.out.keep B1)).mono ?_
  rintro e w2 ⟨rfl, hb2⟩
  have hk2 := blk_below hk1 hb2
  have B2 := chain0 B1 hb2
  clear hk1 B1 hb2 hb1
  go_wp2_with fail
  have hk3 : (w2.alloc (.cells (ar8 g) 24)).heap[w2.heap.size]? = some (.cells (ar8 g) 24 (0, 0)) := blk_new _ _
  have hk2 := blk_alloc hk2 (.cells (ar8 g) 24)
  have B3 : Below w.heap.size w (w2.alloc (.cells (ar8 g) 24)) := B2.alloc B2.size _
  show Calls _ _ _ (w2.alloc (.cells (ar8 g) 24)) _
  generalize w2.heap.size = b2 at *
  generalize w2.alloc (.cells (ar8 g) 24) = WB at *
  refine (HRS.out _).mono ?_
  rintro e w3 ⟨rfl, hb3⟩
  have hk2 := blk_below hk2 hb3
  have hk3 := blk_below hk3 hb3
  have B4 := chain0 B3 hb3
  clear B2 B3 hb3
  go_wp2_with fail
  have hk2 := blk_alloc hk2 (.cells (ar8 f) 30)
  have hk3 := blk_alloc hk3 (.cells (ar8 f) 30)
  have B5 : Below w.heap.size w (w3.alloc (.cells (ar8 f) 30)) := B4.alloc B4.size _
  show Calls _ _ _ (w3.alloc (.cells (ar8 f) 30)) _
  generalize w3.heap.size = b3 at *
  generalize w3.alloc (.cells (ar8 f) 30) = WC at *
  refine (HRT.out _).mono ?_
  rintro e w4 ⟨rfl, hb4⟩
  have hk2 := blk_below hk2 hb4
  have hk3 := blk_below hk3 hb4
  have B6 := chain0 B5 hb4
  clear B4 B5 hb4
  go_wp2_with fail
  have hk2 := blk_alloc hk2 (.cells (ar8 g) 30)
  have hk3 := blk_alloc hk3 (.cells (ar8 g) 30)
  have B7 : Below w.heap.size w (w4.alloc (.cells (ar8 g) 30)) := B6.alloc B6.size _
  show Calls _ _ _ (w4.alloc (.cells (ar8 g) 30)) _
  generalize w4.heap.size = b4 at *
  generalize w4.alloc (.cells (ar8 g) 30) = WD at *
  refine (awake_walk _).mono ?_
  rintro e W ⟨rfl, hb5⟩
  have hk2 := blk_below hk2 hb5
  have hk3 := blk_below hk3 hb5
  have BW := chain0 B7 hb5
  clear B6 B7 hb5 HPS HPT HRS HRT
  have a0 : W.cell? ⟨b1, 0, none⟩ = some (.int .u16 (f 0)) := (blk_cell hk2 0).trans rfl
  have a1 : W.cell? ⟨b1, 1, none⟩ = some (.int .u16 (f 1)) := (blk_cell hk2 1).trans rfl
  have a2 : W.cell? ⟨b1, 2, none⟩ = some (.int .u16 (f 2)) := (blk_cell hk2 2).trans rfl
  have a3 : W.cell? ⟨b1, 3, none⟩ = some (.int .u16 (f 3)) := (blk_cell hk2 3).trans rfl
  have a4 : W.cell? ⟨b1, 4, none⟩ = some (.int .u16 (f 4)) := (blk_cell hk2 4).trans rfl
  have a5 : W.cell? ⟨b1, 5, none⟩ = some (.int .u16 (f 5)) := (blk_cell hk2 5).trans rfl
  have a6 : W.cell? ⟨b1, 6, none⟩ = some (.int .u16 (f 6)) := (blk_cell hk2 6).trans rfl
  have a7 : W.cell? ⟨b1, 7, none⟩ = some (.int .u16 (f 7)) := (blk_cell hk2 7).trans rfl
  have r0 : W.cell? ⟨b2, 0, none⟩ = some (.int .u16 (g 0)) := (blk_cell hk3 0).trans rfl
  have r1 : W.cell? ⟨b2, 1, none⟩ = some (.int .u16 (g 1)) := (blk_cell hk3 1).trans rfl
  have r2 : W.cell? ⟨b2, 2, none⟩ = some (.int .u16 (g 2)) := (blk_cell hk3 2).trans rfl
  have r3 : W.cell? ⟨b2, 3, none⟩ = some (.int .u16 (g 3)) := (blk_cell hk3 3).trans rfl
  have r4 : W.cell? ⟨b2, 4, none⟩ = some (.int .u16 (g 4)) := (blk_cell hk3 4).trans rfl
  have r5 : W.cell? ⟨b2, 5, none⟩ = some (.int .u16 (g 5)) := (blk_cell hk3 5).trans rfl
  have r6 : W.cell? ⟨b2, 6, none⟩ = some (.int .u16 (g 6)) := (blk_cell hk3 6).trans rfl
  have r7 : W.cell? ⟨b2, 7, none⟩ = some (.int .u16 (g 7)) := (blk_cell hk3 7).trans rfl
  have lb1 := blk_lt hk2
  have lb2 := blk_lt hk3
  clear hk2 hk3
  rcases hea with rfl | rfl
  · go_upto_region 9 with fail
    have HPF := Lib.hid (fun w => print_walk (f 0) (f 1) (f 2) (f 3) (f 4) (f 5) (f 6) (f 7) (r8_of HF.out) w)
    have HPG := Lib.hid (fun w => print_walk (g 0) (g 1) (g 2) (g 3) (g 4) (g 5) (g 6) (g 7) (r8_of HGR.out) w)
    rw [printL_xs] at HPF HPG
    go_cut [71] (fun v W' => v = .bool false ∧ Below W.heap.size W W')
    case first =>
      rcases heb with rfl | rfl
      · by_cases heq : ∀ j, j < 8 → f j = g j
        · have e : ∀ j, j < 8 → g j = f j := fun j hj => (heq j hj).symm
          rw [xsOf, e 0 (by decide), e 1 (by decide), e 2 (by decide), e 3 (by decide), e 4 (by decide), e 5 (by decide), e 6 (by decide), e 7 (by decide)] at HPG
          rw [e 0 (by decide)] at r0
          rw [e 1 (by decide)] at r1
          rw [e 2 (by decide)] at r2
          rw [e 3 (by decide)] at r3
          rw [e 4 (by decide)] at r4
          rw [e 5 (by decide)] at r5
          rw [e 6 (by decide)] at r6
          rw [e 7 (by decide)] at r7
          clear e heq
          refine wp_region_ext (by kernel_rfl) (by kernel_rfl) ?_
          repeat (go_big_quiet_step (with_reducible exact ext_of (HPF.out _)))
          refine wpQuiet_nil ?_
          rintro W2 ⟨⟨_, hb⟩, rfl⟩
          go_wp2_with fail
          go_meet
          exact ⟨rfl, hb⟩
        · refine wp_region_ext (by kernel_rfl) (by kernel_rfl) ?_
          repeat (go_big_quiet_step (first | (with_reducible exact ext_of (HPF.out _)) | (with_reducible exact ext_of (HPG.out _))))
          refine wpQuiet_nil ?_
          rintro W2 ⟨⟨_, hb⟩, rfl⟩
          go_wp2_with fail
          go_meet
          have hA : (f 0 == g 0 && (f 1 == g 1 && (f 2 == g 2 && (f 3 == g 3 && (f 4 == g 4 && (f 5 == g 5 && (f 6 == g 6 && f 7 == g 7))))))) = false := by
            rw [Bool.eq_false_iff]
            intro h
            simp only [Bool.and_eq_true, beq_iff_eq] at h
            obtain ⟨q0, q1, q2, q3, q4, q5, q6, q7⟩ := h
            exact heq (fun j hj => by
              match j, hj with
              | 0, _ => exact q0
              | 1, _ => exact q1
              | 2, _ => exact q2
              | 3, _ => exact q3
              | 4, _ => exact q4
              | 5, _ => exact q5
              | 6, _ => exact q6
              | 7, _ => exact q7
              | j + 8, hj => exact absurd hj (by omega))
          have hS : (textL (xsOf f) == textL (xsOf g)) = false := beq_eq_false_iff_ne.2 (fun e => heq (print_inj HF.out HGR.out e))
          refine ⟨?_, hb⟩
          rw [hA, hS]
          rfl
      · refine wp_region_ext (by kernel_rfl) (by kernel_rfl) ?_
        repeat (go_big_quiet_step (fail))
        refine wpQuiet_nil ?_
        rintro W2 ⟨⟨_, hb⟩, rfl⟩
        go_wp2_with fail
        go_meet
        exact ⟨rfl, hb⟩
    case rest =>
      obtain ⟨rfl, hbW⟩ := hcut
      have BX := chain0 BW hbW
      have a0 := (hbW.cell (p := ⟨b1, 0, none⟩) lb1).trans a0
      have a1 := (hbW.cell (p := ⟨b1, 1, none⟩) lb1).trans a1
      have a2 := (hbW.cell (p := ⟨b1, 2, none⟩) lb1).trans a2
      have a3 := (hbW.cell (p := ⟨b1, 3, none⟩) lb1).trans a3
      have a4 := (hbW.cell (p := ⟨b1, 4, none⟩) lb1).trans a4
      have a5 := (hbW.cell (p := ⟨b1, 5, none⟩) lb1).trans a5
      have a6 := (hbW.cell (p := ⟨b1, 6, none⟩) lb1).trans a6
      have a7 := (hbW.cell (p := ⟨b1, 7, none⟩) lb1).trans a7
      clear hbW r0 r1 r2 r3 r4 r5 r6 r7 HPG heb
      go_wp2_with fail
      go_loop [17, 18, 19, 20] (OneRel s) (fun _ _ _ i => s.size - (intOf i).toNat)
      case atStart => exact ⟨0, 0, false, false, Nat.zero_le _, Nat.le_refl _, rfl, rfl, rfl, rfl, Nat.zero_add _, rfl, rfl⟩
      case round =>
        obtain ⟨n, pc, dt, sh, hn, hpc, rfl, rfl, rfl, rfl, h1, h2, h3⟩ := hrel
        by_cases hlt : n < s.size
        · have HS := Lib.hid (one_step (s := s) hlt hpc h1 h2 h3)
          clear h1 h2 h3
          have hltI : (n : Int) < s.size := by omega
          rcases Nat.eq_zero_or_pos n with rfl | h0
          · have hB : beginsAt s.data.toList 0 = true := rfl
            have hC : colonAt s.data.toList 0 = false := rfl
            by_cases q46 : s[0] = 46
            · have k46 : ((s[0].toNat : Int) == 46) = true := by rw [q46]; rfl
              have k58 : ((s[0].toNat : Int) == 58) = false := by rw [q46]; rfl
              have n58 : ((s[0].toNat : Int) != 58) = true := by rw [q46]; rfl
              cases dt <;> cases sh
              all_goals
                go_wp2_with fail
                exact ⟨HS.out _ _ _ (by simp [q46, hB, hC]) (by simp [q46, hB, hC]) (by simp [q46, hB, hC]), run_meas hlt⟩
            · by_cases q58 : s[0] = 58
              · have k46 : ((s[0].toNat : Int) == 46) = false := by rw [q58]; rfl
                have k58 : ((s[0].toNat : Int) == 58) = true := by rw [q58]; rfl
                have n58 : ((s[0].toNat : Int) != 58) = false := by rw [q58]; rfl
                cases dt <;> cases sh
                all_goals
                  go_wp2_with fail
                  exact ⟨HS.out _ _ _ (by simp [q58, hB, hC]) (by simp [q58, hB, hC]) (by simp [q58, hB, hC]), run_meas hlt⟩
              · have k46 : ((s[0].toNat : Int) == 46) = false := (byte_beq s[0] 46).trans (beq_eq_false_iff_ne.2 q46)
                have k58 : ((s[0].toNat : Int) == 58) = false := (byte_beq s[0] 58).trans (beq_eq_false_iff_ne.2 q58)
                have n58 : ((s[0].toNat : Int) != 58) = true := by rw [bne, k58]; rfl
                cases dt <;> cases sh
                all_goals
                  go_wp2_with fail
                  exact ⟨HS.out _ _ _ (by simp [q46, q58, hB, hC]) (by simp [q46, q58, hB, hC]) (by simp [q46, q58, hB, hC]), run_meas hlt⟩
          · obtain ⟨m, rfl⟩ : ∃ m, n = m + 1 := ⟨n - 1, by omega⟩
            have hm : m < s.size := by omega
            have hz := size_len s
            have hg : s.data.toList.getD m 0 = s[m] := by
              rw [List.getD_eq_getElem?_getD, List.getElem?_eq_getElem (by omega)]
              rfl
            have hB0 : beginsAt s.data.toList (m + 1) = (s[m] == 58) := by unfold beginsAt; rw [Nat.add_sub_cancel, hg]; simp
            have hC0 : colonAt s.data.toList (m + 1) = (s[m] == 58) := by unfold colonAt; rw [Nat.add_sub_cancel, hg]; simp
            have HB := Lib.hid hB0
            have HC := Lib.hid hC0
            clear hz hg hB0 hC0
            by_cases qm : s[m] = 58
            · have m58 : ((s[m].toNat : Int) == 58) = true := by rw [qm]; rfl
              have hB : beginsAt s.data.toList (m + 1) = true := by rw [HB.out, qm]; rfl
              have hC : colonAt s.data.toList (m + 1) = true := by rw [HC.out, qm]; rfl
              by_cases q46 : s[m + 1] = 46
              · have k46 : ((s[m + 1].toNat : Int) == 46) = true := by rw [q46]; rfl
                have k58 : ((s[m + 1].toNat : Int) == 58) = false := by rw [q46]; rfl
                have n58 : ((s[m + 1].toNat : Int) != 58) = true := by rw [q46]; rfl
                cases dt <;> cases sh
                all_goals
                  go_wp2_with fail
                  exact ⟨HS.out _ _ _ (by simp [q46, hB, hC]) (by simp [q46, hB, hC]) (by simp [q46, hB, hC]), run_meas hlt⟩
              · by_cases q58 : s[m + 1] = 58
                · have k46 : ((s[m + 1].toNat : Int) == 46) = false := by rw [q58]; rfl
                  have k58 : ((s[m + 1].toNat : Int) == 58) = true := by rw [q58]; rfl
                  have n58 : ((s[m + 1].toNat : Int) != 58) = false := by rw [q58]; rfl
                  cases dt <;> cases sh
                  all_goals
                    go_wp2_with fail
                    exact ⟨HS.out _ _ _ (by simp [q58, hB, hC]) (by simp [q58, hB, hC]) (by simp [q58, hB, hC]), run_meas hlt⟩
                · have k46 : ((s[m + 1].toNat : Int) == 46) = false := (byte_beq s[m + 1] 46).trans (beq_eq_false_iff_ne.2 q46)
                  have k58 : ((s[m + 1].toNat : Int) == 58) = false := (byte_beq s[m + 1] 58).trans (beq_eq_false_iff_ne.2 q58)
                  have n58 : ((s[m + 1].toNat : Int) != 58) = true := by rw [bne, k58]; rfl
                  cases dt <;> cases sh
                  all_goals
                    go_wp2_with fail
                    exact ⟨HS.out _ _ _ (by simp [q46, q58, hB, hC]) (by simp [q46, q58, hB, hC]) (by simp [q46, q58, hB, hC]), run_meas hlt⟩
            · have m58 : ((s[m].toNat : Int) == 58) = false := (byte_beq s[m] 58).trans (beq_eq_false_iff_ne.2 qm)
              have hB : beginsAt s.data.toList (m + 1) = false := by rw [HB.out]; exact beq_eq_false_iff_ne.2 qm
              have hC : colonAt s.data.toList (m + 1) = false := by rw [HC.out]; exact beq_eq_false_iff_ne.2 qm
              by_cases q46 : s[m + 1] = 46
              · have k46 : ((s[m + 1].toNat : Int) == 46) = true := by rw [q46]; rfl
                have k58 : ((s[m + 1].toNat : Int) == 58) = false := by rw [q46]; rfl
                have n58 : ((s[m + 1].toNat : Int) != 58) = true := by rw [q46]; rfl
                cases dt <;> cases sh
                all_goals
                  go_wp2_with fail
                  exact ⟨HS.out _ _ _ (by simp [q46, hB, hC]) (by simp [q46, hB, hC]) (by simp [q46, hB, hC]), run_meas hlt⟩
              · by_cases q58 : s[m + 1] = 58
                · have k46 : ((s[m + 1].toNat : Int) == 46) = false := by rw [q58]; rfl
                  have k58 : ((s[m + 1].toNat : Int) == 58) = true := by rw [q58]; rfl
                  have n58 : ((s[m + 1].toNat : Int) != 58) = false := by rw [q58]; rfl
                  cases dt <;> cases sh
                  all_goals
                    go_wp2_with fail
                    exact ⟨HS.out _ _ _ (by simp [q58, hB, hC]) (by simp [q58, hB, hC]) (by simp [q58, hB, hC]), run_meas hlt⟩
                · have k46 : ((s[m + 1].toNat : Int) == 46) = false := (byte_beq s[m + 1] 46).trans (beq_eq_false_iff_ne.2 q46)
                  have k58 : ((s[m + 1].toNat : Int) == 58) = false := (byte_beq s[m + 1] 58).trans (beq_eq_false_iff_ne.2 q58)
                  have n58 : ((s[m + 1].toNat : Int) != 58) = true := by rw [bne, k58]; rfl
                  cases dt <;> cases sh
                  all_goals
                    go_wp2_with fail
                    exact ⟨HS.out _ _ _ (by simp [q46, q58, hB, hC]) (by simp [q46, q58, hB, hC]) (by simp [q46, q58, hB, hC]), run_meas hlt⟩
        · obtain rfl : n = s.size := by omega
          have hz := size_len s
          rw [List.drop_of_length_le (by omega)] at h1 h2 h3
          have h1' : pc = onePc true s.data.toList := h1
          have hsh : sh = oneSh false s.data.toList := by rw [← h3]; exact (Bool.or_false sh).symm
          have h65 := ok_short HP.out
          have hs65 : s.size ≤ 65 := by omega
          have H2 := Lib.hid h2
          have H1 := Lib.hid h1'
          have H3 := Lib.hid hsh
          clear h1 h2 h3 h1' hsh hz
          cases dt
          · have hd : (46 : UInt8) ∉ s.data.toList := fun hm => by
              have hq : s.data.toList.any (· == 46) = true := List.any_eq_true.2 ⟨46, hm, rfl⟩
              rw [← H2.out] at hq
              cases hq
            have hlen : ¬ (sh = true ∧ 7 ≤ pc) → (textL (xsOf f)).length ≤ s.data.toList.length + 1 := fun hq => one_len HP.out hd (by rw [← H3.out, ← H1.out]; exact hq)
            have HL := Lib.hid hlen
            clear hlen hd
            cases sh
            · have hle := HL.out (fun q => by cases q.1)
              rw [← size_len s] at hle
              go_wp2_with fail
              refine (HPF.out _).mono ?_
              rintro e w9 ⟨rfl, hb9⟩
              go_wp2_with fail
              go_returns
              refine ⟨?_, chain0 BX hb9⟩
              show Ending.returned (.bool (decide (((textL (xsOf f)).length : Int) ≤ (s.size : Int) + 1))) = _
              rw [decide_eq_true (by omega)]
            · by_cases h7 : 7 ≤ pc
              · go_wp2_with fail
                go_returns
                exact ⟨rfl, BX⟩
              · have hle := HL.out (fun q => h7 q.2)
                rw [← size_len s] at hle
                go_wp2_with fail
                refine (HPF.out _).mono ?_
                rintro e w9 ⟨rfl, hb9⟩
                go_wp2_with fail
                go_returns
                refine ⟨?_, chain0 BX hb9⟩
                show Ending.returned (.bool (decide (((textL (xsOf f)).length : Int) ≤ (s.size : Int) + 1))) = _
                rw [decide_eq_true (by omega)]
          · go_wp2_with fail
            go_returns
            exact ⟨rfl, BX⟩
  · go_wp2_with fail
    go_returns
    exact ⟨rfl, BW⟩
end Go.Proofs.YtcgdjnmfeibnoaaDoor
/-! Frame -/
namespace Go.Proofs.YtcgdjnmfeibnoaaDoor
open Go.RowKit Go.WideShapes Go.ChangeShapes Go.ChangeAt
set_option linter.unusedVariables false
set_option linter.unusedSimpArgs false
section
variable {H : Type} {enc : TypeId × Value → H} {P : Program}
theorem law_below {f : Func} {s : ChangeSpec} {apart fresh handsOn again : Bool} {W W' : World} {args : Array Value} {v : Value} {ds gs : List (DataW H)} {before pa pv : List MemPlace}
    (hW : DataW.Whole enc P f.params.toList s.vars apart W args.toList ds gs before)
    (hres : ∀ (b : Nat) (sp : Nat → Bool) (hd : Bool), DataW.TrodAll enc P W' b sp hd f.resultTypes.toList (v.resultList f.resultTypes.size) (s.fn H (ds ++ gs)).results [])
    (hargs : ∀ sp : Nat → Bool, (∀ p ∈ before, sp p.block = true) → DataW.TrodAll enc P W' 0 sp true f.params.toList args.toList (s.fn H (ds ++ gs)).args pa)
    (hvars : ∀ sp : Nat → Bool, (∀ p ∈ before, sp p.block = true) → DataW.TrodVars enc P W' sp s.vars (s.fn H (ds ++ gs)).vars pv)
    (hps : before = pa ++ pv) (hb : Below W.heap.size W W')
    (hok : ∀ (j : Nat) (t : TypeId) (r : Value), f.resultTypes[j]? = some t → (v.resultList f.resultTypes.size)[j]? = some r → Value.okWide P W' .any 0 t r) :
    s.post enc P f apart fresh handsOn again W args v W' := by
  have hlt : ∀ p ∈ before, p.block < W.heap.size := fun p hp => hW.lt p hp
  have hold : ∀ p ∈ before, (fun b => decide (b < W.heap.size)) p.block = true := fun p hp => by simpa using hlt p hp
  refine ⟨ds, gs, before, [], pa, pv, hW, hres _ _ _, hargs _ hold, hvars _ hold, World.keptBut_mono (fun p hp => ⟨hp, ?_⟩) (hb.frame (· ∈ before)), fun _ => ?_⟩
  · rw [hps, List.mem_append] at hp
    exact Or.inr hp
  · obtain ⟨_, _, _, _, _, hz, hn⟩ := hW
    refine ⟨hok, _, _, ([] ++ pa) ++ pv, ⟨[] ++ pa, pv, trodAll_append (hargs _ (fun _ _ => rfl)) (hres _ _ _), hvars _ (fun _ _ => rfl), rfl, ?_, ?_⟩, ?_⟩
    · intro b off hp
      have hin : MemPlace.cell b off ∈ before := by rw [hps]; simpa using hp
      rw [hb.frozen (hlt _ hin)]
      exact hz b off hin
    · intro ha
      have := hn ha
      rw [hps] at this
      simpa using this
    · intro p hp _
      rw [hps]
      simpa using hp
/-- All arguments read as they did, where all stays that was there. -/
theorem args_stay (hl : laidOutB P = true) {W W' : World} (hB : Below W.heap.size W W') {sp : Nat → Bool} :
    ∀ (ts : List TypeId) (vs : List Value) (ds : List (DataW H)) (ps : List MemPlace), (∀ t ∈ ts, P.readableRec t = true ∧ t < P.types.size) → DataW.TrodAll enc P W 0 (fun _ => true) true ts vs ds ps →
      (∀ p ∈ ps, p.block < W.heap.size) → (∀ p ∈ ps, sp p.block = true) → DataW.TrodAll enc P W' 0 sp true ts vs ds ps
  | [], vs, ds, ps, _, h, _, _ => by
    obtain ⟨rfl, rfl, rfl⟩ := trodAll_nil h
    exact trodAll_mk0
  | t :: ts, vs, ds, ps, hr, h, hlt, hs => by
    obtain ⟨v, vs1, d, ds1, a, b, rfl, rfl, rfl, h1, h2⟩ := trodAll_cons h
    have hlt' := hlt
    exact trodAll_cons_mk (WideElems.Trod_stays hl (hr t (by simp)).1 (hr t (by simp)).2 h1 (fun x hx => hB.same (hlt x (by simp [hx]))) (fun x hx => hs x (by simp [hx])))
      (args_stay hl hB ts vs1 ds1 b (fun t ht => hr t (by simp [ht])) h2 (fun p hp => hlt p (by simp [hp])) (fun p hp => hs p (by simp [hp])))
/-- THE STEP OF A LAW's ROW. -/
theorem law_post {f : Func} {s : ChangeSpec} {tb : TypeId} {W W' : World} {args : Array Value} {ds : List (DataW H)} {before : List MemPlace} (hv : s.vars = []) (hfn : s.fn H ds = { results := [.lit (.bool true)], args := ds })
    (hres : f.resultTypes = #[tb]) (hb : P.underlying tb = some .bool) (hl : laidOutB P = true) (hr : ∀ t ∈ f.params.toList, P.readableRec t = true ∧ t < P.types.size)
    (hW : DataW.Whole enc P f.params.toList s.vars false W args.toList ds [] before) (hB : Below W.heap.size W W') : s.post enc P f false true false false W args (.bool true) W' := by
  have hW' := hW
  obtain ⟨p, q, hA, hV, hpq, hfz, hnd⟩ := hW
  have hA : DataW.TrodAll enc P W 0 (fun _ => true) true f.params.toList args.toList ds p := hA
  rw [hv] at hV
  obtain ⟨_, rfl⟩ := trodVars_none hV
  have hlt : ∀ x ∈ before, x.block < W.heap.size := fun x hx => hW'.lt x hx
  subst hpq
  refine law_below (pa := p) (pv := []) hW' ?_ ?_ ?_ (by simp) hB ?_
  · intro b sp hd
    rw [List.append_nil, hfn, hres]
    exact trodAll_cons_mk (shut_bool hb true) trodAll_mk0
  · intro sp hs
    rw [List.append_nil, hfn]
    exact args_stay hl hB _ _ _ _ hr hA (fun x hx => hlt x (by simp [hx])) (fun x hx => hs x (by simp [hx]))
  · intro sp hs
    rw [List.append_nil, hfn, hv]
    rfl
  · exact ok_one hres rfl (okWide_bool_mk hb true)
end
end Go.Proofs.YtcgdjnmfeibnoaaDoor
/-! SixOneCard -/
namespace Go.Proofs.YtcgdjnmfeibnoaaDoor.fnSixOne
open Go.ChangeShapes Go.WideShapes Go.ChangeAt Go.RowKit Go.Proofs.YtcgdjnmfeibnoaaDoor
set_option linter.unusedVariables false
theorem own : ownKnob Tryd.prog.godebug = none := by kernel_rfl
theorem laidOut : laidOutB Tryd.prog = true := by kernel_rfl
theorem gw_of {W : World} (h : W.ShapedOpen Tryd.prog) (hL : laidMetH Tryd.prog Rows.sixOneRow.laid W) : GW W where
  maxLen := Tryd.laysM219.s1_3 W h
set_option maxRecDepth 100000 in
theorem contract (H : Type) (enc : TypeId × Value → H) (W : World) (base : Nat) (args : Array Value) (ds gs : List (DataW H)) (before : List MemPlace)
    (hval : ∀ (j : Nat) t v, Tryd.f5.params[j]? = some t → args[j]? = some v → Value.okWide Tryd.prog W .any base t v)
    (hW : DataW.Whole enc Tryd.prog Tryd.f5.params.toList Rows.sixOneSpec.vars false W args.toList ds gs before) (hL : laidMetH Tryd.prog Rows.sixOneRow.laid W) (hsh : W.ShapedOpen Tryd.prog) :
    Calls Tryd.prog 5 args W fun e W' => ∃ v, e = .returned v ∧ Rows.sixOneSpec.post enc Tryd.prog Tryd.f5 false true false false W args v W' := by
  have hW' := hW
  obtain ⟨p, q, hA0, hV, rfl, hfz, hnd⟩ := hW
  have hA : DataW.TrodAll enc Tryd.prog W 0 (fun _ => true) true Tryd.f5.params.toList args.toList ds p := hA0
  rw [Tryd.params5] at hA hval
  obtain ⟨v0, vs0, d0, ds0, p0, q0, hargs, rfl, rfl, h0, r0⟩ := trodAll_cons hA
  obtain ⟨v1, vs1, d1, ds1, p1, q1, rfl, rfl, rfl, h1, r1⟩ := trodAll_cons r0
  obtain ⟨rfl, rfl, rfl⟩ := trodAll_nil r1
  obtain rfl : args = #[v0, v1] := by cases args; simp_all
  obtain ⟨rfl, rfl⟩ := trodVars_none hV
  obtain ⟨s0, rfl, rfl, rfl, y0⟩ := Go.ChangeMaps.open_string Tryd.underlying9 (hval 0 9 v0 rfl rfl) h0
  obtain ⟨s1, rfl, rfl, rfl, y1⟩ := Go.ChangeMaps.open_string Tryd.underlying9 (hval 1 9 v1 rfl rfl) h1
  clear hA0
  have hG := gw_of hsh hL
  refine (one_walk s0 s1 (Nat.le_trans y0 (by decide)) (Nat.le_trans y1 (by decide)) W hG).mono fun e W' ⟨he, hg⟩ => ?_
  subst he
  exact ⟨_, rfl, law_post (s := Rows.sixOneSpec) (f := Tryd.f5) rfl rfl (tb := 4) rfl Tryd.underlying4 laidOut (by rw [Tryd.params5]; intro t ht; simp at ht; subst ht; exact ⟨by kernel_rfl, of_decide_eq_true (by kernel_rfl)⟩) hW' hg⟩
def accepts : List Nat := [128, 191, 160, 191, 128, 159, 144, 191, 128, 143, 0, 0, 0, 0, 0, 0, 0, 0, 0, 0, 0, 0, 0, 0, 0, 0, 0, 0, 0, 0, 0, 0]
/-- A world for the witness: the settled one, the tables holding what their initialisers lay. -/
noncomputable def laidWorld (os : Os) : World := { World.holding Tryd.prog os ⟨#[], #[], []⟩ with heap := (((World.holding Tryd.prog os ⟨#[], #[], []⟩).heap.modify 3 fun | .cells _ t frozen => .cells (accepts.map fun (z : Nat) => Value.int .u8 z).toArray t frozen | o => o).modify 2 fun | .cells _ t frozen => .cells (Go.Pinned.utf8FirstZ.map fun (z : Nat) => Value.int .u8 z).toArray t frozen | o => o) }
theorem laid_met (os : Os) : laidMet Tryd.prog Rows.sixOneRow.laid ((laidWorld os).forCall (fun _ _ => 0) ⟨#[], #[.string ByteArray.empty, .string ByteArray.empty], []⟩).memory :=
  laidMet_of_run' 8 (by kernel_rfl) (by kernel_rfl)
theorem reads (os : Os) {H : Type} (enc : TypeId × Value → H) : ∃ places, DataW.whole enc Tryd.prog ((laidWorld os).forCall (fun _ _ => 0) ⟨#[], #[.string ByteArray.empty, .string ByteArray.empty], []⟩).memory Tryd.f5.params.toList Rows.sixOneSpec.vars false (#[.string ByteArray.empty, .string ByteArray.empty] : Array Value).toList 8 = some ([.lit (.string []), .lit (.string [])], [], places) :=
  ⟨[], by kernel_rfl⟩
set_option maxRecDepth 100000 in
theorem lifted (os : Os) (started : os.Started) (H : Type) (enc : TypeId × Value → H) (F : Stop.Interp) :
    ReturnsInHanded {} Tryd.checked os 5 .any ((OpenSpec.ofChange Rows.sixOneSpec).preRow enc Tryd.prog Tryd.f5 Rows.sixOneRow.domain false Rows.sixOneRow.laid) (((OpenSpec.ofChange Rows.sixOneSpec).at F).post enc Tryd.prog Tryd.f5 false true false false) := by
  obtain ⟨places, hx⟩ := reads os enc
  refine returnsInHanded_of_row (C := Tryd.checked) (s := OpenSpec.ofChange Rows.sixOneSpec) own started (by kernel_rfl) Tryd.func5
    (witness_row_at (enc := enc) (C := Tryd.checked) false (laidWorld os) #[.string ByteArray.empty, .string ByteArray.empty] rfl (by kernel_rfl) (by kernel_rfl) (by kernel_rfl)
      (OpenSpec.preRow_of_cond 8 hx (by kernel_rfl) (fun k hk => by cases hk) (by kernel_rfl) (laid_met os))) ?_
  intro W base args ds gs before hval hW _ _ _ hL hsh _
  exact contract H enc W base args ds gs before hval hW hL hsh
theorem said : Rows.SixOneSaid :=
  OpenClaim.holds_of_cond 5 Tryd.f5 rfl rfl rfl rfl rfl rfl rfl ⟨rfl, rfl, rfl, rfl, rfl⟩ rfl rfl rfl rfl rfl (by kernel_rfl) Tryd.func5 (by kernel_rfl)
    (of_decide_eq_true (by kernel_rfl)) (by unfold Func.isWrapper; first | (rw [if_pos (by decide +kernel)]; kernel_rfl) | (rw [if_neg (by decide +kernel)]; exact ⟨rfl, rfl⟩))
    (fun os started H enc _ F => by rw [OpenClaim.pre_eq_preRow]; exact lifted os started H enc F)
/-- No parameter wants a stand-in; the program's own looks are off. -/
theorem plain (f : FuncId) (fn : Func) (hf : Tryd.pinned.checked.prog.funcNamed "postern/posternlaw21.SixOne" = some f) (hfn : Tryd.pinned.checked.prog.funcs[f]? = some fn) :
    false = Tryd.pinned.checked.prog.looks [] ∧ ∀ (j : Nat) t, fn.params[j]? = some t → Tryd.pinned.checked.prog.wantsStandIn t = false := by
  obtain rfl : f = 5 := Option.some.inj ((show Tryd.prog.funcNamed "postern/posternlaw21.SixOne" = some 5 by kernel_rfl).symm.trans hf) |>.symm
  obtain rfl : fn = Tryd.f5 := (Option.some.inj (Tryd.func5.symm.trans hfn)).symm
  refine ⟨by kernel_rfl, fun j t ht => ?_⟩
  rw [Tryd.params5] at ht
  have hm := Array.mem_of_getElem? ht
  simp at hm
  subst hm
  exact (show Tryd.prog.wantsStandIn 9 = false by kernel_rfl)
theorem card : Rows.SixOneCardSaid :=
  Claim7.holds_tied_plain_at .later [] _ _ _ _ said (fun _ h => by cases h) (by kernel_rfl) (fun _ h => by cases h) sixOne_row_tie rfl ⟨rfl, rfl⟩ (by kernel_rfl) rfl plain (by kernel_rfl)
#print axioms card
end Go.Proofs.YtcgdjnmfeibnoaaDoor.fnSixOne
