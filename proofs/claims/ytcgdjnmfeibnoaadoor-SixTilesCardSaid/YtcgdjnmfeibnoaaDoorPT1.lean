/- Several texts in one (wip/gen/pack.py): SixCover SixCmp Tail SixCover2 SixRefCover Builder Hex SixRun SixText SixPrint SixCovers SoShelf Gr SixSo SixRz SixR8 SixSameZ AppRow SixGiven JoinV SixJn SixJi. -/
import Derived.Deep.LoopGhost
import Derived.Deep.Onto
import Derived.Laws.OwnMore
import Derived.Test.YtcgdjnmfeibnoaaDoorPT0
import Derived.Deep.Quiet
import Derived.StillTail
import Derived.Deep.CutBlock
import Derived.Deep.DeepCutAuto
import Derived.Laws.BitsLemmas
import Derived.Laws.Externs
import Derived.Laws.IdiomCopy
import Derived.Lib.AppendStr
import Derived.Lib.Builder
import Derived.Lib.Slices
import Derived.Lib.Strings
import Derived.Lib.UnsafeStr
import Derived.Lib.Walk
import Derived.Laws.MakeOwn
import Derived.Lib.ConvBytes
import Derived.Lib.Hide
import Derived.Deep.AppendLies
import Derived.Shelf.SlSortCmp.NoneTotal
import Derived.Shelf.SlSortCmp.WholeK
import Derived.Shelf.SlicesE.Clone
import Derived.Shelf.SlicesQ.IndexFunc
import Derived.Test.YtcgdjnmfeibnoaaDoorProg
import Derived.Sort.Grow
import Derived.Deep.WholeRow
import Derived.Test.YtcgdjnmfeibnoaaDoorWWords
import Derived.Deep.RegionHeld3
import Derived.Laws.AppendOwnNone
import Derived.Lib.TrailingZeros
import Derived.Lib.OwnBridge
/-! SixCover -/
namespace Go.Proofs.YtcgdjnmfeibnoaaDoor
open Go.RowKit
set_option linter.unusedVariables false
set_option linter.unusedSimpArgs false
/-- The cells of a prefix. -/
def pcell (p : Int × Nat) : List Value := [.int .u16 (pc 0 p.1), .int .u16 (pc 1 p.1), .int .u16 (pc 2 p.1), .int .u16 (pc 3 p.1), .int .u16 (pc 4 p.1), .int .u16 (pc 5 p.1), .int .u16 (pc 6 p.1), .int .u16 (pc 7 p.1), .int .i64 p.2]
def pcells (l : List (Int × Nat)) : List Value := l.flatMap pcell
theorem pcells_snoc (l : List (Int × Nat)) (p : Int × Nat) : pcells (l ++ [p]) = pcells l ++ pcell p := by simp [pcells]
theorem pre_info : (Tryd.prog.info? 53).map (fun i => (i.zero, i.size, i.bytes)) = some (some (.agg #[.int .u16 0, .int .u16 0, .int .u16 0, .int .u16 0, .int .u16 0, .int .u16 0, .int .u16 0, .int .u16 0, .int .i64 0]), 9, 24) := by kernel_rfl
theorem n2_split {v : Int} : N2 (v / 18446744073709551616) (v % 18446744073709551616) = v := by unfold N2; omega
theorem wide_words {v : Int} (h : Wide v) : Word (v / 18446744073709551616) ∧ Word (v % 18446744073709551616) := by
  obtain ⟨_, _⟩ := h
  unfold Word; omega
theorem n2_halves {k m v : Int} (hm : Word m) (e : N2 k m = v) : k = v / 18446744073709551616 ∧ m = v % 18446744073709551616 := by
  obtain ⟨_, _⟩ := hm
  unfold N2 at e; omega
/-- A number as the program has it. -/
abbrev WV (v : Int) : Value := W2 (v / 18446744073709551616) (v % 18446744073709551616)
theorem last_wide {v : Int} {n : Nat} (hv : Wide v) (hn : n ≤ 128) (hz : v % 2 ^ (128 - n) = 0) : Wide (v + 2 ^ (128 - n) - 1) := by
  obtain ⟨v0, v1⟩ := hv
  have hp := pow_pos2 (128 - n)
  have e : (340282366920938463463374607431768211456 : Int) = 2 ^ (128 - n) * 2 ^ n := by
    rw [← pow_add2, show 128 - n + n = 128 from by omega]; rfl
  have e2 := Int.mul_ediv_add_emod v (2 ^ (128 - n))
  rw [hz, Int.add_zero] at e2
  have e3 : v / 2 ^ (128 - n) < 2 ^ n := by
    apply Int.lt_of_mul_lt_mul_left (a := 2 ^ (128 - n)) _ (Int.le_of_lt hp)
    rw [e2, ← e]; exact v1
  have e4 := Int.mul_le_mul_of_nonneg_left (show v / 2 ^ (128 - n) + 1 ≤ 2 ^ n by omega) (Int.le_of_lt hp)
  rw [Int.mul_add, e2, ← e, Int.mul_one] at e4
  exact ⟨by omega, by omega⟩
theorem wlast_at {v : Int} {n : Nat} (hv : Wide v) (hn : n ≤ 128) (hz : v % 2 ^ (128 - n) = 0) (w : World) :
    Calls Tryd.prog 58 #[WV v, .int .i64 n] w fun e w' => e = .returned (WV (v + 2 ^ (128 - n) - 1)) ∧ Below w.heap.size w w' := by
  obtain ⟨hh, hl⟩ := wide_words hv
  have e : (128 - (n : Int)).toNat = 128 - n := by omega
  refine (wlast_walk _ _ n hh hl (by omega) (by omega) (by rw [n2_split, e]; exact hz) w).mono ?_
  rintro e1 w' ⟨k, m, rfl, hk, hm, h, hb⟩
  rw [n2_split, e] at h
  obtain ⟨rfl, rfl⟩ := n2_halves hm h
  exact ⟨rfl, hb⟩
theorem less_at {v u : Int} (hv : Wide v) (hu : Wide u) (w : World) :
    Calls Tryd.prog 60 #[WV v, WV u] w fun e w' => e = .returned (.bool (decide (v < u))) ∧ Below w.heap.size w w' := by
  obtain ⟨hh, hl⟩ := wide_words hv
  obtain ⟨hk, hm⟩ := wide_words hu
  have h := less_walk _ _ _ _ hh hl hk hm w
  rw [n2_split, n2_split] at h
  exact h
theorem wsix_at {v : Int} (hv : Wide v) (w : World) :
    Calls Tryd.prog 64 #[WV v] w fun e w' => e = .returned (A8 (pc 0 v) (pc 1 v) (pc 2 v) (pc 3 v) (pc 4 v) (pc 5 v) (pc 6 v) (pc 7 v)) ∧ Below w.heap.size w w' := by
  obtain ⟨hh, hl⟩ := wide_words hv
  refine (wsix_walk _ _ hh hl w).mono ?_
  rintro e w' ⟨y0, y1, y2, y3, y4, y5, y6, y7, rfl, hr, h, hb⟩
  rw [n2_split] at h
  obtain ⟨rfl, rfl, rfl, rfl, rfl, rfl, rfl, rfl⟩ := pc_of hr h
  exact ⟨rfl, hb⟩
/-- What next answers of a number that is not the last. -/
theorem wnext_more {v : Int} (hv : Wide v) (h : v < 340282366920938463463374607431768211455) (w : World) :
    Calls Tryd.prog 59 #[WV v] w fun e w' => e = .returned (.tuple #[WV (v + 1), .bool true]) ∧ Below w.heap.size w w' := by
  obtain ⟨hh, hl⟩ := wide_words hv
  refine (wnext_walk _ _ hh hl w).mono ?_
  rintro e w' ⟨k, m, rfl, hk, hm, hn, hb⟩
  rw [n2_split] at hn
  obtain ⟨rfl, rfl⟩ := n2_halves hm (hn h)
  exact ⟨by rw [n2_split, decide_eq_true h], hb⟩
theorem wnext_none {v : Int} (hv : Wide v) (h : ¬ v < 340282366920938463463374607431768211455) (w : World) :
    Calls Tryd.prog 59 #[WV v] w fun e w' => (∃ k m : Int, e = .returned (.tuple #[W2 k m, .bool false])) ∧ Below w.heap.size w w' := by
  obtain ⟨hh, hl⟩ := wide_words hv
  refine (wnext_walk _ _ hh hl w).mono ?_
  rintro e w' ⟨k, m, rfl, hk, hm, hn, hb⟩
  exact ⟨⟨k, m, by rw [n2_split, decide_eq_false h]⟩, hb⟩
theorem wideOf_at (x0 x1 x2 x3 x4 x5 x6 x7 : Int) (h : R8 x0 x1 x2 x3 x4 x5 x6 x7) (w : World) :
    Calls Tryd.prog 39 #[A8 x0 x1 x2 x3 x4 x5 x6 x7] w fun e w' => e = .returned (WV (V8 x0 x1 x2 x3 x4 x5 x6 x7)) ∧ Below w.heap.size w w' := by
  refine (wideOf_walk _ _ _ _ _ _ _ _ h w).mono ?_
  rintro e w' ⟨rfl, hb⟩
  obtain ⟨e1, e2⟩ := n2_halves (q4_word h.h4 h.h5 h.h6 h.h7) (n2_v8 x0 x1 x2 x3 x4 x5 x6 x7)
  exact ⟨by rw [e1, e2], hb⟩
theorem zeros_at {v : Int} (hv : Wide v) (w : World) (hg : 0 < w.heap.size) (hT : Tab w) :
    Calls Tryd.prog 83 #[WV v] w fun e w' => ∃ z : Int, e = .returned (.int .i64 z) ∧ Zeros v z ∧ Below w.heap.size w w' := by
  obtain ⟨hh, hl⟩ := wide_words hv
  have h := zeros_walk _ _ hh hl w hg hT
  rw [n2_split] at h
  exact h
/-- Two cells: a number. -/
def CW (w : World) (b : Nat) (v : Int) : Prop := w.cell? ⟨b, 0, none⟩ = some (.int .u64 (v / 18446744073709551616)) ∧ w.cell? ⟨b, 1, none⟩ = some (.int .u64 (v % 18446744073709551616))
theorem CW.keep {w W : World} {b B : Nat} {v : Int} (h : CW w b v) (hb : b < B) (hB : Below B w W) : CW W b v :=
  ⟨(hB.cell (p := ⟨b, 0, none⟩) hb).trans h.1, (hB.cell (p := ⟨b, 1, none⟩) hb).trans h.2⟩
def sliceLen : Value → Nat
  | .slice _ n _ => n
  | _ => 0
theorem own_below {W W' : World} {base size n : Nat} {e : TypeId} {v : Value} {xs : List Value} (h : W.ownsRow base e size v n xs) (hb : Below W.heap.size W W') : W'.ownsRow base e size v n xs :=
  h.kept (row := none) ⟨hb.os, hb.tape, hb.output, hb.size, fun k hk _ => hb.block k hk⟩ (by cases hv : v.ownBlock <;> simp)
theorem own_set {W : World} {base size n : Nat} {e : TypeId} {v : Value} {xs : List Value} (h : W.ownsRow base e size v n xs) (a : Addr) (u : Value) (ha : a.block < base) : (W.setCell a u).ownsRow base e size v n xs :=
  h.kept (row := some a.block) ⟨rfl, rfl, rfl, by simp, fun k _ hk => Below.heap_setCell _ _ _ _ (by simpa using hk)⟩ (by
    cases hv : v.ownBlock with
    | none => exact Or.inl rfl
    | some k => exact Or.inr (by have := (h.lt k hv).1; simp; omega))
/-- What stands at the head of a round of the search for the widest prefix. -/
def KeepRel (w1 : World) (g t z : Int) (s : Value) (W : World) : Prop :=
  ∃ k : Nat, 128 - z ≤ k ∧ k ≤ 128 ∧ s = .int .i64 k ∧ (∀ j, j < k → ¬ OkKeep g t j) ∧ Below w1.heap.size w1 W
theorem zeros_ok {g t z : Int} (hz : Zeros g z) {j : Nat} (hj : (j : Int) < 128 - z) : ¬ OkKeep g t j := by
  intro h
  have h1 := mod_less (show (z + 1).toNat ≤ 128 - j by omega) h.1
  exact hz.more (by omega) h1
theorem zeros_mod {g z : Int} (hz : Zeros g z) {j : Nat} (hj : 128 - z ≤ (j : Int)) : g % 2 ^ (128 - j) = 0 := mod_less (show 128 - j ≤ z.toNat by omega) hz.zero
theorem own_len {W : World} {base size n : Nat} {e : TypeId} {v : Value} {xs : List Value} (h : W.ownsRow base e size v n xs) : sliceLen v = n := by
  rcases h.2 with ⟨rfl, rfl⟩ | ⟨g, cap, cur, rfl, _⟩ <;> rfl
/-- What is kept: the two numbers in their boxes, the row so far. -/
structure CB (w : World) (g t : Int) (s : Value) (done : List (Int × Nat)) (W : World) : Prop where
  c0 : CW W w.heap.size g
  c1 : CW W (w.heap.size + 1) t
  own : W.ownsRow (w.heap.size + 2) 53 9 s done.length (pcells done)
  below : Below w.heap.size w W
  size : w.heap.size + 2 ≤ W.heap.size
  z0 : W.frozen? ⟨w.heap.size, 0, none⟩ = false
  z1 : W.frozen? ⟨w.heap.size, 1, none⟩ = false
theorem CB.keep {w W W' : World} {g t : Int} {s : Value} {done : List (Int × Nat)} (h : CB w g t s done W) (hb : Below W.heap.size W W') : CB w g t s done W' :=
  ⟨h.c0.keep (by have := h.size; omega) hb, h.c1.keep (by have := h.size; omega) hb, own_below h.own hb, chain h.below hb, Nat.le_trans h.size hb.size,
    (hb.frozen (p := ⟨w.heap.size, 0, none⟩) (by have := h.size; simp; omega)).trans h.z0, (hb.frozen (p := ⟨w.heap.size, 1, none⟩) (by have := h.size; simp; omega)).trans h.z1⟩
theorem CB.moved {w W : World} {g g' t : Int} {s : Value} {done : List (Int × Nat)} (h : CB w g t s done W) {x y : Value} (h0 : W.cell? ⟨w.heap.size, 0, none⟩ = some x) (h1 : W.cell? ⟨w.heap.size, 1, none⟩ = some y) :
    CB w g' t s done ((W.setCell ⟨w.heap.size, 0, none⟩ (.int .u64 (g' / 18446744073709551616))).setCell ⟨w.heap.size, 1, none⟩ (.int .u64 (g' % 18446744073709551616))) := by
  refine ⟨⟨?_, ?_⟩, ⟨?_, ?_⟩, own_set (own_set h.own _ _ (by simp)) _ _ (by simp), (h.below.setCell (by simp) _).setCell (by simp) _, by simpa using h.size, by simpa using h.z0, by simpa using h.z1⟩
  · rw [World.cell?_setCell_other _ _ _ _ (by simp), World.cell?_setCell_same _ _ _ h0]
  · exact World.cell?_setCell_same (u := y) _ _ _ ((World.cell?_setCell_other _ _ _ _ (by simp)).trans h1)
  · rw [World.cell?_setCell_other _ _ _ _ (by simp), World.cell?_setCell_other _ _ _ _ (by simp)]; exact h.c1.1
  · rw [World.cell?_setCell_other _ _ _ _ (by simp), World.cell?_setCell_other _ _ _ _ (by simp)]; exact h.c1.2
/-- What stands at the head of a round of cover. -/
def CoverRel (w : World) (f t : Int) (s : Value) (W : World) : Prop :=
  ∃ (g : Int) (done : List (Int × Nat)), Wide g ∧ coverL f t = done ++ coverL g t ∧ g ≤ t ∧ Phase done.length g t ∧ CB w g t s done W
set_option maxHeartbeats 4000000 in
set_option maxRecDepth 100000 in
theorem cover_walk (f t : Int) (hf : Wide f) (ht : Wide t) (hft : f ≤ t) (w : World) (hg : 0 < w.heap.size) (hT : Tab w) :
    Calls Tryd.prog 38 #[WV f, WV t] w fun e w' => ∃ v, e = .returned v ∧ w'.ownsRow w.heap.size 53 9 v (coverL f t).length (pcells (coverL f t)) ∧ Below w.heap.size w w' := by
  obtain ⟨i0, hi, hz0, hz1, hz2⟩ := info_parts pre_info
  go_enter Tryd.func38, Tryd.ntmps38
  go_wp2_with fail
  go_loopw [5] (fun s W => CoverRel w f t s W) (fun s _ => 258 - sliceLen s)
  case atStart => exact ⟨f, [], hf, rfl, hft, Or.inl ⟨by simp, by simp⟩, ⟨⟨by go_simp, by go_simp⟩, ⟨by go_simp, by go_simp⟩, World.ownsRow_nil _ _ _ _, by go_grown, by go_size, by go_simp, by go_simp⟩⟩
  case round =>
    obtain ⟨g, done, hgw, hcov, hgt, hph, hcb⟩ := hrel
    have hT1 : Tab wr := hT.keep hg hcb.below
    have hg1 : 0 < wr.heap.size := Nat.lt_of_lt_of_le hg hcb.below.size
    have c00 := hcb.c0.1
    have c01 := hcb.c0.2
    have HCOV := Lib.hid hcov
    have HI := Lib.hid hi
    have HZ0 := Lib.hid hz0
    have HZ1 := Lib.hid hz1
    have HZ2 := Lib.hid hz2
    have HHT := Lib.hid hT
    have HSL := Lib.hid (own_len hcb.own)
    clear hcov hi hz0 hz1 hz2 hT
    go_wp2_with fail
    refine (zeros_at hgw _ hg1 hT1).mono ?_
    rintro e w1 ⟨z, rfl, hz, hb1⟩
    have z0 := hz.lo
    have z1 := hz.hi
    replace hcb := hcb.keep hb1
    clear hb1 c00 c01 hT1 hg1
    have c00 := hcb.c0.1
    have c01 := hcb.c0.2
    go_wp2_with fail
    obtain ⟨wo, ho⟩ : ∃ wo : World, wo = w1 := ⟨_, rfl⟩
    go_loopw [6] (fun s W => KeepRel w1 g t z s W) (fun s _ => 128 - (intOf s).toNat)
    case atStart => exact ⟨(128 - z).toNat, by omega, by omega, by rw [Int.toNat_of_nonneg (by omega)], fun j hj => zeros_ok hz (by omega), Below.refl _ _⟩
    case round =>
      obtain ⟨k, hk0, hk1, rfl, hl, hbk⟩ := hrel
      clear c00 c01 ho wo
      have hcb1 := hcb.keep hbk
      have c00 := hcb1.c0.1
      have c01 := hcb1.c0.2
      have c10 := hcb1.c1.1
      have c11 := hcb1.c1.2
      have l0 : w.heap.size < wr.heap.size := by have := hcb1.size; omega
      have l1 : w.heap.size + 1 < wr.heap.size := by have := hcb1.size; omega
      have hzk := zeros_mod hz hk0
      have hlw := last_wide hgw hk1 hzk
      have HZK := Lib.hid hzk
      clear hzk
      go_wp2_with fail
      refine wp_region_ext (by kernel_rfl) (by kernel_rfl) ?_
      repeat (go_big_quiet_step (first | (with_reducible exact ext_of (wlast_at hgw hk1 HZK.out _)) | (with_reducible exact ext_of (less_at ht hlw _))))
      refine wpQuiet_nil ?_
      rintro _ ⟨⟨w2, hb2⟩, rfl⟩
      have hcb2 := hcb1.keep hb2
      clear c00 c01 c10 c11 l0 l1
      by_cases hlt : t < g + 2 ^ (128 - k) - 1
      · rw [decide_eq_true hlt]
        have hk2 : k < 128 := by
          rcases Nat.lt_or_ge k 128 with c | c
          · exact c
          · obtain rfl : k = 128 := by omega
            rw [show (2 : Int) ^ (128 - 128) = 1 from by decide] at hlt
            omega
        have HL := Lib.hid hl
        have HLT := Lib.hid hlt
        clear hl hlt hlw
        go_wp2_with fail
        refine ⟨⟨k + 1, by omega, by omega, by simp, fun j hj => ?_, chain hbk hb2⟩, by simp [intOf]; omega⟩
        by_cases hjk : j = k
        · subst hjk
          intro ho
          have := ho.2
          have := HLT.out
          omega
        · exact HL.out j (by omega)
      · rw [decide_eq_false hlt]
        have hK : Keep g t k := ⟨hk1, ⟨HZK.out, by omega⟩, hl⟩
        have HK := Lib.hid hK
        have hnt : g + 2 ^ (128 - k) - 1 ≤ t := by omega
        clear hl hlt hK
        have c00 := hcb2.c0.1
        have c01 := hcb2.c0.2
        go_wp2_with fail
        refine (wsix_at hgw _).mono ?_
        rintro e w3 ⟨rfl, hb3⟩
        have hcb3 := hcb2.keep hb3
        clear c00 c01 hb2 hb3 hcb1 hbk hcb hcb2
        have hlen := hph.le
        have hown := hcb3.own
        have hsz := hcb3.size
        clear hlen
        have hn : done.length ≤ 257 := hph.le
        go_wp2_with (at_builtin; refine app_one rfl _ _ 25 rfl (w.heap.size + 2) 53 i0 (.agg #[.int .u16 0, .int .u16 0, .int .u16 0, .int .u16 0, .int .u16 0, .int .u16 0, .int .u16 0, .int .u16 0, .int .i64 0]) 9 24 Tryd.underlying25 HI.out HZ0.out HZ1.out HZ2.out rfl (by decide) _ _ _ rfl hown [.int .u16 (pc 0 g), .int .u16 (pc 1 g), .int .u16 (pc 2 g), .int .u16 (pc 3 g), .int .u16 (pc 4 g), .int .u16 (pc 5 g), .int .u16 (pc 6 g), .int .u16 (pc 7 g), .int .i64 k] rfl rfl (by simp [Value.oneCell']) (by unfold maxLen; omega) (by omega) hsz ?_; intro G cap w4 hG hown' hgrow hbel; have c00 := (hcb3.c0.keep (B := w.heap.size + 2) (by omega) (hbel _ _ (Nat.le_refl _) (Below.refl _ _))).1; have c01 := (hcb3.c0.keep (B := w.heap.size + 2) (by omega) (hbel _ _ (Nat.le_refl _) (Below.refl _ _))).2)
        have hcb4 : CB w g t (.slice (some ⟨G, 0, none⟩) (done.length + 1) cap) (done ++ [(g, k)]) w4 :=
          ⟨hcb3.c0.keep (B := w.heap.size + 2) (by omega) (hbel _ _ (Nat.le_refl _) (Below.refl _ _)), hcb3.c1.keep (B := w.heap.size + 2) (by omega) (hbel _ _ (Nat.le_refl _) (Below.refl _ _)), by rw [List.length_append, pcells_snoc]; exact hown', hbel _ _ (by omega) hcb3.below, Nat.le_trans hsz (by have := hgrow.size; simp only [World.size_alloc] at this; omega),
            ((hbel (w.heap.size + 2) w3 (Nat.le_refl _) (Below.refl _ _)).frozen (p := ⟨w.heap.size, 0, none⟩) (by simp)).trans hcb3.z0, ((hbel (w.heap.size + 2) w3 (Nat.le_refl _) (Below.refl _ _)).frozen (p := ⟨w.heap.size, 1, none⟩) (by simp)).trans hcb3.z1⟩
        clear hown' hgrow hbel hcb3 hown hsz
        refine (wlast_at hgw hk1 HZK.out _).mono ?_
        rintro e w5 ⟨rfl, hb5⟩
        have hcb5 := hcb4.keep hb5
        clear c00 c01 hb5 hcb4
        go_wp2_with fail
        by_cases hmax : g + 2 ^ (128 - k) - 1 < 340282366920938463463374607431768211455
        · refine (wnext_more hlw hmax _).mono ?_
          rintro e w6 ⟨rfl, hb6⟩
          rw [show g + 2 ^ (128 - k) - 1 + 1 = g + 2 ^ (128 - k) from by omega]
          have hcb6 := hcb5.keep hb6
          have hnw : Wide (g + 2 ^ (128 - k)) := ⟨by have := hlw.1; omega, by omega⟩
          have c10 := hcb6.c1.1
          have c11 := hcb6.c1.2
          have l0 : w.heap.size < w6.heap.size := by have := hcb6.size; omega
          have l1 : w.heap.size + 1 < w6.heap.size := by have := hcb6.size; omega
          clear hb6 hcb5
          go_wp2_with fail
          refine (less_at ht hnw _).mono ?_
          rintro e w7 ⟨rfl, hb7⟩
          have hal : Below w6.heap.size w6 (w6.alloc (.cells #[.int .u64 ((g + 2 ^ (128 - k)) / 18446744073709551616), .int .u64 ((g + 2 ^ (128 - k)) % 18446744073709551616)] 74)) := (Below.refl _ _).alloc (Nat.le_refl _) _
          have hcb7 := (hcb6.keep hal).keep hb7
          have n0 : w7.cell? ⟨w6.heap.size, 0, none⟩ = some (.int .u64 ((g + 2 ^ (128 - k)) / 18446744073709551616)) := (hb7.cell (p := ⟨w6.heap.size, 0, none⟩) (by simp only [World.size_alloc]; omega)).trans (by go_simp)
          have n1 : w7.cell? ⟨w6.heap.size, 1, none⟩ = some (.int .u64 ((g + 2 ^ (128 - k)) % 18446744073709551616)) := (hb7.cell (p := ⟨w6.heap.size, 1, none⟩) (by simp only [World.size_alloc]; omega)).trans (by go_simp)
          have m2 : w6.heap.size < w7.heap.size := Nat.lt_of_lt_of_le (by simp only [World.size_alloc]; omega) hb7.size
          clear hal hb7 c10 c11 l0 l1 hcb6
          have c00 := hcb7.c0.1
          have c01 := hcb7.c0.2
          have l0 : w.heap.size < w7.heap.size := by have := hcb7.size; omega
          have f0 := hcb7.z0
          have f1 := hcb7.z1
          by_cases hlt : t < g + 2 ^ (128 - k)
          · rw [decide_eq_true hlt]
            go_wp2_with fail
            go_returns
            rw [HCOV.out, coverL_last hgt HK.out (by omega)]
            exact ⟨_, rfl, World.ownsRow.mono hcb7.own (by omega), hcb7.below⟩
          · rw [decide_eq_false hlt]
            go_wp2_with fail
            refine ⟨⟨g + 2 ^ (128 - k), done ++ [(g, k)], hnw, ?_, by omega, ?_, ?_⟩, by rw [HSL.out]; show 258 - (done.length + 1) < _; omega⟩
            · rw [HCOV.out, coverL_more hgt HK.out (by omega)]
              simp
            · rw [List.length_append]
              exact hph.step hgw.1 ht.2 HK.out (by omega)
            · exact hcb7.moved c00 c01
        · refine (wnext_none hlw hmax _).mono ?_
          rintro e w6 ⟨⟨k', m', rfl⟩, hb6⟩
          have hcb6 := hcb5.keep hb6
          clear hb6 hcb5
          go_wp2_with fail
          go_returns
          rw [HCOV.out, coverL_last hgt HK.out (by have := ht.2; omega)]
          exact ⟨_, rfl, own_below (World.ownsRow.mono hcb6.own (by omega)) ((Below.refl _ _).alloc (Nat.le_refl _) _), hcb6.below.alloc (by have := hcb6.size; omega) _⟩
end Go.Proofs.YtcgdjnmfeibnoaaDoor
/-! SixCmp -/
namespace Go.Proofs.YtcgdjnmfeibnoaaDoor
open Go.RowKit
set_option linter.unusedVariables false
set_option linter.unusedSimpArgs false
set_option maxHeartbeats 400000 in
theorem cmp_walk (x y : Int) (w : World) : Calls Tryd.prog 103 #[.int .u16 x, .int .u16 y] w fun e w' => e = .returned (.int .i64 (cmpI x y)) ∧ w = w' := by
  go_enter Tryd.func103, Tryd.ntmps103
  go_wp2
  all_goals go_returns
  all_goals go_tidy
  all_goals refine ⟨ret_int ?_, rfl⟩
  all_goals unfold cmpI
  all_goals (repeat' split)
  all_goals omega
set_option maxHeartbeats 1000000 in
set_option maxRecDepth 100000 in
theorem scmp_walk (x0 x1 x2 x3 x4 x5 x6 x7 y0 y1 y2 y3 y4 y5 y6 y7 : Int) (h : R8 x0 x1 x2 x3 x4 x5 x6 x7) (k : R8 y0 y1 y2 y3 y4 y5 y6 y7) (w : World) (b c : Nat)
    (hb : C8 w b x0 x1 x2 x3 x4 x5 x6 x7) (hc : C8 w c y0 y1 y2 y3 y4 y5 y6 y7) :
    Calls Tryd.prog 63 #[.slice (some ⟨b, 0, none⟩) 8 8, .slice (some ⟨c, 0, none⟩) 8 8] w fun e w' => e = .returned (.int .i64 (cmpI (V8 x0 x1 x2 x3 x4 x5 x6 x7) (V8 y0 y1 y2 y3 y4 y5 y6 y7))) ∧ w = w' := by
  obtain ⟨a0, a1, a2, a3, a4, a5, a6, a7⟩ := hb
  obtain ⟨b0, b1, b2, b3, b4, b5, b6, b7⟩ := hc
  go_enter Tryd.func63, Tryd.ntmps63
  go_wp2
  refine wp_loop_rounds 9 ?_
  repeat any_goals (rw [rounds_succ]; go_wp2_with (go_at_call 103; refine (cmp_walk _ _ _).mono ?_; rintro e w' ⟨rfl, rfl⟩))
  all_goals go_returns
  all_goals go_tidy
  all_goals refine ⟨ret_int ?_, rfl⟩
  all_goals clear a0 a1 a2 a3 a4 a5 a6 a7 b0 b1 b2 b3 b4 b5 b6 b7
  all_goals obtain ⟨⟨_, _⟩, ⟨_, _⟩, ⟨_, _⟩, ⟨_, _⟩, ⟨_, _⟩, ⟨_, _⟩, ⟨_, _⟩, ⟨_, _⟩⟩ := h
  all_goals obtain ⟨⟨_, _⟩, ⟨_, _⟩, ⟨_, _⟩, ⟨_, _⟩, ⟨_, _⟩, ⟨_, _⟩, ⟨_, _⟩, ⟨_, _⟩⟩ := k
  all_goals simp only [bne_iff_ne, ne_eq, bne_eq_false_iff_eq, cmpI_zero] at *
  all_goals unfold cmpI V8
  all_goals (repeat' split)
  all_goals omega
set_option maxHeartbeats 1000000 in
set_option maxRecDepth 100000 in
theorem compare_walk (x0 x1 x2 x3 x4 x5 x6 x7 y0 y1 y2 y3 y4 y5 y6 y7 : Int) (h : R8 x0 x1 x2 x3 x4 x5 x6 x7) (k : R8 y0 y1 y2 y3 y4 y5 y6 y7) (w : World) :
    Calls Tryd.prog 23 #[A8 x0 x1 x2 x3 x4 x5 x6 x7, A8 y0 y1 y2 y3 y4 y5 y6 y7] w fun e w' => e = .returned (.int .i64 (cmpI (V8 x0 x1 x2 x3 x4 x5 x6 x7) (V8 y0 y1 y2 y3 y4 y5 y6 y7))) ∧ Below w.heap.size w w' := by
  go_enter Tryd.func23, Tryd.ntmps23
  go_wp2
  go_quiet ((go_at_call 63; exact Calls.quiet_of_same ((scmp_walk x0 x1 x2 x3 x4 x5 x6 x7 y0 y1 y2 y3 y4 y5 y6 y7 h k _ _ _ ⟨by go_simp, by go_simp, by go_simp, by go_simp, by go_simp, by go_simp, by go_simp, by go_simp⟩ ⟨by go_simp, by go_simp, by go_simp, by go_simp, by go_simp, by go_simp, by go_simp, by go_simp⟩).mono fun _ _ ⟨he, hw⟩ => ⟨he, hw.symm⟩)))
  go_wp2
  go_returns
  exact ⟨rfl, bdn (by go_grown) _⟩
end Go.Proofs.YtcgdjnmfeibnoaaDoor
/-! Tail -/
namespace Go.Proofs.YtcgdjnmfeibnoaaDoor
open Go.RowKit Go
set_option linter.unusedVariables false
set_option linter.unusedSimpArgs false
section
variable {P : Program} {ops : Array Oper} {md : Region.Mode} {C : World → Prop}
/-- The head's operations, in whatever order; then L. -/
def headQ (P : Program) (md : Region.Mode) (ops : Array Oper) (C : World → Prop) (n : Nat) (L : Array Bool → Act → Prop) : Nat → Array Bool → Act → Prop
  | 0, listed, a => L listed a
  | f + 1, listed, a => Region.ready md ops listed ≠ [] ∧ ∀ i ∈ Region.ready md ops listed, i < n ∧ qOp P ops C i (headQ P md ops C n L f (listed.setIfInBounds i true)) a
theorem any_of_headQ {n g : Nat} {L : Array Bool → Act → Prop} {Q' : Exit → Act → World → Prop} (hL : ∀ listed a w, C w → L listed a → wpAny P md ops Q' g listed a w) :
    ∀ (f : Nat) (listed : Array Bool) (a : Act) (w : World), C w → headQ P md ops C n L f listed a → wpAny P md ops Q' (f + g) listed a w
  | 0, listed, a, w, hw, h => by rw [Nat.zero_add]; exact hL _ _ _ hw h
  | f + 1, listed, a, w, hw, h => by
    rw [show f + 1 + g = (f + g) + 1 from by omega]
    exact ⟨fun h0 => absurd h0 h.1, fun i hi => wpOp_of_qOp hw (fun a' w' hw' h' => any_of_headQ hL f _ a' w' hw' h') (h.2 i hi).2⟩
theorem headQ_first {n i : Nat} {oi : Oper} {v : Value} {L : Array Bool → Act → Prop} (hi : ops[i]? = some oi) (hsel : ∀ (j : Nat) (o : Oper) cs b, ops[j]? = some o → o.op ≠ .select cs b)
    (hs : Region.sinkB md ops n = true) (hc : Region.chainB md ops n = true) (hn : n < ops.size) (hin : i < n)
    (hdone : ∀ listed a, L listed a → ∀ j ∈ Region.ready md ops listed, n ≤ j) :
    ∀ (f : Nat) (listed : Array Bool) (a : Act), HeadInv md ops n listed →
      (∀ j oj, ops[j]? = some oj → j ≠ i → listed.getD j true = false → (∀ e ∈ oj.after, Region.binds md e = true → e.on ≠ i) → oi.apart ops oj = true) →
      i ∈ Region.ready md ops listed → YieldsIn P ops C oi v a →
      headQ P md ops C n L f (listed.setIfInBounds i true) (a.put oi.dst v) → headQ P md ops C n L (f + 1) listed a := by
  intro f
  induction f with
  | zero =>
    intro listed a inv _ hr hy H
    have hun := (mem_ready.1 hr).1
    refine ⟨fun h => (by rw [h] at hr; cases hr), fun j hj => ?_⟩
    have hjn : j < n := by
      rcases Nat.lt_or_ge j n with h | h
      · exact h
      · exact absurd hj (tail_waits hs hc hn inv _ i rfl hin hun j h)
    refine ⟨hjn, ?_⟩
    by_cases hji : j = i
    · subst hji; exact hy.qOp hi H
    · have := hdone _ _ H j (ready_mono hj hji)
      omega
  | succ f ih =>
    intro listed a inv hfree hr hy H
    have hun := (mem_ready.1 hr).1
    refine ⟨fun h => (by rw [h] at hr; cases hr), fun j hj => ?_⟩
    have hjn : j < n := by
      rcases Nat.lt_or_ge j n with h | h
      · exact h
      · exact absurd hj (tail_waits hs hc hn inv _ i rfl hin hun j h)
    refine ⟨hjn, ?_⟩
    by_cases hji : j = i
    · subst hji; exact hy.qOp hi H
    · have h1 := (H.2 j (ready_mono hj hji)).2
      obtain ⟨hjun, oj, hoj, hall⟩ := mem_ready.1 hj
      have hnot : ∀ e ∈ oj.after, Region.binds md e = true → e.on ≠ i := fun e he hb heq => by
        have h1 := hall e he hb
        rw [heq, getD_both hun] at h1
        cases h1
      have h2 := qOp_put hoj (hfree j oj hoj hji hjun hnot) (fun cs b => hsel i oi cs b hi) (fun cs b => hsel j oj cs b hoj) hy h1
      have hfree' : ∀ k ok, ops[k]? = some ok → k ≠ i → (listed.setIfInBounds j true).getD k true = false →
          (∀ e ∈ ok.after, Region.binds md e = true → e.on ≠ i) → oi.apart ops ok = true := fun k ok hk hki hun hno => by
        refine hfree k ok hk hki ?_ hno
        by_cases hjk : j = k
        · subst hjk; exact hjun
        · rw [getD_set_ne true hjk] at hun; exact hun
      refine qOp_mono (fun a' h3 => ih (listed.setIfInBounds j true) a' (inv.set hj hjn) hfree' (ready_mono hr (Ne.symm hji)) h3.1 ?_) h2
      rw [Array.setIfInBounds_comm _ _ hji]
      exact h3.2
theorem headQ_lex {n g : Nat} {Lq : Act → Prop} (hsel : Region.noSelect ops = true) (hs : Region.sinkB md ops n = true) (hc : Region.chainB md ops n = true) (hn : n < ops.size) :
    ∀ (l : List Oper) (k : Nat) (listed : Array Bool) (a : Act), (∀ j, j < l.length → l[j]? = ops[k + j]?) → k + l.length = n → HeadInv md ops n listed →
    Region.lexHead md ops g l.length k listed = true → wpQuiet P ops C Lq l a →
    headQ P md ops C n (fun listed' a' => Region.seqB md ops g n listed' = true ∧ Lq a') l.length listed a
  | [], k, listed, a, _, hk, _, hB, h => by
    have : k = n := by simpa using hk
    subst this
    exact ⟨by simpa [Region.lexHead] using hB, h⟩
  | o :: l, k, listed, a, hl, hk, inv, hB, h => by
    have h0 : ops[k]? = some o := by simpa using (hl 0 (by simp)).symm
    simp only [List.length_cons, Region.lexHead, Bool.and_eq_true] at hB
    obtain ⟨⟨hr, hf⟩, hB'⟩ := hB
    have hkn : k < n := by simp only [List.length_cons] at hk; omega
    have hr' : k ∈ Region.ready md ops listed := by simpa using hr
    have hst : qOp P ops C k (wpQuiet P ops C Lq l) a := by unfold qOp; simp only [h0]; exact h
    obtain ⟨v, hy, hK⟩ := yieldsIn_of_qOp h0 hst
    exact headQ_first h0 (Region.noSelect_spec hsel) hs hc hn hkn (fun listed' a' hL => seqB_ready hL.1) l.length listed a inv (Region.free_spec h0 hf) hr' hy
      (headQ_lex hsel hs hc hn l (k + 1) _ _ (fun j hj => by have := hl (j + 1) (by simp; omega); simpa [Nat.add_assoc, Nat.add_comm 1 j] using this) (by simp only [List.length_cons] at hk; omega) (inv.set hr' hkn) hB' hK)
theorem wp_region_quiet_tail {id : Nat} {Q : Exit → Act → World → Prop} {a : Act} {w : World} {l : List Oper} (n : Nat) (hm : P.follows .mixedOrders = true) (hB : Region.lexTailB .any l.toArray n = true) (hC : C { w with drawn := w.drawn + 1 })
    (h : wpQuiet P l.toArray C (fun a' => ∀ w', C w' → wpList P l.toArray Q (l.drop n) a' w') (l.take n) a) : (Code.region id l.toArray true).wp P Q a w := by
  simp only [Region.lexTailB, Bool.and_eq_true, decide_eq_true_eq] at hB
  obtain ⟨⟨⟨⟨hsel, hn⟩, hs⟩, hc⟩, hlex⟩ := hB
  have hn' : n < l.length := by simpa using hn
  have htl : (l.take n).length = n := by simp; omega
  have hdl : (l.drop n).length = l.toArray.size - n := by simp
  have inv0 : HeadInv .any l.toArray n (Array.replicate l.toArray.size false) :=
    ⟨by simp, fun j oj _ hl => (by rw [getD_replicate_false] at hl; cases hl), fun t _ ht => getD_in (by simpa using ht) (getD_replicate_false _ _)⟩
  have H := headQ_lex (md := .any) (g := l.toArray.size - n) hsel hs hc hn (l.take n) 0 _ a (fun j hj => by
    have hj' : j < n := by rw [htl] at hj; exact hj
    simp [hj']) (by simpa using htl) inv0 (by rw [htl]; exact hlex) h
  refine wp_region_any hm ?_
  have := any_of_headQ (Q' := Q) (g := l.toArray.size - n) (fun listed a' w' hw' hL => by
    have := wpAny_of_seq (md := .any) (Q' := Q) (l.drop n) n listed a' w' (fun j => by simp [List.getElem?_drop]) (by rw [hdl]; exact hL.1) (hL.2 w' hw')
    rwa [hdl] at this) _ _ _ _ hC H
  rw [htl, show n + (l.toArray.size - n) = l.toArray.size from by omega] at this
  exact this
/-- Callees in the head make memory of their own. -/
theorem wp_region_ext_tail {id : Nat} {Q : Exit → Act → World → Prop} {a : Act} {w : World} {l : List Oper} (n : Nat) (hm : P.follows .mixedOrders = true) (hB : Region.lexTailB .any l.toArray n = true)
    (h : wpQuiet P l.toArray (fun w' => ∃ x : Ext w, w' = x.wd) (fun a' => ∀ w', (∃ x : Ext w, w' = x.wd) → wpList P l.toArray Q (l.drop n) a' w') (l.take n) a) : (Code.region id l.toArray true).wp P Q a w :=
  wp_region_quiet_tail (C := fun w' => ∃ x : Ext w, w' = x.wd) n hm hB ⟨⟨_, (Below.refl _ w).drew⟩, rfl⟩ h
end
end Go.Proofs.YtcgdjnmfeibnoaaDoor
/-! SixCover2 -/
namespace Go.Proofs.YtcgdjnmfeibnoaaDoor
open Go.RowKit
set_option linter.unusedVariables false
set_option linter.unusedSimpArgs false
set_option maxHeartbeats 1000000 in
set_option maxRecDepth 100000 in
theorem coverSome_walk (a0 a1 a2 a3 a4 a5 a6 a7 b0 b1 b2 b3 b4 b5 b6 b7 : Int) (ha : R8 a0 a1 a2 a3 a4 a5 a6 a7) (hb : R8 b0 b1 b2 b3 b4 b5 b6 b7) (h : V8 a0 a1 a2 a3 a4 a5 a6 a7 ≤ V8 b0 b1 b2 b3 b4 b5 b6 b7) (w : World)
    (hg : 0 < w.heap.size) (hT : Tab w) :
    Calls Tryd.prog 10 #[A8 a0 a1 a2 a3 a4 a5 a6 a7, A8 b0 b1 b2 b3 b4 b5 b6 b7] w fun e w' => ∃ v, e = .returned (.tuple #[v, .int .i64 0]) ∧
      w'.ownsRow w.heap.size 53 9 v (coverL (V8 a0 a1 a2 a3 a4 a5 a6 a7) (V8 b0 b1 b2 b3 b4 b5 b6 b7)).length (pcells (coverL (V8 a0 a1 a2 a3 a4 a5 a6 a7) (V8 b0 b1 b2 b3 b4 b5 b6 b7))) ∧ Below w.heap.size w w' := by
  go_enter Tryd.func10, Tryd.ntmps10
  go_wp2_with fail
  refine (compare_walk _ _ _ _ _ _ _ _ _ _ _ _ _ _ _ _ ha hb _).mono ?_
  rintro e w1 ⟨rfl, hb1⟩
  have hle : ¬ 0 < cmpI (V8 a0 a1 a2 a3 a4 a5 a6 a7) (V8 b0 b1 b2 b3 b4 b5 b6 b7) := by
    unfold cmpI; split
    · omega
    · rw [if_neg (by omega)]; omega
  generalize cmpI (V8 a0 a1 a2 a3 a4 a5 a6 a7) (V8 b0 b1 b2 b3 b4 b5 b6 b7) = c at *
  have B1 : Below w.heap.size w w1 := chain (by go_grown) hb1
  obtain ⟨hc1, _, hs1⟩ := after hb1
  simp only [World.size_alloc] at hs1
  have l0 : w.heap.size < w1.heap.size := by omega
  have l1 : w.heap.size + 1 < w1.heap.size := by omega
  have K0 : C8 w1 w.heap.size a0 a1 a2 a3 a4 a5 a6 a7 := C8_keep ⟨by go_simp, by go_simp, by go_simp, by go_simp, by go_simp, by go_simp, by go_simp, by go_simp⟩ (by simp only [World.size_alloc]; omega) hb1
  have K1 : C8 w1 (w.heap.size + 1) b0 b1 b2 b3 b4 b5 b6 b7 := C8_keep ⟨by go_simp, by go_simp, by go_simp, by go_simp, by go_simp, by go_simp, by go_simp, by go_simp⟩ (by simp only [World.size_alloc]; omega) hb1
  clear hc1 hs1 hb1
  go_wp2_with fail
  have hwa := v8_wide ha
  have hwb := v8_wide hb
  have hT1 := hT.keep hg B1
  have g1 : 0 < w1.heap.size := Nat.lt_of_lt_of_le hg B1.size
  have HT1 := Lib.hid hT1
  clear hT1 hT hg hle
  refine wp_region_ext_tail 4 (by kernel_rfl) (by kernel_rfl) ?_
  dsimp only [List.take, List.drop]
  repeat (go_big_quiet_step (first | (with_reducible exact ext_of (wideOf_at a0 a1 a2 a3 a4 a5 a6 a7 ha _)) | (with_reducible exact ext_of (wideOf_at b0 b1 b2 b3 b4 b5 b6 b7 hb _))))
  refine wpQuiet_nil ?_
  rintro _ ⟨⟨w2, hb2⟩, rfl⟩
  go_wp2_with fail
  refine (cover_walk _ _ hwa hwb h _ (Nat.lt_of_lt_of_le g1 hb2.size) (HT1.out.keep g1 hb2)).mono ?_
  rintro e w3 ⟨v, rfl, hown, hb3⟩
  go_wp2_with fail
  go_returns
  exact ⟨_, rfl, World.ownsRow.mono hown (Nat.le_trans B1.size hb2.size), chain (chain B1 hb2) hb3⟩
end Go.Proofs.YtcgdjnmfeibnoaaDoor
/-! SixRefCover -/
namespace Go.Proofs.YtcgdjnmfeibnoaaDoor
open Go.RowKit
set_option linter.unusedVariables false
set_option linter.unusedSimpArgs false
/-- Eight cells: a number. -/
abbrev CA (w : World) (b : Nat) (v : Int) : Prop := C8 w b (pc 0 v) (pc 1 v) (pc 2 v) (pc 3 v) (pc 4 v) (pc 5 v) (pc 6 v) (pc 7 v)
theorem CA.keep {w W : World} {b B : Nat} {v : Int} (h : CA w b v) (hb : b < B) (hB : Below B w W) : CA W b v := by
  obtain ⟨h0, h1, h2, h3, h4, h5, h6, h7⟩ := h
  exact ⟨(hB.cell (p := ⟨b, 0, none⟩) hb).trans h0, (hB.cell (p := ⟨b, 1, none⟩) hb).trans h1, (hB.cell (p := ⟨b, 2, none⟩) hb).trans h2, (hB.cell (p := ⟨b, 3, none⟩) hb).trans h3,
    (hB.cell (p := ⟨b, 4, none⟩) hb).trans h4, (hB.cell (p := ⟨b, 5, none⟩) hb).trans h5, (hB.cell (p := ⟨b, 6, none⟩) hb).trans h6, (hB.cell (p := ⟨b, 7, none⟩) hb).trans h7⟩
/-- Nine cells: a prefix. -/
abbrev CP (w : World) (b : Nat) (v : Int) (n : Nat) : Prop := CA w b v ∧ w.cell? ⟨b, 8, none⟩ = some (.int .i64 n)
/-- What is kept: the two numbers in their boxes, the row so far. -/
structure RB (w : World) (g t : Int) (s : Value) (done : List (Int × Nat)) (W : World) : Prop where
  c0 : CA W w.heap.size g
  c1 : CA W (w.heap.size + 1) t
  own : W.ownsRow (w.heap.size + 2) 61 9 s done.length (pcells done)
  below : Below w.heap.size w W
  size : w.heap.size + 2 ≤ W.heap.size
  fz : ∀ j, W.frozen? ⟨w.heap.size, j, none⟩ = false
theorem RB.keep {w W W' : World} {g t : Int} {s : Value} {done : List (Int × Nat)} (h : RB w g t s done W) (hb : Below W.heap.size W W') : RB w g t s done W' :=
  ⟨h.c0.keep (by have := h.size; omega) hb, h.c1.keep (by have := h.size; omega) hb, own_below h.own hb, chain h.below hb, Nat.le_trans h.size hb.size,
    fun j => (hb.frozen (p := ⟨w.heap.size, j, none⟩) (by have := h.size; simp; omega)).trans (h.fz j)⟩
theorem RB.set {w W : World} {g t : Int} {s : Value} {done : List (Int × Nat)} (h : RB w g t s done W) (a : Addr) (u : Value) (ha : w.heap.size + 2 ≤ a.block) (hne : ∀ k, s.ownBlock = some k → k ≠ a.block) : RB w g t s done (W.setCell a u) := by
  have ot : ∀ b o, b < w.heap.size + 2 → (W.setCell a u).cell? ⟨b, o, none⟩ = W.cell? ⟨b, o, none⟩ := fun b o hb => World.cell?_setCell_other _ _ _ _ (by intro e; subst e; simp at ha; omega)
  refine ⟨?_, ?_, ?_, h.below.setCell (by omega) _, by simpa using h.size, fun j => by simpa using h.fz j⟩
  · obtain ⟨h0, h1, h2, h3, h4, h5, h6, h7⟩ := h.c0
    exact ⟨(ot _ _ (by omega)).trans h0, (ot _ _ (by omega)).trans h1, (ot _ _ (by omega)).trans h2, (ot _ _ (by omega)).trans h3, (ot _ _ (by omega)).trans h4, (ot _ _ (by omega)).trans h5, (ot _ _ (by omega)).trans h6, (ot _ _ (by omega)).trans h7⟩
  · obtain ⟨h0, h1, h2, h3, h4, h5, h6, h7⟩ := h.c1
    exact ⟨(ot _ _ (by omega)).trans h0, (ot _ _ (by omega)).trans h1, (ot _ _ (by omega)).trans h2, (ot _ _ (by omega)).trans h3, (ot _ _ (by omega)).trans h4, (ot _ _ (by omega)).trans h5, (ot _ _ (by omega)).trans h6, (ot _ _ (by omega)).trans h7⟩
  · refine h.own.kept (row := some a.block) ⟨rfl, rfl, rfl, by simp, fun k _ hk => Below.heap_setCell _ _ _ _ (by simpa using hk)⟩ ?_
    cases hv : s.ownBlock with
    | none => exact Or.inl rfl
    | some k => exact Or.inr (by have := hne k hv; simpa using this)
theorem RB.moved {w W : World} {g g' t : Int} {s : Value} {done : List (Int × Nat)} (h : RB w g t s done W) : RB w g' t s done ((((((((W.setCell ⟨w.heap.size, 0, none⟩ (.int .u16 (pc 0 g'))).setCell ⟨w.heap.size, 1, none⟩ (.int .u16 (pc 1 g'))).setCell ⟨w.heap.size, 2, none⟩ (.int .u16 (pc 2 g'))).setCell ⟨w.heap.size, 3, none⟩ (.int .u16 (pc 3 g'))).setCell ⟨w.heap.size, 4, none⟩ (.int .u16 (pc 4 g'))).setCell ⟨w.heap.size, 5, none⟩ (.int .u16 (pc 5 g'))).setCell ⟨w.heap.size, 6, none⟩ (.int .u16 (pc 6 g'))).setCell ⟨w.heap.size, 7, none⟩ (.int .u16 (pc 7 g'))) := by
  obtain ⟨h0, h1, h2, h3, h4, h5, h6, h7⟩ := h.c0
  obtain ⟨k0, k1, k2, k3, k4, k5, k6, k7⟩ := h.c1
  refine ⟨⟨by go_cell, by go_cell, by go_cell, by go_cell, by go_cell, by go_cell, by go_cell, by go_cell⟩, ⟨by go_cell, by go_cell, by go_cell, by go_cell, by go_cell, by go_cell, by go_cell, by go_cell⟩, ?_, ?_, by simpa using h.size, fun j => by simpa using h.fz j⟩
  · iterate 8 (refine own_set ?_ _ _ (by simp))
    exact h.own
  · iterate 8 (refine Below.setCell ?_ (by simp) _)
    exact h.below
theorem CP.grown {W W' : World} {o : Obj} {row : Option Nat} {b : Nat} {g : Int} {k : Nat} (h : CP W b g k) (hb : b < W.heap.size) (hg : (W.alloc o).grownBy W' row) (hne : some b ≠ row) : CP W' b g k := by
  have hB : Below W.heap.size W (W.alloc o) := (Below.refl _ _).alloc (Nat.le_refl _) _
  obtain ⟨⟨h0, h1, h2, h3, h4, h5, h6, h7⟩, h8⟩ := h
  have st : ∀ j v, W.cell? ⟨b, j, none⟩ = some v → W'.cell? ⟨b, j, none⟩ = some v := fun j v hv => hg.cell ((hB.cell (p := ⟨b, j, none⟩) hb).trans hv) hne
  exact ⟨⟨st _ _ h0, st _ _ h1, st _ _ h2, st _ _ h3, st _ _ h4, st _ _ h5, st _ _ h6, st _ _ h7⟩, st _ _ h8⟩
end Go.Proofs.YtcgdjnmfeibnoaaDoor
/-! Builder -/
namespace Go.Proofs.YtcgdjnmfeibnoaaDoor
open Go.RowKit
set_option linter.unusedVariables false
set_option linter.unusedSimpArgs false
theorem bld_size : (Tryd.prog.info? 126).map (·.size) = some 2 := by kernel_rfl
theorem bld_lies : liesAt Tryd.prog Tryd.prog.depth 126 (2 / Tryd.prog.cellsOf 126) 0 126 1 = true := by kernel_rfl
theorem byte_info : (Tryd.prog.info? 5).map (fun i => (i.zero, i.size, i.bytes)) = some (some (.int .u8 0), 1, 1) := by kernel_rfl
theorem bld_ne : (126 : Nat) ≠ 5 := by decide
/-- A builder of this program. -/
abbrev IsB (B b : Nat) (bs : List Value) (w : World) : Prop := Lib.IsBuilder 126 5 B b bs w
/-- .. that has been written to. -/
abbrev AtB (B b : Nat) (bs : List Value) (w : World) : Prop := Lib.BuilderAt 126 5 B b (.pointer (some ⟨b, 0, none⟩)) bs w
set_option maxHeartbeats 1000000 in
set_option maxRecDepth 100000 in
theorem copyCheck_old (b : Nat) (w : World) (h0 : w.cell? ⟨b, 0, none⟩ = some (.pointer (some ⟨b, 0, none⟩))) :
    Calls Tryd.prog 113 #[.pointer (some ⟨b, 0, none⟩)] w fun e w' => e = .returned (.tuple #[]) ∧ w = w' := by
  obtain ⟨j, hj, _⟩ := Option.map_eq_some_iff.1 bld_size
  go_enter Tryd.func113, Tryd.ntmps113
  go_wp2
  rw [Lib.run_neq_ptr_same w _ Tryd.underlying123 hj]
  go_wp2
  go_end0
  exact ⟨rfl, rfl⟩
set_option maxHeartbeats 1000000 in
set_option maxRecDepth 100000 in
theorem copyCheck_new (b : Nat) (w : World) (h0 : w.cell? ⟨b, 0, none⟩ = some (.pointer none)) (hsh : w.shape? b = some (126, 2)) (hfz : w.frozen? ⟨b, 0, none⟩ = false) :
    Calls Tryd.prog 113 #[.pointer (some ⟨b, 0, none⟩)] w fun e w' => e = .returned (.tuple #[]) ∧ w.setCell ⟨b, 0, none⟩ (.pointer (some ⟨b, 0, none⟩)) = w' := by
  obtain ⟨j, hj, hjs⟩ := Option.map_eq_some_iff.1 bld_size
  go_enter Tryd.func113, Tryd.ntmps113
  go_wp2
  rw [Lib.run_to_unsafe w ⟨b, 0, none⟩ Tryd.underlying123 Tryd.underlying186 hj (by rw [hjs]; decide) hsh (Nat.zero_lt_succ 1)]
  simp only [Result.andThen]
  rw [Oper.upon_value]
  go_wp2
  rw [run_callFunc_extern Tryd.func142 (by kernel_rfl) (by kernel_rfl) (by kernel_rfl) (e := Extern.AbiNoEscape.same) (by kernel_rfl)]
  rw [Lib.run_noEscape]
  simp only [Result.andThen]
  rw [Oper.upon_value]
  go_wp2
  rw [Lib.run_from_unsafe w ⟨b, 0, none⟩ Tryd.underlying186 Tryd.underlying123 hj hsh bld_lies]
  simp only [Result.andThen]
  rw [Oper.upon_value]
  go_wp2
  go_end0
  exact ⟨rfl, rfl⟩
theorem copyCheck_walk (B b : Nat) (bs : List Value) (w : World) (h : IsB B b bs w) :
    Calls Tryd.prog 113 #[.pointer (some ⟨b, 0, none⟩)] w fun e w' => e = .returned (.tuple #[]) ∧ AtB B b bs w' ∧ Below B w w' := by
  rcases h with h | h
  · exact (copyCheck_new b w h.cell0 h.shape h.frozen0).mono fun e w' ⟨he, hw⟩ => ⟨he, hw ▸ h.used _, hw ▸ (Below.refl B w).setCell (p := ⟨b, 0, none⟩) h.1 _⟩
  · exact (copyCheck_old b w h.cell0).mono fun e w' ⟨he, hw⟩ => ⟨he, hw ▸ h, hw ▸ Below.refl B w⟩
/-- What a used builder's block gives a walk. -/
theorem atB_open {B b : Nat} {bs : List Value} {w : World} (h : AtB B b bs w) : ∃ v, B ≤ b ∧ b < w.heap.size ∧ w.heap[b]? = some (.cells #[.pointer (some ⟨b, 0, none⟩), v] 126 (0, 0)) ∧ w.ownsRow B 5 1 v bs.length bs ∧ v.ownBlock ≠ some b ∧
    w.cell? ⟨b, 0, none⟩ = some (.pointer (some ⟨b, 0, none⟩)) ∧ w.cell? ⟨b, 1, none⟩ = some v ∧ w.frozen? ⟨b, 1, none⟩ = false := by
  have hlt := h.lt
  obtain ⟨hB, v, hbk, hown, hne⟩ := h
  exact ⟨v, hB, hlt, hbk, hown, hne, by rw [Lib.cell_of_heap hbk]; rfl, by rw [Lib.cell_of_heap hbk]; rfl, Lib.frozen_of_heap hbk 1⟩
set_option maxHeartbeats 2000000 in
set_option maxRecDepth 100000 in
theorem writeByte_walk (B b : Nat) (bs : List Value) (c : Int) (w : World) (h : IsB B b bs w) (hlen : bs.length + 1 ≤ 140737488355328) (hBw : B ≤ w.heap.size) :
    Calls Tryd.prog 77 #[.pointer (some ⟨b, 0, none⟩), .int .u8 c] w fun e w' => e = .returned .nilIface ∧ AtB B b (bs ++ [.int .u8 c]) w' ∧ Below B w w' := by
  obtain ⟨i0, hi, hz0, hz1, hz2⟩ := info_parts byte_info
  go_enter Tryd.func77, Tryd.ntmps77
  go_wp2_with fail
  refine (copyCheck_walk B b bs _ h).mono ?_
  rintro e w1 ⟨rfl, h1, hb1⟩
  obtain ⟨v, hB, hlt, hbk, hown, hne, c0, c1, f1⟩ := atB_open h1
  have hs1 := hb1.size
  go_wp2_with (at_builtin; refine wpList_append_own _ rfl _ _ 124 rfl B 5 i0 (.int .u8 0) 1 1 Tryd.underlying124 hi hz0 hz1 hz2 rfl (by decide) _ _ _ rfl (hown.alloc _) ⟨w1.heap.size, 0, none⟩ 1 1 [.int .u8 c] rfl rfl ?c1 ?c2 ?c3 ?c4 ?c5 ?_)
  case c1 =>
    intro j u hj
    match j, hj with
    | 0, hj => simp at hj; subst hj; simp [Addr.add]
  case c2 => intro u hu; simp at hu; subst hu; rfl
  case c3 => unfold maxLen; omega
  case c4 => omega
  case c5 => simp; omega
  intro v' w2 hown' hgrow _
  have hb2 : w2.heap[b]? = some (.cells #[.pointer (some ⟨b, 0, none⟩), v] 126 (0, 0)) := by
    rw [hgrow.block b (by simp; omega) (fun e => hne e.symm), Lib.alloc_old w1 _ b hlt]
    exact hbk
  have d1 : w2.cell? ⟨b, 1, none⟩ = some v := by rw [Lib.cell_of_heap hb2]; rfl
  have f2 : w2.frozen? ⟨b, 1, none⟩ = false := Lib.frozen_of_heap hb2 1
  obtain ⟨g, cap, rfl⟩ : ∃ g cap, v' = .slice (some ⟨g, 0, none⟩) (bs.length + 1) cap := by
    rcases hown'.2 with ⟨_, h0⟩ | ⟨g, cap, cur, hv, _⟩
    · omega
    · exact ⟨g, cap, hv⟩
  go_wp2
  go_ret
  refine ⟨rfl, ?_, ?_⟩
  · exact Lib.BuilderAt.put hB hb2 (bs' := bs ++ [.int .u8 c]) (by simpa using hown') bld_ne
  · exact ((hb1.alloc (by omega) _).grown hgrow (by simp; omega) (fun k hk => (hown.lt k hk).1)).setCell (p := ⟨b, 1, none⟩) hB _
set_option maxHeartbeats 2000000 in
set_option maxRecDepth 100000 in
theorem writeString_walk (B b : Nat) (bs : List Value) (s : ByteArray) (w : World) (h : IsB B b bs w) (hlen : bs.length + s.size ≤ 140737488355328) (hBw : B ≤ w.heap.size) :
    Calls Tryd.prog 97 #[.pointer (some ⟨b, 0, none⟩), .string s] w fun e w' => e = .returned (.tuple #[.int .i64 s.size, .nilIface]) ∧ AtB B b (bs ++ Lib.strCells s) w' ∧ Below B w w' := by
  obtain ⟨i0, hi, hz0, hz1, hz2⟩ := info_parts byte_info
  go_enter Tryd.func97, Tryd.ntmps97
  go_wp2_with fail
  refine (copyCheck_walk B b bs _ h).mono ?_
  rintro e w1 ⟨rfl, h1, hb1⟩
  obtain ⟨v, hB, hlt, hbk, hown, hne, c0, c1, f1⟩ := atB_open h1
  have hs1 := hb1.size
  go_wp2_with (at_builtin; refine Lib.wpList_append_own_string _ rfl _ _ 124 9 rfl B 5 i0 Tryd.underlying124 Tryd.underlying9 hi hz0 hz1 hz2 _ _ _ rfl hown s rfl ?c3 ?c4 ?c5 ?_)
  case c3 => unfold maxLen; omega
  case c4 => omega
  case c5 => omega
  intro v' w2 hown' hgrow _
  have hb2 : w2.heap[b]? = some (.cells #[.pointer (some ⟨b, 0, none⟩), v] 126 (0, 0)) := by
    rw [hgrow.block b hlt (fun e => hne e.symm)]
    exact hbk
  have d1 : w2.cell? ⟨b, 1, none⟩ = some v := by rw [Lib.cell_of_heap hb2]; rfl
  have f2 : w2.frozen? ⟨b, 1, none⟩ = false := Lib.frozen_of_heap hb2 1
  obtain ⟨ao, n', cap, rfl⟩ : ∃ ao n' cap, v' = .slice ao n' cap := by
    rcases hown'.2 with ⟨hv, _⟩ | ⟨g, cap, cur, hv, _⟩
    · exact ⟨_, _, _, hv⟩
    · exact ⟨_, _, _, hv⟩
  go_wp2
  go_ret2
  refine ⟨rfl, ?_, ?_⟩
  · exact Lib.BuilderAt.put hB hb2 (bs' := bs ++ Lib.strCells s) (by simpa [Lib.strCells_length] using hown') bld_ne
  · exact (hb1.grown hgrow (by omega) (fun k hk => (hown.lt k hk).1)).setCell (p := ⟨b, 1, none⟩) hB _
set_option maxHeartbeats 2000000 in
set_option maxRecDepth 100000 in
/-- What a builder that holds a byte at least tells. -/
theorem builderString_walk (B b : Nat) (l : List UInt8) (w : World) (h : IsB B b (Lib.byteCells l) w) (h0 : l ≠ []) :
    Calls Tryd.prog 78 #[.pointer (some ⟨b, 0, none⟩)] w fun e w' => e = .returned (.string ⟨l.toArray⟩) ∧ Below B w w' := by
  obtain ⟨p, hB, v, hbk, hown, hne⟩ : ∃ p, Lib.BuilderAt 126 5 B b p (Lib.byteCells l) w := by
    rcases h with h | h
    · exact ⟨_, h⟩
    · exact ⟨_, h⟩
  have c1 : w.cell? ⟨b, 1, none⟩ = some v := by rw [Lib.cell_of_heap hbk]; rfl
  have hl0 : l.length ≠ 0 := by simpa using h0
  rw [Lib.byteCells_length] at hown
  obtain ⟨g, cap, cur, rfl, hbg, hg, hnc, hcm, hcs, htake⟩ : ∃ g cap cur, v = .slice (some ⟨g, 0, none⟩) l.length cap ∧ B ≤ g ∧ w.heap[g]? = some (.cells cur 5 (0, 0)) ∧ l.length ≤ cap ∧ cap ≤ maxLen ∧ cur.size = cap * 1 ∧ cur.toList.take (l.length * 1) = Lib.byteCells l := by
    rcases hown.2 with ⟨_, hz⟩ | ⟨g, cap, cur, hv, r⟩
    · exact absurd hz hl0
    · exact ⟨g, cap, cur, hv, r⟩
  have hSD : (Builtin.unsafeSliceData_ #[124] 165 #[.slice (some ⟨g, 0, none⟩) l.length cap]).run Tryd.prog w.drew = .ok (.pointer (some ⟨g, 0, none⟩)) w.drew :=
    Lib.run_unsafeSliceData_row _ _ _ _ _ _ (by omega)
  have hUS : (Builtin.unsafeString_ #[165, 3] 9 #[.pointer (some ⟨g, 0, none⟩), .int .i64 l.length]).run Tryd.prog w.drew = .ok (.string ⟨l.toArray⟩) (w.drew.freeze ⟨g, 0, none⟩ l.length) := by
    refine Lib.run_unsafeString_row w.drew 165 3 9 5 Tryd.underlying165 (by kernel_rfl) g cur.size (by have hg' : w.drew.heap[g]? = some (.cells cur 5 (0, 0)) := hg; simp [World.shape?, hg']) l h0 (by omega) (by unfold maxLen at hcm; omega) ?_
    intro j x hx
    exact hown.cells (g := g) rfl j (.int .u8 x.toNat) (by simp [Lib.byteCells, hx])
  go_enter Tryd.func78, Tryd.ntmps78
  go_wp2
  go_region
  all_goals (go_wp2; go_ret; exact ⟨rfl, Lib.below_freeze (Below.drew (Below.refl B w)) (p := ⟨g, 0, none⟩) hbg _⟩)
end Go.Proofs.YtcgdjnmfeibnoaaDoor
/-! Hex -/
namespace Go.Proofs.YtcgdjnmfeibnoaaDoor
open Go.RowKit
set_option linter.unusedVariables false
set_option linter.unusedSimpArgs false
/-- A digit's letter. -/
def digB (d : Nat) : UInt8 := if d < 10 then (48 + d).toUInt8 else (87 + d).toUInt8
/-- The digits of a number to the base 16, the lowest first. -/
def revHex (n : Nat) : List UInt8 := digB (n % 16) :: (if n / 16 = 0 then [] else revHex (n / 16))
  termination_by n
  decreasing_by omega
theorem revHex_last {n : Nat} (h : n / 16 = 0) : revHex n = [digB (n % 16)] := by rw [revHex, if_pos h]
theorem revHex_more {n : Nat} (h : n / 16 ≠ 0) : revHex n = digB (n % 16) :: revHex (n / 16) := by rw [revHex, if_neg h]
set_option maxRecDepth 100000 in
theorem digit_at (m : Nat) (w : World) : (Instr.index 9 (.string ⟨#[48, 49, 50, 51, 52, 53, 54, 55, 56, 57, 97, 98, 99, 100, 101, 102, 103, 104, 105, 106, 107, 108, 109, 110, 111, 112, 113, 114, 115, 116, 117, 118, 119, 120, 121, 122]⟩) (.int .u64 ((m : Int) % 16))).run Tryd.prog w = .ok (.int .u8 (digB (m % 16)).toNat) w := by
  have h : ∃ d : Nat, d < 16 ∧ m % 16 = d := ⟨m % 16, by omega, rfl⟩
  obtain ⟨d, hd, he⟩ := h
  rw [show ((m : Int) % 16) = (d : Int) from by omega, he]
  have hc : d = 0 ∨ d = 1 ∨ d = 2 ∨ d = 3 ∨ d = 4 ∨ d = 5 ∨ d = 6 ∨ d = 7 ∨ d = 8 ∨ d = 9 ∨ d = 10 ∨ d = 11 ∨ d = 12 ∨ d = 13 ∨ d = 14 ∨ d = 15 := by omega
  rcases hc with rfl | rfl | rfl | rfl | rfl | rfl | rfl | rfl | rfl | rfl | rfl | rfl | rfl | rfl | rfl | rfl
  all_goals (change _ = _; kernel_rfl)
/-- What stands when k of the digits have been laid, from the other end. -/
def RevRel (base g cap g2 L : Nat) (all : List UInt8) (w : World) (i : Value) (W : World) : Prop :=
  ∃ k : Nat, k ≤ L ∧ i = .int .i64 k ∧ W.ownsRow base 5 1 (.slice (some ⟨g, 0, none⟩) L cap) L (Lib.byteCells all) ∧
    W.ownsRow base 5 1 (.slice (some ⟨g2, 0, none⟩) L L) L (List.replicate (L - k) (.int .u8 0) ++ Lib.byteCells (all.take k).reverse) ∧ Below w.heap.size w W
theorem rev_step {base g cap g2 n k : Nat} {all : List UInt8} {x : UInt8} {w W : World} (hx : all[k]? = some x) (hlen : n + 1 = all.length) (hk : k < n + 1)
    (hA : W.ownsRow base 5 1 (.slice (some ⟨g, 0, none⟩) (n + 1) cap) (n + 1) (Lib.byteCells all))
    (hO : W.ownsRow base 5 1 (.slice (some ⟨g2, 0, none⟩) (n + 1) (n + 1)) (n + 1) (List.replicate (n + 1 - k) (.int .u8 0) ++ Lib.byteCells (all.take k).reverse)) (hb : Below w.heap.size w W) (hne : g ≠ g2) (hbase : w.heap.size ≤ base) :
    RevRel base g cap g2 (n + 1) all w (.int .i64 ((k : Int) + 1)) (W.setCell ⟨g2, n - k, none⟩ (.int .u8 x.toNat)) := by
  obtain ⟨h1, h2⟩ := hO.stored (n - k) (.int .u8 x.toNat)
  have hg2 : base ≤ g2 := (hO.lt g2 (by simp [Value.ownBlock])).1
  refine ⟨k + 1, by omega, by simp, hA.kept h2 (by simp [Value.ownBlock, hne]), ?_, hb.setCell (p := ⟨g2, n - k, none⟩) (by simpa using Nat.le_trans hbase hg2) _⟩
  have e : (List.replicate (n + 1 - k) (Value.int .u8 0) ++ Lib.byteCells (all.take k).reverse).set (n - k) (.int .u8 x.toNat) = List.replicate (n + 1 - (k + 1)) (.int .u8 0) ++ Lib.byteCells (all.take (k + 1)).reverse := by
    have e1 : n + 1 - k = (n - k) + 1 := by omega
    have e2 : all.take (k + 1) = all.take k ++ [x] := by rw [List.take_add_one, hx]; rfl
    rw [e1, List.replicate_succ', List.append_assoc, List.set_append_right _ _ (by simp), e2]
    simp [Lib.byteCells]
  rw [e] at h1
  exact h1
theorem rev_cell {base g2 n : Nat} {all : List UInt8} {W : World} (hlen : n + 1 = all.length)
    (hO : W.ownsRow base 5 1 (.slice (some ⟨g2, 0, none⟩) (n + 1) (n + 1)) (n + 1) (List.replicate (n + 1 - (n + 1)) (.int .u8 0) ++ Lib.byteCells (all.take (n + 1)).reverse)) (i : Nat) (hi : i < n + 1) :
    W.cell? ⟨g2, i, none⟩ = some (.int .u8 ((all.reverse.map fun b => (b.toNat : Int)).getD i 0)) := by
  rw [hO.cellAt i (by omega)]
  rw [hlen, List.take_length, Nat.sub_self, List.replicate_zero, List.nil_append]
  have hi' : i < all.reverse.length := by simp; omega
  rw [Lib.byteCells, List.getElem?_map, List.getElem?_eq_getElem hi', List.getD_eq_getElem?_getD, List.getElem?_map, List.getElem?_eq_getElem hi']
  rfl
theorem strOfNums_bytes (l : List UInt8) : strOfNums (l.map fun b => (b.toNat : Int)) = ⟨l.toArray⟩ := by
  unfold strOfNums
  rw [List.map_map]
  have : ((fun n : Int => UInt8.ofNat n.toNat) ∘ fun b : UInt8 => (b.toNat : Int)) = id := by
    funext b
    simp
  rw [this, List.map_id]
set_option maxHeartbeats 2000000 in
set_option maxRecDepth 100000 in
theorem print16_walk (N : Nat) (hN : N < 18446744073709551616) (w : World) :
    Calls Tryd.prog 104 #[.int .u64 N, .int .i64 16] w fun e w' => e = .returned (.tuple #[.string ⟨(revHex N).reverse.toArray⟩, .int .i64 0]) ∧ Below w.heap.size w w' := by
  obtain ⟨i0, hi, hz0, hz1, hz2⟩ := info_parts byte_info
  go_enter Tryd.func104, Tryd.ntmps104
  go_wp2
  go_loopw [0, 6] (fun n v wr => ∃ (m : Nat) (done : List UInt8), n = .int .u64 m ∧ m ≤ N ∧ revHex N = done ++ revHex m ∧ wr.ownsRow w.heap.size 5 1 v done.length (Lib.byteCells done) ∧ Below w.heap.size w wr ∧ 2 ^ done.length * m ≤ N ∧ (m = 0 → done = []))
    (fun n _ _ => (intOf n).toNat)
  case atStart => exact ⟨N, [], rfl, Nat.le_refl _, rfl, World.ownsRow_nil _ _ _ _, Below.refl _ _, by simp, fun _ => rfl⟩
  case round =>
    obtain ⟨m, done, rfl, hm, hd, hown, hb, hp, hz⟩ := hrel
    have hs := hb.size
    have hix := digit_at m
    have hl : done.length ≤ 64 := by
      rcases Nat.lt_or_ge 64 done.length with h | h
      · exfalso
        have h0 : m ≠ 0 := fun e => by rw [hz e] at h; simp at h
        have h1 := Nat.pow_le_pow_right (n := 2) (by omega) (show 65 ≤ done.length from h)
        have h2 := Nat.le_mul_of_pos_right (2 ^ done.length) (Nat.pos_of_ne_zero h0)
        have h3 : (2 : Nat) ^ 65 = 36893488147419103232 := by decide
        omega
      · exact h
    have hbl : (Lib.byteCells done).length = done.length := Lib.byteCells_length done
    clear hbl
    go_wp2_with (at_builtin; refine app_one rfl _ _ 124 rfl w.heap.size 5 i0 (.int .u8 0) 1 1 Tryd.underlying124 hi hz0 hz1 hz2 rfl (by decide) _ _ _ rfl hown [.int .u8 (digB (m % 16)).toNat] rfl rfl (by simp [Value.oneCell']) (by unfold maxLen; omega) (by omega) (by omega) ?_; intro g cap w2 hg hown' hgrow hbel)
    · clear hgrow hix
      have hb2 := hbel _ _ (Nat.le_refl _) hb
      have hs2 := hb2.size
      obtain ⟨w3, hmk, hown3, hgr3⟩ := run_make_full w2 w.heap.size 124 5 i0 (.int .u8 0) 1 Tryd.underlying124 hi hz0 hz1 .i64 .i64 (done.length + 1) (by rw [hz2]; omega) (by unfold maxLen; omega) hs2
      rw [show ((done.length + 1 : Nat) : Int) = (done.length : Int) + 1 from by omega] at hmk
      have hb3 : Below w.heap.size w w3 := hb2.grown hgr3 hs2 (fun k hk => by simp at hk)
      have hown3' := hown'.kept hgr3 (by simp [Value.ownBlock])
      have hall : revHex N = done ++ [digB (m % 16)] := by rw [hd, revHex_last (by simp at *; omega)]
      have hne : g ≠ w2.heap.size := by have := (hown'.lt g (by simp [Value.ownBlock])).2; omega
      obtain ⟨all, hal⟩ : ∃ all, all = done ++ [digB (m % 16)] := ⟨_, rfl⟩
      have hlen : done.length + 1 = all.length := by rw [hal]; simp
      have hback : w3.ownsRow w.heap.size 5 1 (.slice (some ⟨g, 0, none⟩) (done.length + 1) cap) (done.length + 1) (Lib.byteCells all) := by
        rw [hal]; simpa [Lib.byteCells] using hown3'
      have hout : w3.ownsRow w.heap.size 5 1 (.slice (some ⟨w2.heap.size, 0, none⟩) (done.length + 1) (done.length + 1)) (done.length + 1) (List.replicate (done.length + 1) (.int .u8 0)) := by
        have h := hown3
        rw [show (Value.int .u8 0).cells = #[.int .u8 0] from rfl, Nat.mul_one, toList_madeCells_one] at h
        exact h
      rw [← hal] at hall
      clear hown3 hown3' hown' hown hd hz hp hb hbel hb2 hgr3
      have HMK := Lib.hid hall
      have HAL := Lib.hid hal
      have HLEN := Lib.hid hlen
      clear hall hal hlen
      go_simp
      go_wp2_with fail
      go_loopw [35] (fun i W => RevRel w.heap.size g cap w2.heap.size (done.length + 1) all w i W) (fun i _ => done.length + 1 - (intOf i).toNat)
      case atStart => exact ⟨0, Nat.zero_le _, rfl, hback, by simpa [Lib.byteCells] using hout, hb3⟩
      case round =>
        clear hback hout hb3 hmk
        obtain ⟨k, hk, rfl, hA, hO, hb4⟩ := hrel
        by_cases hlt : k < done.length + 1
        · obtain ⟨x, hx⟩ : ∃ x, all[k]? = some x := ⟨all[k]'(by have := HLEN.out; omega), List.getElem?_eq_getElem _⟩
          have hc : wr.cell? ⟨g, k, none⟩ = some (.int .u8 x.toNat) := by
            rw [hA.cellAt k (by omega)]; simp [Lib.byteCells, hx]
          have ho : wr.cell? ⟨w2.heap.size, done.length - k, none⟩ = some (.int .u8 0) := by
            rw [hO.cellAt _ (by omega), List.getElem?_append_left (by simp; omega)]
            rw [List.getElem?_replicate, if_pos (by omega)]
          have hf := hO.frozenAt (done.length - k)
          have HX := Lib.hid hx
          clear hx
          go_wp2
          exact ⟨rev_step HX.out HLEN.out hlt hA hO hb4 hne (Nat.le_refl _), by simp [intOf]; omega⟩
        · obtain rfl : k = done.length + 1 := by omega
          have hcv := run_convert_bytes_arg (P := Tryd.prog) wr 124 5 Tryd.underlying124 Tryd.underlying5 w2.heap.size 0 (done.length + 1) (done.length + 1) (all.reverse.map fun b => (b.toNat : Int)) (by simp [HLEN.out])
            (fun i hi => by rw [Nat.zero_add]; exact rev_cell HLEN.out hO i hi) 9 Tryd.underlying9
          rw [strOfNums_bytes] at hcv
          clear hlt
          go_wp2
          go_returns
          exact ⟨by rw [HMK.out]; rfl, hb4⟩
    · have h16 : ¬ (m / 16 = 0) := by simp at *; omega
      have hmm := revHex_more h16
      refine ⟨⟨m / 16, done ++ [digB (m % 16)], rfl, by omega, by rw [hd, hmm]; simp, by simpa [Lib.byteCells] using hown', hbel _ _ (Nat.le_refl _) hb, ?_, fun h => absurd h h16⟩, by simp [intOf]; omega⟩
      rw [List.length_append, List.length_singleton, Nat.pow_succ, Nat.mul_assoc]
      exact Nat.le_trans (Nat.mul_le_mul_left _ (by omega)) hp
end Go.Proofs.YtcgdjnmfeibnoaaDoor
/-! SixRun -/
namespace Go.Proofs.YtcgdjnmfeibnoaaDoor
open Go.RowKit
set_option linter.unusedVariables false
set_option linter.unusedSimpArgs false
/-- A piece's text. -/
def hexL (p : Nat) : List UInt8 := (revHex p).reverse
set_option maxHeartbeats 1000000 in
set_option maxRecDepth 100000 in
theorem hex_walk (p : Nat) (hp : p ≤ 65535) (w : World) :
    Calls Tryd.prog 68 #[.int .u16 p] w fun e w' => e = .returned (.string ⟨(hexL p).toArray⟩) ∧ Below w.heap.size w w' := by
  go_enter Tryd.func68, Tryd.ntmps68
  go_wp2_with fail
  refine (print16_walk p (by omega) _).mono ?_
  rintro e w1 ⟨rfl, hb⟩
  go_wp2_with fail
  go_returns
  exact ⟨rfl, hb⟩
/-- The loop of run: what is left of the pieces, the place, what was found. -/
def runGo : List Nat → Int → Int → Int → Int → Int × Int
  | [], _, at_, most, _ => (at_, most)
  | p :: r, i, at_, most, from_ => if p = 0 then (if most < i + 1 - from_ then runGo r (i + 1) from_ (i + 1 - from_) from_ else runGo r (i + 1) at_ most from_) else runGo r (i + 1) at_ most (i + 1)
/-- The run of pieces: its place and length; -1 and 0. -/
def runL (xs : List Nat) : Int × Int := if (runGo xs 0 (-1) 1 0).1 < 0 then (-1, 0) else runGo xs 0 (-1) 1 0
/-- What stands at the head of a round of run. -/
def RunRel (xs : List Nat) (a m f i : Value) : Prop :=
  ∃ (k : Nat) (at_ most from_ : Int), k ≤ xs.length ∧ i = .int .i64 k ∧ a = .int .i64 at_ ∧ m = .int .i64 most ∧ f = .int .i64 from_ ∧
    runGo xs 0 (-1) 1 0 = runGo (xs.drop k) k at_ most from_ ∧ -1 ≤ at_ ∧ at_ ≤ k ∧ 1 ≤ most ∧ most ≤ k + 1 ∧ 0 ≤ from_ ∧ from_ ≤ k
theorem run_meas {n k : Nat} (h : k < n) : n - (intOf (.int .i64 ((k : Int) + 1))).toNat < n - (intOf (.int .i64 (k : Int))).toNat := by simp [intOf]; omega
theorem run_step0 {xs : List Nat} {k : Nat} {at_ most from_ : Int} (hk : k < xs.length) (hr : runGo xs 0 (-1) 1 0 = runGo (xs.drop k) k at_ most from_)
    (b : -1 ≤ at_ ∧ at_ ≤ k ∧ 1 ≤ most ∧ most ≤ k + 1 ∧ 0 ≤ from_ ∧ from_ ≤ k) (h0 : (((xs[k]'hk : Nat) : Int) != 0) = false) (h : (k : Int) + 1 - from_ ≤ most) :
    RunRel xs (.int .i64 at_) (.int .i64 most) (.int .i64 from_) (.int .i64 ((k : Int) + 1)) := by
  refine ⟨k + 1, at_, most, from_, hk, rfl, rfl, rfl, rfl, ?_, by omega, by omega, by omega, by omega, by omega, by omega⟩
  rw [hr, List.drop_eq_getElem_cons hk, runGo, if_pos (by simp at h0; omega), if_neg (by omega)]
  rfl
theorem run_step1 {xs : List Nat} {k : Nat} {at_ most from_ : Int} (hk : k < xs.length) (hr : runGo xs 0 (-1) 1 0 = runGo (xs.drop k) k at_ most from_)
    (b : -1 ≤ at_ ∧ at_ ≤ k ∧ 1 ≤ most ∧ most ≤ k + 1 ∧ 0 ≤ from_ ∧ from_ ≤ k) (h0 : (((xs[k]'hk : Nat) : Int) != 0) = false) (h : most < (k : Int) + 1 - from_) :
    RunRel xs (.int .i64 from_) (.int .i64 ((k : Int) + 1 - from_)) (.int .i64 from_) (.int .i64 ((k : Int) + 1)) := by
  refine ⟨k + 1, from_, (k : Int) + 1 - from_, from_, hk, rfl, rfl, rfl, rfl, ?_, by omega, by omega, by omega, by omega, by omega, by omega⟩
  rw [hr, List.drop_eq_getElem_cons hk, runGo, if_pos (by simp at h0; omega), if_pos h]
  rfl
theorem run_step2 {xs : List Nat} {k : Nat} {at_ most from_ : Int} (hk : k < xs.length) (hr : runGo xs 0 (-1) 1 0 = runGo (xs.drop k) k at_ most from_)
    (b : -1 ≤ at_ ∧ at_ ≤ k ∧ 1 ≤ most ∧ most ≤ k + 1 ∧ 0 ≤ from_ ∧ from_ ≤ k) (h0 : (((xs[k]'hk : Nat) : Int) != 0) = true) :
    RunRel xs (.int .i64 at_) (.int .i64 most) (.int .i64 ((k : Int) + 1)) (.int .i64 ((k : Int) + 1)) := by
  refine ⟨k + 1, at_, most, (k : Int) + 1, hk, rfl, rfl, rfl, rfl, ?_, by omega, by omega, by omega, by omega, by omega, by omega⟩
  rw [hr, List.drop_eq_getElem_cons hk, runGo, if_neg (by simp at h0; omega)]
  rfl
theorem runL_neg {xs : List Nat} {at_ most from_ : Int} (hr : runGo xs 0 (-1) 1 0 = runGo (xs.drop xs.length) xs.length at_ most from_) (h : at_ < 0) : runL xs = (-1, 0) := by
  rw [List.drop_length, runGo] at hr
  unfold runL
  rw [hr, if_pos h]
theorem runL_pos {xs : List Nat} {at_ most from_ : Int} (hr : runGo xs 0 (-1) 1 0 = runGo (xs.drop xs.length) xs.length at_ most from_) (h : ¬ at_ < 0) : runL xs = (at_, most) := by
  rw [List.drop_length, runGo] at hr
  unfold runL
  rw [hr, if_neg h]
set_option maxHeartbeats 1000000 in
set_option maxRecDepth 100000 in
theorem run_walk (xs : List Nat) (b c : Nat) (w : World) (hl : xs.length ≤ 8) (hc : ∀ j, j < xs.length → w.cell? ⟨b, j, none⟩ = some (.int .u16 (xs.getD j 0))) :
    Calls Tryd.prog 65 #[.slice (some ⟨b, 0, none⟩) xs.length c] w fun e w' => e = .returned (.tuple #[.int .i64 (runL xs).1, .int .i64 (runL xs).2]) ∧ w = w' := by
  go_enter Tryd.func65, Tryd.ntmps65
  go_wp2
  go_loop [4, 5, 6, 12] (RunRel xs) (fun _ _ _ i => xs.length - (intOf i).toNat)
  case atStart => exact ⟨0, -1, 1, 0, Nat.zero_le _, rfl, rfl, rfl, rfl, rfl, by omega, by omega, by omega, by omega, by omega, by omega⟩
  case round =>
    obtain ⟨k, at_, most, from_, hk, rfl, rfl, rfl, rfl, hrun, b1, b2, b3, b4, b5, b6⟩ := hrel
    by_cases hlt : k < xs.length
    · have hck := hc k hlt
      have HR := Lib.hid hrun
      clear hrun hc
      go_wp2
      all_goals refine ⟨?_, run_meas hlt⟩
      all_goals first
        | exact run_step0 hlt HR.out ⟨b1, b2, b3, b4, b5, b6⟩ ‹_› ‹_›
        | exact run_step1 hlt HR.out ⟨b1, b2, b3, b4, b5, b6⟩ ‹_› ‹_›
        | exact run_step2 hlt HR.out ⟨b1, b2, b3, b4, b5, b6⟩ ‹_›
    · obtain rfl : k = xs.length := by omega
      have HR := Lib.hid hrun
      clear hrun hc hlt
      by_cases hneg : at_ < 0
      · go_wp2
        go_returns
        rw [runL_neg HR.out hneg]
        exact ⟨rfl, rfl⟩
      · go_wp2
        go_returns
        rw [runL_pos HR.out (by omega)]
        exact ⟨rfl, rfl⟩
end Go.Proofs.YtcgdjnmfeibnoaaDoor
/-! SixText -/
namespace Go.Proofs.YtcgdjnmfeibnoaaDoor
open Go.RowKit
set_option linter.unusedVariables false
set_option linter.unusedSimpArgs false
theorem revHex_len (n : Nat) : (revHex n).length ≤ n + 1 := by
  induction n using Nat.strongRecOn with
  | ind n ih =>
    by_cases h : n / 16 = 0
    · rw [revHex_last h]; simp
    · rw [revHex_more h, List.length_cons]
      have := ih (n / 16) (by omega)
      omega
theorem hexL_len (n : Nat) : (hexL n).length ≤ n + 1 := by unfold hexL; rw [List.length_reverse]; exact revHex_len n
/-- What a piece writes. -/
def textAt (at_ n i : Int) (p : Nat) : List UInt8 :=
  if i = at_ then [58, 58] else if 0 ≤ at_ ∧ at_ < i ∧ i < at_ + n then [] else (if 0 < i ∧ i ≠ at_ + n then [58] else []) ++ hexL p
/-- What pieces write from one on. -/
def textGo (at_ n : Int) : Int → List Nat → List UInt8
  | _, [] => []
  | i, p :: r => textAt at_ n i p ++ textGo at_ n (i + 1) r
/-- The text of pieces. -/
def textL (xs : List Nat) : List UInt8 := textGo (runL xs).1 (runL xs).2 0 xs
theorem runGo_bounds : ∀ (xs : List Nat) (i at_ most from_ : Int), 0 ≤ i → -1 ≤ at_ → at_ ≤ i → 1 ≤ most → most ≤ i + 1 → 0 ≤ from_ → from_ ≤ i →
    -1 ≤ (runGo xs i at_ most from_).1 ∧ (runGo xs i at_ most from_).1 ≤ i + xs.length ∧ 1 ≤ (runGo xs i at_ most from_).2 ∧ (runGo xs i at_ most from_).2 ≤ i + xs.length + 1
  | [], i, at_, most, from_, h0, h1, h2, h3, h4, h5, h6 => by simp only [runGo, List.length_nil]; omega
  | p :: r, i, at_, most, from_, h0, h1, h2, h3, h4, h5, h6 => by
    rw [runGo, List.length_cons]
    split
    · split
      · have := runGo_bounds r (i + 1) from_ (i + 1 - from_) from_ (by omega) (by omega) (by omega) (by omega) (by omega) (by omega) (by omega)
        omega
      · have := runGo_bounds r (i + 1) at_ most from_ (by omega) (by omega) (by omega) (by omega) (by omega) (by omega) (by omega)
        omega
    · have := runGo_bounds r (i + 1) at_ most (i + 1) (by omega) (by omega) (by omega) (by omega) (by omega) (by omega) (by omega)
      omega
theorem runL_bounds (xs : List Nat) : -1 ≤ (runL xs).1 ∧ (runL xs).1 ≤ xs.length ∧ 0 ≤ (runL xs).2 ∧ (runL xs).2 ≤ xs.length + 1 := by
  have := runGo_bounds xs 0 (-1) 1 0 (by omega) (by omega) (by omega) (by omega) (by omega) (by omega) (by omega)
  unfold runL
  split
  · simp; omega
  · omega
theorem hexL_ne (n : Nat) : hexL n ≠ [] := by
  unfold hexL
  rw [revHex]
  simp
theorem textL_ne {xs : List Nat} (h : xs ≠ []) : textL xs ≠ [] := by
  cases xs with
  | nil => exact absurd rfl h
  | cons p r =>
    unfold textL
    rw [textGo, textAt]
    split
    · simp
    · split
      · rename_i h1; exact absurd h1 (by omega)
      · have := hexL_ne p
        simp [this]
/-- A builder stays where all stays that was there. -/
theorem isB_keep {B b : Nat} {bs : List Value} {w W : World} (h : IsB B b bs w) (hb : Below w.heap.size w W) : IsB B b bs W := by
  have key : ∀ p, Lib.BuilderAt 126 5 B b p bs w → Lib.BuilderAt 126 5 B b p bs W := by
    intro p hp
    have hlt := hp.lt
    obtain ⟨hB, v, hbk, hown, hne⟩ := hp
    exact ⟨hB, v, by rw [hb.block b hlt]; exact hbk, hown.kept (row := none) ⟨hb.os, hb.tape, hb.output, hb.size, fun i hi _ => hb.block i hi⟩ (by cases v.ownBlock <;> simp), hne⟩
  rcases h with h | h
  · exact .inl (key _ h)
  · exact .inr (key _ h)
/-- What stands at the head of a round of text. -/
def TextRel (xs : List Nat) (at_ n : Int) (w : World) (i : Value) (W : World) : Prop :=
  ∃ (k : Nat) (done : List UInt8), k ≤ xs.length ∧ i = .int .i64 k ∧ textL xs = done ++ textGo at_ n k (xs.drop k) ∧ IsB w.heap.size w.heap.size (Lib.byteCells done) W ∧ Below w.heap.size w W ∧ done.length ≤ k * 70000
theorem text_step {xs : List Nat} {at_ n : Int} {k : Nat} {w W : World} {done new : List UInt8} (hk : k < xs.length) (ht : textL xs = done ++ textGo at_ n k (xs.drop k)) (hn : textAt at_ n k xs[k] = new)
    (hB : IsB w.heap.size w.heap.size (Lib.byteCells (done ++ new)) W) (hb : Below w.heap.size w W) (hl : done.length ≤ k * 70000) (hnl : new.length ≤ 70000) :
    TextRel xs at_ n w (.int .i64 ((k : Int) + 1)) W := by
  refine ⟨k + 1, done ++ new, hk, rfl, ?_, hB, hb, by rw [List.length_append]; omega⟩
  rw [ht, List.drop_eq_getElem_cons hk, textGo, hn, List.append_assoc]
  rfl
set_option maxHeartbeats 2000000 in
set_option maxRecDepth 100000 in
theorem text_walk (xs : List Nat) (b c : Nat) (w : World) (hl : xs.length ≤ 8) (h0 : xs ≠ []) (hb : b < w.heap.size) (hp : ∀ x ∈ xs, x ≤ 65535) (hc : ∀ j, j < xs.length → w.cell? ⟨b, j, none⟩ = some (.int .u16 (xs.getD j 0))) :
    Calls Tryd.prog 49 #[.slice (some ⟨b, 0, none⟩) xs.length c] w fun e w' => e = .returned (.string ⟨(textL xs).toArray⟩) ∧ Below w.heap.size w w' := by
  obtain ⟨r1, r2, r3, r4⟩ := runL_bounds xs
  have HT : Hid (textL xs = textGo (runL xs).1 (runL xs).2 0 xs) := Lib.hid rfl
  have HC := Lib.hid hc
  go_enter Tryd.func49, Tryd.ntmps49
  go_wp2_with fail
  refine (run_walk xs b c _ hl hc).mono ?_
  rintro e w1 ⟨rfl, rfl⟩
  generalize (runL xs).1 = at_ at *
  generalize (runL xs).2 = n at *
  clear hc
  go_wp2_with fail
  go_loopw [14] (fun i W => TextRel xs at_ n w i W) (fun i _ => xs.length - (intOf i).toNat)
  case atStart => exact ⟨0, [], Nat.zero_le _, rfl, HT.out, Lib.fresh_isBuilder _ _ _, (Below.refl _ _).alloc (Nat.le_refl _) _, by simp⟩
  case round =>
    obtain ⟨k, done, hk, rfl, ht, hB, hbl, hdl⟩ := hrel
    by_cases hlt : k < xs.length
    · have hpk := hp _ (List.getElem_mem hlt)
      have hwl : w.heap.size ≤ wr.heap.size := hbl.size
      have hcw : wr.cell? ⟨b, k, none⟩ = some (.int .u16 xs[k]) := by
        rw [hbl.cell (p := ⟨b, k, none⟩) hb, HC.out k hlt, List.getD_eq_getElem?_getD, List.getElem?_eq_getElem hlt]; rfl
      have HTT := Lib.hid ht
      have hbc : (Lib.byteCells done).length ≤ 560000 := by rw [Lib.byteCells_length]; omega
      have hhl := hexL_len xs[k]
      generalize hx : xs[k] = x at *
      have HX := Lib.hid hx
      clear ht hx
      by_cases c1 : (k : Int) = at_
      · subst c1
        go_wp2_with fail
        refine (writeString_walk w.heap.size w.heap.size (Lib.byteCells done) ⟨#[58, 58]⟩ _ hB (by simp [ByteArray.size]; omega) hwl).mono ?_
        rintro e w1 ⟨rfl, hA, hb1⟩
        go_wp2_with fail
        refine ⟨text_step hlt HTT.out (new := [58, 58]) (by rw [textAt, if_pos rfl]) (.inr (by rw [Lib.byteCells_append]; exact hA)) (hbl.trans hb1) hdl (by simp), run_meas hlt⟩
      · have e1 : ((k : Int) == at_) = false := beq_eq_false_iff_ne.2 c1
        by_cases c2 : 0 ≤ at_ ∧ at_ < k ∧ (k : Int) < at_ + n
        · obtain ⟨d1, d2, d3⟩ := c2
          go_wp2_with fail
          refine ⟨text_step hlt HTT.out (new := []) (by rw [textAt, if_neg c1, if_pos ⟨d1, d2, d3⟩]) (by simpa using hB) hbl hdl (by simp), run_meas hlt⟩
        · have hN : textAt at_ n k xs[k] = (if 0 < (k : Int) ∧ (k : Int) ≠ at_ + n then [58] else []) ++ hexL x := by rw [textAt, if_neg c1, if_neg c2, HX.out]
          have HN := Lib.hid hN
          clear hN
          have hd : at_ < 0 ∨ (0 ≤ at_ ∧ (k : Int) < at_) ∨ (0 ≤ at_ ∧ at_ < k ∧ at_ + n ≤ k) := by omega
          by_cases c3 : 0 < (k : Int) ∧ (k : Int) ≠ at_ + n
          · obtain ⟨c4, c5⟩ := c3
            have e2 : ((k : Int) != at_ + n) = true := by rw [bne_iff_ne]; exact c5
            clear c2
            rcases hd with d | ⟨d0, d⟩ | ⟨d0, d2, d⟩
            all_goals
              go_wp2_with fail
              refine (writeByte_walk w.heap.size w.heap.size (Lib.byteCells done) 58 _ hB (by omega) hwl).mono ?_
              rintro e w1 ⟨rfl, hA, hb1⟩
              have hcw1 : w1.cell? ⟨b, k, none⟩ = some (.int .u16 x) := by rw [hb1.cell (p := ⟨b, k, none⟩) hb]; exact hcw
              go_wp2_with fail
              refine (hex_walk x hpk _).mono ?_
              rintro e w2 ⟨rfl, hb2⟩
              have hA2 := isB_keep (.inr hA) hb2
              have hs1 := hb1.size
              have hs2 := hb2.size
              go_wp2_with fail
              refine (writeString_walk w.heap.size w.heap.size _ _ _ hA2 (by simp [ByteArray.size]; omega) (by omega)).mono ?_
              rintro e w3 ⟨rfl, hA3, hb3⟩
              go_wp2_with fail
              refine ⟨text_step hlt HTT.out (new := [58] ++ hexL x) (by rw [HN.out, if_pos ⟨c4, c5⟩]) (.inr (by simpa [Lib.byteCells, Lib.strCells] using hA3)) (((hbl.trans hb1).trans (hb2.mono (by omega))).trans hb3) hdl (by simp; omega), run_meas hlt⟩
          · have hd2 : (k : Int) ≤ 0 ∨ (0 < (k : Int) ∧ (k : Int) = at_ + n) := by omega
            rcases hd2 with d4 | ⟨d4, d5⟩
            · rcases hd with d | ⟨d0, d⟩ | ⟨d0, d2, d⟩
              all_goals
                first
                  | (exfalso; omega)
                  | (go_wp2_with fail
                     refine (hex_walk x hpk _).mono ?_
                     rintro e w2 ⟨rfl, hb2⟩
                     have hA2 := isB_keep hB hb2
                     have hs2 := hb2.size
                     go_wp2_with fail
                     refine (writeString_walk w.heap.size w.heap.size _ _ _ hA2 (by simp [ByteArray.size]; omega) (by omega)).mono ?_
                     rintro e w3 ⟨rfl, hA3, hb3⟩
                     go_wp2_with fail
                     refine ⟨text_step hlt HTT.out (new := hexL x) (by rw [HN.out, if_neg c3]; rfl) (.inr (by simpa [Lib.byteCells, Lib.strCells] using hA3)) ((hbl.trans (hb2.mono (by omega))).trans hb3) hdl (by omega), run_meas hlt⟩)
            · have e2 : ((k : Int) != at_ + n) = false := by rw [bne_eq_false_iff_eq]; exact d5
              clear d5
              rcases hd with d | ⟨d0, d⟩ | ⟨d0, d2, d⟩
              all_goals
                first
                  | (exfalso; omega)
                  | (go_wp2_with fail
                     refine (hex_walk x hpk _).mono ?_
                     rintro e w2 ⟨rfl, hb2⟩
                     have hA2 := isB_keep hB hb2
                     have hs2 := hb2.size
                     go_wp2_with fail
                     refine (writeString_walk w.heap.size w.heap.size _ _ _ hA2 (by simp [ByteArray.size]; omega) (by omega)).mono ?_
                     rintro e w3 ⟨rfl, hA3, hb3⟩
                     go_wp2_with fail
                     refine ⟨text_step hlt HTT.out (new := hexL x) (by rw [HN.out, if_neg c3]; rfl) (.inr (by simpa [Lib.byteCells, Lib.strCells] using hA3)) ((hbl.trans (hb2.mono (by omega))).trans hb3) hdl (by omega), run_meas hlt⟩)
    · obtain rfl : k = xs.length := by omega
      rw [List.drop_length, textGo, List.append_nil] at ht
      have hne : done ≠ [] := by
        intro h
        rw [h] at ht
        exact textL_ne h0 ht
      have HTT := Lib.hid ht
      clear ht hlt
      go_wp2_with fail
      refine (builderString_walk w.heap.size w.heap.size done _ hB hne).mono ?_
      rintro e w1 ⟨rfl, hb1⟩
      go_wp2_with fail
      go_returns
      exact ⟨by rw [HTT.out]; rfl, hbl.trans hb1⟩
end Go.Proofs.YtcgdjnmfeibnoaaDoor
/-! SixPrint -/
namespace Go.Proofs.YtcgdjnmfeibnoaaDoor
open Go.RowKit
set_option linter.unusedVariables false
set_option linter.unusedSimpArgs false
/-- The text of an address. -/
def printL (x0 x1 x2 x3 x4 x5 x6 x7 : Int) : List UInt8 := textL [x0.toNat, x1.toNat, x2.toNat, x3.toNat, x4.toNat, x5.toNat, x6.toNat, x7.toNat]
set_option maxHeartbeats 2000000 in
set_option maxRecDepth 100000 in
theorem print_walk (x0 x1 x2 x3 x4 x5 x6 x7 : Int) (h : R8 x0 x1 x2 x3 x4 x5 x6 x7) (w : World) :
    Calls Tryd.prog 17 #[A8 x0 x1 x2 x3 x4 x5 x6 x7] w fun e w' => e = .returned (.string ⟨(printL x0 x1 x2 x3 x4 x5 x6 x7).toArray⟩) ∧ Below w.heap.size w w' := by
  obtain ⟨⟨a0, b0⟩, ⟨a1, b1⟩, ⟨a2, b2⟩, ⟨a3, b3⟩, ⟨a4, b4⟩, ⟨a5, b5⟩, ⟨a6, b6⟩, ⟨a7, b7⟩⟩ := h
  obtain ⟨n0, rfl⟩ := Int.eq_ofNat_of_zero_le a0
  obtain ⟨n1, rfl⟩ := Int.eq_ofNat_of_zero_le a1
  obtain ⟨n2, rfl⟩ := Int.eq_ofNat_of_zero_le a2
  obtain ⟨n3, rfl⟩ := Int.eq_ofNat_of_zero_le a3
  obtain ⟨n4, rfl⟩ := Int.eq_ofNat_of_zero_le a4
  obtain ⟨n5, rfl⟩ := Int.eq_ofNat_of_zero_le a5
  obtain ⟨n6, rfl⟩ := Int.eq_ofNat_of_zero_le a6
  obtain ⟨n7, rfl⟩ := Int.eq_ofNat_of_zero_le a7
  have hT := text_walk [n0, n1, n2, n3, n4, n5, n6, n7] w.heap.size 8 (w.alloc (.cells #[.int .u16 n0, .int .u16 n1, .int .u16 n2, .int .u16 n3, .int .u16 n4, .int .u16 n5, .int .u16 n6, .int .u16 n7] 24))
    (by simp) (by simp) (by simp) (by
      intro x hx
      simp only [List.mem_cons, List.not_mem_nil, or_false] at hx
      omega)
    (by
      intro j hj
      have hb : (w.alloc (.cells #[.int .u16 n0, .int .u16 n1, .int .u16 n2, .int .u16 n3, .int .u16 n4, .int .u16 n5, .int .u16 n6, .int .u16 n7] 24)).heap[w.heap.size]? = some (.cells #[.int .u16 n0, .int .u16 n1, .int .u16 n2, .int .u16 n3, .int .u16 n4, .int .u16 n5, .int .u16 n6, .int .u16 n7] 24 (0, 0)) := heap_alloc_new w _
      rw [Lib.cell_of_heap hb]
      match j, hj with
      | 0, _ => rfl
      | 1, _ => rfl
      | 2, _ => rfl
      | 3, _ => rfl
      | 4, _ => rfl
      | 5, _ => rfl
      | 6, _ => rfl
      | 7, _ => rfl
      | j + 8, hj => exact absurd hj (by simp))
  have HT := Lib.hid hT
  clear hT
  go_enter Tryd.func17, Tryd.ntmps17
  go_wp2_with fail
  refine (HT.out).mono ?_
  rintro e w1 ⟨rfl, hb⟩
  go_wp2_with fail
  go_returns
  exact ⟨rfl, ((Below.refl _ _).alloc (Nat.le_refl _) _).trans (hb.mono (by simp))⟩
theorem revHex_one : revHex 1 = [49] := by rw [revHex_last (by decide)]; rfl
theorem text_one : textL [0, 0, 0, 0, 0, 0, 0, 1] = [58, 58, 49] := by
  unfold textL
  rw [show runL [0, 0, 0, 0, 0, 0, 0, 1] = (0, 7) from by decide]
  simp [textGo, textAt, hexL, revHex_one]
set_option maxHeartbeats 1000000 in
set_option maxRecDepth 100000 in
theorem awake_walk (w : World) : Calls Tryd.prog 12 #[] w fun e w' => e = .returned (.bool true) ∧ Below w.heap.size w w' := by
  go_enter Tryd.func12, Tryd.ntmps12
  go_wp2_with fail
  refine (print_walk 0 0 0 0 0 0 0 1 ⟨by decide, by decide, by decide, by decide, by decide, by decide, by decide, by decide⟩ _).mono ?_
  rintro e w1 ⟨rfl, hb⟩
  rw [show printL 0 0 0 0 0 0 0 1 = [58, 58, 49] from text_one]
  go_wp2_with fail
  go_returns
  exact ⟨rfl, hb⟩
end Go.Proofs.YtcgdjnmfeibnoaaDoor
/-! SixCovers -/
namespace Go.Proofs.YtcgdjnmfeibnoaaDoor
open Go.RowKit
set_option linter.unusedVariables false
set_option linter.unusedSimpArgs false
theorem a8_av {x0 x1 x2 x3 x4 x5 x6 x7 : Int} (h : R8 x0 x1 x2 x3 x4 x5 x6 x7) : A8 x0 x1 x2 x3 x4 x5 x6 x7 = AV (V8 x0 x1 x2 x3 x4 x5 x6 x7) := by
  obtain ⟨v, hv⟩ : ∃ v, V8 x0 x1 x2 x3 x4 x5 x6 x7 = v := ⟨_, rfl⟩
  rw [hv]
  obtain ⟨rfl, rfl, rfl, rfl, rfl, rfl, rfl, rfl⟩ := pc_of h hv
  rfl
end Go.Proofs.YtcgdjnmfeibnoaaDoor
/-! SoShelf -/
namespace Go.Proofs
open Go.Shelf
def Tryd.soSort_ren : Go.Shelf.Ren := ⟨fun | 6 => 54 | 15 => 99 | 14 => 98 | 28 => 132 | 29 => 133 | 20 => 124 | 21 => 125 | 22 => 126 | 23 => 127 | 24 => 128 | 25 => 129 | 26 => 130 | 27 => 131 | 46 => 148 | 47 => 149 | 48 => 150 | 49 => 151 | 50 => 152 | 57 => 160 | n => n, fun | 22 => 25 | 24 => 53 | 25 => 100 | 3 => 3 | 39 => 138 | 0 => 0 | 53 => 119 | 55 => 72 | 4 => 4 | 46 => 175 | 45 => 174 | 50 => 48 | 5 => 5 | 9 => 9 | 66 => 191 | 70 => 195 | 76 => 201 | 77 => 63 | n => n, fun | n => n⟩
theorem Tryd.soSort : Go.Proofs.SlLaysF0.n6 Tryd.prog Tryd.soSort_ren := {
  mixed := by kernel_rfl
  f6 := ⟨Tryd.f54.name, by decide, Tryd.func54.trans (congrArg some (by kernel_rfl))⟩
  f14 := ⟨Tryd.f98.name, by decide, Tryd.func98.trans (congrArg some (by kernel_rfl))⟩
  f15 := Tryd.func99.trans (congrArg some (by kernel_rfl))
  f20 := ⟨Tryd.f124.name, by decide, Tryd.func124.trans (congrArg some (by kernel_rfl))⟩
  f21 := ⟨Tryd.f125.name, by decide, Tryd.func125.trans (congrArg some (by kernel_rfl))⟩
  f22 := ⟨Tryd.f126.name, by decide, Tryd.func126.trans (congrArg some (by kernel_rfl))⟩
  f23 := ⟨Tryd.f127.name, by decide, Tryd.func127.trans (congrArg some (by kernel_rfl))⟩
  f24 := ⟨Tryd.f128.name, by decide, Tryd.func128.trans (congrArg some (by kernel_rfl))⟩
  f25 := ⟨Tryd.f129.name, by decide, Tryd.func129.trans (congrArg some (by kernel_rfl))⟩
  f26 := ⟨Tryd.f130.name, by decide, Tryd.func130.trans (congrArg some (by kernel_rfl))⟩
  f27 := ⟨Tryd.f131.name, by decide, Tryd.func131.trans (congrArg some (by kernel_rfl))⟩
  f28 := Tryd.func132.trans (congrArg some (by kernel_rfl))
  f29 := Tryd.func133.trans (congrArg some (by kernel_rfl))
  f46 := ⟨Tryd.f148.name, by decide, Tryd.func148.trans (congrArg some (by kernel_rfl))⟩
  f47 := Tryd.func149.trans (congrArg some (by kernel_rfl))
  f48 := Tryd.func150.trans (congrArg some (by kernel_rfl))
  f49 := ⟨Tryd.f151.name, by decide, Tryd.func151.trans (congrArg some (by kernel_rfl))⟩
  f50 := ⟨Tryd.f152.name, by decide, Tryd.func152.trans (congrArg some (by kernel_rfl))⟩
  f57 := ⟨Tryd.f160.name, by decide, Tryd.func160.trans (congrArg some (by kernel_rfl))⟩
  t0 := Tryd.underlying0
  a0 := Tryd.isAgg0
  z0 := Tryd.sizeOf0
  v0 := Tryd.zeroValue0
  t3 := Tryd.underlying3
  a3 := Tryd.isAgg3
  z3 := Tryd.sizeOf3
  v3 := Tryd.zeroValue3
  t4 := Tryd.underlying4
  a4 := Tryd.isAgg4
  z4 := Tryd.sizeOf4
  v4 := Tryd.zeroValue4
  t5 := Tryd.underlying5
  a5 := Tryd.isAgg5
  z5 := Tryd.sizeOf5
  v5 := Tryd.zeroValue5
  t9 := Tryd.underlying9
  a9 := Tryd.isAgg9
  z9 := Tryd.sizeOf9
  v9 := Tryd.zeroValue9
  t22 := Tryd.underlying25
  a22 := Tryd.isAgg25
  z22 := Tryd.sizeOf25
  v22 := Tryd.zeroValue25
  t25 := Tryd.underlying100
  a25 := Tryd.isAgg100
  z25 := Tryd.sizeOf100
  v25 := Tryd.zeroValue100
  t39 := Tryd.underlying138
  a39 := Tryd.isAgg138
  z39 := Tryd.sizeOf138
  v39 := Tryd.zeroValue138
  t45 := Tryd.underlying174
  a45 := Tryd.isAgg174
  z45 := Tryd.sizeOf174
  v45 := Tryd.zeroValue174
  t46 := Tryd.underlying175
  a46 := Tryd.isAgg175
  z46 := Tryd.sizeOf175
  v46 := Tryd.zeroValue175
  t50 := Tryd.underlying48
  a50 := Tryd.isAgg48
  z50 := Tryd.sizeOf48
  v50 := Tryd.zeroValue48
  t53 := Tryd.underlying119
  a53 := Tryd.isAgg119
  z53 := Tryd.sizeOf119
  v53 := Tryd.zeroValue119
  t55 := Tryd.underlying72
  a55 := Tryd.isAgg72
  z55 := Tryd.sizeOf72
  v55 := Tryd.zeroValue72
  t66 := Tryd.underlying191
  a66 := Tryd.isAgg191
  z66 := Tryd.sizeOf191
  v66 := Tryd.zeroValue191
  t70 := Tryd.underlying195
  a70 := Tryd.isAgg195
  z70 := Tryd.sizeOf195
  v70 := Tryd.zeroValue195
  t76 := Tryd.underlying201
  a76 := Tryd.isAgg201
  z76 := Tryd.sizeOf201
  v76 := Tryd.zeroValue201
  t77 := Tryd.underlying63
  a77 := Tryd.isAgg63
  z77 := Tryd.sizeOf63
  v77 := Tryd.zeroValue63 }
def Tryd.soIndex_ren : Go.Shelf.Ren := ⟨fun | 6 => 50 | n => n, fun | 22 => 25 | 23 => 53 | 25 => 95 | 3 => 3 | 0 => 0 | 4 => 4 | n => n, fun | n => n⟩
theorem Tryd.soIndex : Go.Proofs.SlLaysH0.n6 Tryd.prog Tryd.soIndex_ren := {
  mixed := by kernel_rfl
  f6 := ⟨Tryd.f50.name, by decide, Tryd.func50.trans (congrArg some (by kernel_rfl))⟩
  t0 := Tryd.underlying0
  a0 := Tryd.isAgg0
  z0 := Tryd.sizeOf0
  v0 := Tryd.zeroValue0
  t3 := Tryd.underlying3
  a3 := Tryd.isAgg3
  z3 := Tryd.sizeOf3
  v3 := Tryd.zeroValue3
  t4 := Tryd.underlying4
  a4 := Tryd.isAgg4
  z4 := Tryd.sizeOf4
  v4 := Tryd.zeroValue4
  t22 := Tryd.underlying25
  a22 := Tryd.isAgg25
  z22 := Tryd.sizeOf25
  v22 := Tryd.zeroValue25
  t25 := Tryd.underlying95
  a25 := Tryd.isAgg95
  z25 := Tryd.sizeOf95
  v25 := Tryd.zeroValue95 }
def Tryd.soClone_ren : Go.Shelf.Ren := ⟨fun | 41 => 53 | n => n, fun | 22 => 25 | 23 => 53 | 4 => 4 | n => n, fun | n => n⟩
theorem Tryd.soClone : Go.Proofs.SlLaysE0.n41 Tryd.prog Tryd.soClone_ren := {
  mixed := by kernel_rfl
  f41 := ⟨Tryd.f53.name, by decide, Tryd.func53.trans (congrArg some (by kernel_rfl))⟩
  t4 := Tryd.underlying4
  a4 := Tryd.isAgg4
  z4 := Tryd.sizeOf4
  v4 := Tryd.zeroValue4
  t22 := Tryd.underlying25
  a22 := Tryd.isAgg25
  z22 := Tryd.sizeOf25
  v22 := Tryd.zeroValue25 }
end Go.Proofs
/-! Gr -/
namespace Go.Proofs.YtcgdjnmfeibnoaaDoor
open Go.RowKit Go.Sort
set_option linter.unusedVariables false
set_option linter.unusedSimpArgs false
def Gr (w W : World) : Prop := ∃ q os, W = grow (w.drewN q) os
theorem Gr.refl (w : World) : Gr w w := ⟨0, #[], by rw [grow_empty]; rfl⟩
theorem Gr.alloc {w W : World} (h : Gr w W) (o : Obj) : Gr w (W.alloc o) := by
  obtain ⟨q, os, rfl⟩ := h
  exact ⟨q, os ++ #[o], by rw [alloc_eq_grow, grow_grow]⟩
theorem Gr.drewN {w W : World} (h : Gr w W) (n : Nat) : Gr w (W.drewN n) := by
  obtain ⟨q, os, rfl⟩ := h
  refine ⟨q + n, os, ?_⟩
  unfold grow World.drewN
  rw [Nat.add_assoc]
theorem Gr.trans {w W X : World} (h : Gr w W) (k : Gr W X) : Gr w X := by
  obtain ⟨q, os, rfl⟩ := k
  obtain ⟨p, os', e⟩ := h.drewN q
  exact ⟨p, os' ++ os, by rw [← grow_grow, ← e]⟩
theorem Gr.cell {w W : World} (h : Gr w W) {b o : Nat} (hb : b < w.heap.size) : W.cell? ⟨b, o, none⟩ = w.cell? ⟨b, o, none⟩ := by
  obtain ⟨q, os, rfl⟩ := h
  exact cell?_grow (w.drewN q) os ⟨b, o, none⟩ hb
theorem Gr.size {w W : World} (h : Gr w W) : w.heap.size ≤ W.heap.size := by
  obtain ⟨q, os, rfl⟩ := h
  rw [size_grow]
  exact Nat.le_add_right _ _
/-- A world that goes on so. -/
structure ExtG (w0 : World) where
  wd : World
  gr : Gr w0 wd
instance (w0 : World) : Nonempty (ExtG w0) := ⟨⟨w0, Gr.refl _⟩⟩
@[go_sem] theorem ExtG.cell {w0 : World} (x : ExtG w0) {b o : Nat} (h : b < w0.heap.size) : x.wd.cell? ⟨b, o, none⟩ = w0.cell? ⟨b, o, none⟩ := x.gr.cell h
theorem wp_region_gr_tail {P : Program} {id : Nat} {Q : Exit → Act → World → Prop} {a : Act} {w : World} {l : List Oper} (n : Nat) (hm : P.follows .mixedOrders = true) (hB : Region.lexTailB .any l.toArray n = true)
    (h : wpQuiet P l.toArray (fun w' => ∃ x : ExtG w, w' = x.wd) (fun a' => ∀ w', (∃ x : ExtG w, w' = x.wd) → wpList P l.toArray Q (l.drop n) a' w') (l.take n) a) : (Code.region id l.toArray true).wp P Q a w :=
  wp_region_quiet_tail (C := fun w' => ∃ x : ExtG w, w' = x.wd) n hm hB ⟨⟨_, (Gr.refl w).drewN 1⟩, rfl⟩ h
theorem extG_of {P : Program} {f : FuncId} {args : Array Value} {w : World} {x : ExtG w} {v : Value} (h : Calls P f args x.wd fun e w' => e = .returned v ∧ Gr x.wd w') :
    Calls P f args x.wd fun e w'' => e = .returned v ∧ ∃ y : ExtG w, w'' = y.wd :=
  h.mono fun _ w' ⟨he, hb⟩ => ⟨he, ⟨w', x.gr.trans hb⟩, rfl⟩
theorem extG_of_same {P : Program} {f : FuncId} {args : Array Value} {w : World} {x : ExtG w} {v : Value} (h : Calls P f args x.wd fun e w' => e = .returned v ∧ x.wd = w') :
    Calls P f args x.wd fun e w'' => e = .returned v ∧ ∃ y : ExtG w, w'' = y.wd :=
  h.mono fun _ w' ⟨he, hb⟩ => ⟨he, x, hb.symm⟩
end Go.Proofs.YtcgdjnmfeibnoaaDoor
/-! SixSo -/
namespace Go.Proofs.YtcgdjnmfeibnoaaDoor
open Go.RowKit Go.Lib Go.Sort
set_option linter.unusedVariables false
set_option linter.unusedSimpArgs false
/-- A prefix: its address as a number, its bits. -/
structure Pz where
  a : Int
  n : Int
deriving Inhabited
/-- Its cells. -/
def zc (x : Pz) : List Value := [.int .u16 (pc 0 x.a), .int .u16 (pc 1 x.a), .int .u16 (pc 2 x.a), .int .u16 (pc 3 x.a), .int .u16 (pc 4 x.a), .int .u16 (pc 5 x.a), .int .u16 (pc 6 x.a), .int .u16 (pc 7 x.a), .int .i64 x.n]
/-- The number that its pieces say. -/
def Pz.v (x : Pz) : Int := V8 (pc 0 x.a) (pc 1 x.a) (pc 2 x.a) (pc 3 x.a) (pc 4 x.a) (pc 5 x.a) (pc 6 x.a) (pc 7 x.a)
theorem Pz.v_wide {x : Pz} (h : Wide x.a) : x.v = x.a := pc_v8 h
def isZ (x : Pz) : Bool := isPre x.v x.n
set_option maxRecDepth 100000 in
theorem join1_walk (x : Pz) (w : World) : Calls Tryd.prog 51 #[.agg (zc x).toArray] w fun e w' => e = .returned (.bool (!isZ x)) ∧ Below w.heap.size w w' := by
  have HI := Lib.hid (fun w => is_walk _ _ _ _ _ _ _ _ (pc_r8 x.a) x.n w)
  have hr : isPre (V8 (pc 0 x.a) (pc 1 x.a) (pc 2 x.a) (pc 3 x.a) (pc 4 x.a) (pc 5 x.a) (pc 6 x.a) (pc 7 x.a)) x.n = isZ x := rfl
  rw [hr] at HI
  clear hr
  generalize isZ x = r at *
  show Calls _ _ #[.agg #[.int .u16 (pc 0 x.a), .int .u16 (pc 1 x.a), .int .u16 (pc 2 x.a), .int .u16 (pc 3 x.a), .int .u16 (pc 4 x.a), .int .u16 (pc 5 x.a), .int .u16 (pc 6 x.a), .int .u16 (pc 7 x.a), .int .i64 x.n]] _ _
  generalize pc 0 x.a = x0 at *
  generalize pc 1 x.a = x1 at *
  generalize pc 2 x.a = x2 at *
  generalize pc 3 x.a = x3 at *
  generalize pc 4 x.a = x4 at *
  generalize pc 5 x.a = x5 at *
  generalize pc 6 x.a = x6 at *
  generalize pc 7 x.a = x7 at *
  go_enter Tryd.func51, Tryd.ntmps51
  go_wp2_with fail
  have B := Below.alloc (Below.refl w.heap.size w) (Nat.le_refl _) (.cells #[.int .u16 x0, .int .u16 x1, .int .u16 x2, .int .u16 x3, .int .u16 x4, .int .u16 x5, .int .u16 x6, .int .u16 x7, .int .i64 x.n] 53)
  refine (HI.out _).mono ?_
  rintro e w1 ⟨rfl, hb⟩
  replace B := chain B hb
  clear hb
  go_wp2_with fail
  go_returns
  exact ⟨rfl, B⟩
set_option maxHeartbeats 1000000 in
set_option maxRecDepth 100000 in
theorem compare_grow (x0 x1 x2 x3 x4 x5 x6 x7 y0 y1 y2 y3 y4 y5 y6 y7 : Int) (h : R8 x0 x1 x2 x3 x4 x5 x6 x7) (k : R8 y0 y1 y2 y3 y4 y5 y6 y7) (w : World) :
    Calls Tryd.prog 23 #[A8 x0 x1 x2 x3 x4 x5 x6 x7, A8 y0 y1 y2 y3 y4 y5 y6 y7] w fun e w' => e = .returned (.int .i64 (cmpI (V8 x0 x1 x2 x3 x4 x5 x6 x7) (V8 y0 y1 y2 y3 y4 y5 y6 y7))) ∧ Gr w w' := by
  go_enter Tryd.func23, Tryd.ntmps23
  go_wp2
  go_quiet ((go_at_call 63; exact Calls.quiet_of_same ((scmp_walk x0 x1 x2 x3 x4 x5 x6 x7 y0 y1 y2 y3 y4 y5 y6 y7 h k _ _ _ ⟨by go_simp, by go_simp, by go_simp, by go_simp, by go_simp, by go_simp, by go_simp, by go_simp⟩ ⟨by go_simp, by go_simp, by go_simp, by go_simp, by go_simp, by go_simp, by go_simp, by go_simp⟩).mono fun _ _ ⟨he, hw⟩ => ⟨he, hw.symm⟩)))
  go_wp2
  go_returns
  refine ⟨rfl, _, _, by rw [alloc_eq_grow, alloc_eq_grow, grow_grow]; rfl⟩
set_option maxRecDepth 100000 in
theorem nanInt_walk (a : Int) (w : World) : Calls Tryd.prog 100 #[.int .i64 a] w fun e w' => e = .returned (.bool false) ∧ w = w' := by
  go_enter Tryd.func100, Tryd.ntmps100
  go_wp2
  go_returns
  exact ⟨by simp, rfl⟩
set_option maxHeartbeats 400000 in
theorem cmpInt_walk (x y : Int) (w : World) : Calls Tryd.prog 57 #[.int .i64 x, .int .i64 y] w fun e w' => e = .returned (.int .i64 (cmpI x y)) ∧ w = w' := by
  go_enter Tryd.func57, Tryd.ntmps57
  go_wp2_with (go_at_call 100; refine (nanInt_walk _ _).mono ?_; rintro e w' ⟨rfl, rfl⟩)
  all_goals go_returns
  all_goals go_tidy
  all_goals refine ⟨ret_int ?_, rfl⟩
  all_goals unfold cmpI
  all_goals (repeat' split)
  all_goals omega
def orV (a b : Int) : Int := if a = 0 then b else a
set_option maxHeartbeats 1000000 in
set_option maxRecDepth 100000 in
theorem or_walk (a b : Int) (g : Nat) (w : World) (h0 : w.cell? ⟨g, 0, none⟩ = some (.int .i64 a)) (h1 : w.cell? ⟨g, 1, none⟩ = some (.int .i64 b)) (hg : g < w.heap.size) : Calls Tryd.prog 56 #[.slice (some ⟨g, 0, none⟩) 2 2] w fun e w' => e = .returned (.int .i64 (orV a b)) ∧ w = w' := by
  go_enter Tryd.func56, Tryd.ntmps56
  go_wp2
  refine wp_loop_rounds 3 ?_
  repeat any_goals (rw [rounds_succ]; go_wp2)
  all_goals go_returns
  all_goals refine ⟨ret_int ?_, rfl⟩
  all_goals simp only [bne_iff_ne, ne_eq, bne_eq_false_iff_eq] at *
  all_goals unfold orV
  all_goals (repeat' split)
  all_goals omega
/-- By address, then by bits. -/
def cmpZ (x y : Pz) : Int := orV (cmpI x.v y.v) (cmpI x.n y.n)
set_option maxHeartbeats 1000000 in
set_option maxRecDepth 100000 in
theorem join2_walk (x y : Pz) (W : World) : Calls Tryd.prog 55 #[.agg (zc x).toArray, .agg (zc y).toArray] W fun e w' => e = .returned (.int .i64 (cmpZ x y)) ∧ ∃ q os', w' = grow (W.drewN q) os' := by
  have HC := Lib.hid (fun w => compare_grow _ _ _ _ _ _ _ _ _ _ _ _ _ _ _ _ (pc_r8 x.a) (pc_r8 y.a) w)
  have HN := Lib.hid (fun w => cmpInt_walk x.n y.n w)
  have e1 : V8 (pc 0 x.a) (pc 1 x.a) (pc 2 x.a) (pc 3 x.a) (pc 4 x.a) (pc 5 x.a) (pc 6 x.a) (pc 7 x.a) = x.v := rfl
  have e2 : V8 (pc 0 y.a) (pc 1 y.a) (pc 2 y.a) (pc 3 y.a) (pc 4 y.a) (pc 5 y.a) (pc 6 y.a) (pc 7 y.a) = y.v := rfl
  rw [e1, e2] at HC
  clear e1 e2
  unfold cmpZ
  generalize cmpI x.v y.v = r at *
  generalize cmpI x.n y.n = s at *
  show Calls _ _ #[.agg #[.int .u16 (pc 0 x.a), .int .u16 (pc 1 x.a), .int .u16 (pc 2 x.a), .int .u16 (pc 3 x.a), .int .u16 (pc 4 x.a), .int .u16 (pc 5 x.a), .int .u16 (pc 6 x.a), .int .u16 (pc 7 x.a), .int .i64 x.n], .agg #[.int .u16 (pc 0 y.a), .int .u16 (pc 1 y.a), .int .u16 (pc 2 y.a), .int .u16 (pc 3 y.a), .int .u16 (pc 4 y.a), .int .u16 (pc 5 y.a), .int .u16 (pc 6 y.a), .int .u16 (pc 7 y.a), .int .i64 y.n]] _ _
  generalize pc 0 x.a = x0 at *
  generalize pc 1 x.a = x1 at *
  generalize pc 2 x.a = x2 at *
  generalize pc 3 x.a = x3 at *
  generalize pc 4 x.a = x4 at *
  generalize pc 5 x.a = x5 at *
  generalize pc 6 x.a = x6 at *
  generalize pc 7 x.a = x7 at *
  generalize pc 0 y.a = y0 at *
  generalize pc 1 y.a = y1 at *
  generalize pc 2 y.a = y2 at *
  generalize pc 3 y.a = y3 at *
  generalize pc 4 y.a = y4 at *
  generalize pc 5 y.a = y5 at *
  generalize pc 6 y.a = y6 at *
  generalize pc 7 y.a = y7 at *
  go_enter Tryd.func55, Tryd.ntmps55
  go_wp2_with fail
  refine wp_region_gr_tail 10 (by kernel_rfl) (by kernel_rfl) ?_
  dsimp only [List.take, List.drop]
  repeat (go_big_quiet_step (first | (with_reducible exact extG_of (HC.out _)) | (with_reducible exact extG_of_same (HN.out _))))
  refine wpQuiet_nil ?_
  intro w2 hw2
  obtain ⟨y2, e2⟩ := hw2
  have hb2 := y2.gr
  rw [← e2] at hb2
  clear e2
  have G2 : Gr W w2 := (((Gr.refl W).alloc _).alloc _).trans hb2
  clear hb2
  go_wp2_with fail
  refine (or_walk r s w2.heap.size _ (by go_simp) (by go_simp) (by simp)).mono ?_
  rintro e w3 ⟨rfl, rfl⟩
  go_wp2_with fail
  go_returns
  exact ⟨rfl, G2.alloc _⟩
theorem join2_lays (blk off size : Nat) (w : World) : CmpLays Tryd.prog 55 #[] zc 9 cmpZ blk off size w :=
  fun _ _ _ _ x y => join2_walk x y _
theorem cmpZ_lt (x y : Pz) : ltOf cmpZ x y = decide (x.v < y.v ∨ x.v = y.v ∧ x.n < y.n) := by
  unfold ltOf cmpZ orV cmpI
  by_cases h1 : x.v < y.v
  · simp [h1]
  · by_cases h2 : y.v < x.v
    · rw [if_neg h1, if_pos h2]
      have : ¬ (x.v = y.v) := by omega
      simp [h1, this]
    · have h3 : x.v = y.v := by omega
      rw [if_neg h1, if_neg h2]
      by_cases h4 : x.n < y.n
      · simp [h3, h4]
      · by_cases h5 : y.n < x.n <;> simp [h3, h4, h5]
theorem swoZ : SWO (ltOf cmpZ) where
  irrefl x := by rw [cmpZ_lt]; simp
  trans x y z h1 h2 := by rw [cmpZ_lt] at *; simp at *; omega
  ntrans x y z h1 h2 := by rw [cmpZ_lt] at *; simp at *; omega
theorem eg1 : ∀ args w, (callFunc 51 args).run Tryd.prog w = .ok (.enter 51 args) w := enters_of Tryd.func51 (by kernel_rfl) rfl
theorem eg2 : ∀ args w, (callFunc 55 args).run Tryd.prog w = .ok (.enter 55 args) w := enters_of Tryd.func55 (by kernel_rfl) rfl
theorem zc_one (x : Pz) : ∀ v ∈ zc x, v.oneCell' = true := by
  intro v hv
  simp [zc] at hv
  rcases hv with rfl | rfl | rfl | rfl | rfl | rfl | rfl | rfl | rfl <;> rfl
/-- slices.SortFunc: by address, then by bits. -/
theorem c_sort (blk off cap : Nat) (d : Array Pz) (w : World) (hH : HoldsK zc 9 w blk off d) (hblk : blk < w.heap.size) (hsz : d.size < 4611686018427387904) :
    Calls Tryd.prog 54 #[.slice (some ⟨blk, off, none⟩) d.size cap, .func (.func 55) #[] #[]] w fun e w' => e = .returned (.tuple #[]) ∧ ∃ d' n os, PermIn 0 d.size d d' ∧ SortedIn (ltOf cmpZ) 0 d.size d' ∧ w' = sortWorldK zc 9 w blk off n d' os :=
  AnyQ.slices_SortFunc Tryd.soSort 9 Tryd.isAgg53 Tryd.sizeOf53 zc (fun _ => rfl) zc_one cmpZ swoZ 55 #[] blk off cap d w eg2 (join2_lays blk off d.size w) hH hblk hsz
theorem c_sort_none (cap : Nat) (fv : Value) (w : World) : Calls Tryd.prog 54 #[.slice none 0 cap, fv] w fun e w' => e = .returned (.tuple #[]) ∧ w' = w := by
  have h := AnyF.slices_SortFunc_none { Tryd.soSort with } none cap fv w
  exact h
set_option maxRecDepth 100000 in
theorem c_index_zero (A : Option Addr) (c : Nat) (fv : Value) (w : World) : Calls Tryd.prog 50 #[.slice A 0 c, fv] w fun e w' => e = .returned (.int .i64 (-1)) ∧ w' = w := by
  go_enter Tryd.func50, Tryd.ntmps50
  go_wp2_with fail
  refine wp_loop_rounds 1 ?_
  rw [rounds_succ]
  go_wp2_with fail
  go_returns
  exact ⟨rfl, rfl⟩
theorem c_index (b off c : Nat) (zs : List Pz) (w : World) (hbig : zs.length ≤ 9223372036854775807) (hb : b < w.heap.size) (hc : ∀ j, j < zs.length → ∀ i v, (zc zs[j]!)[i]? = some v → w.cell? ⟨b, off + j * 9 + i, none⟩ = some v) :
    Calls Tryd.prog 50 #[.slice (some ⟨b, off, none⟩) zs.length c, .func (.func 51) #[] #[]] w fun e w' => e = .returned (.int .i64 (Lib.idxBy (fun _ y => !isZ y) zs default)) ∧ Below w.heap.size w w' := by
  have h := AnyQ.slices_IndexFunc Tryd.soIndex 9 Tryd.isAgg53 Tryd.sizeOf53 zc (fun _ => rfl) (fun y => !isZ y) 51 #[] eg1 b off zs.length c zs w (fun W x hB => (join1_walk x W).mono fun _ _ ⟨he, hw⟩ => ⟨he, chain hB hw⟩) (Nat.le_refl _) hbig hb hc
  rw [List.take_length] at h
  exact h
theorem flatZ_len (zs : List Pz) : (zs.flatMap zc).length = zs.length * 9 := by
  induction zs with
  | nil => rfl
  | cons x l ih =>
    rw [List.flatMap_cons, List.length_append, List.length_cons, ih]
    show 9 + l.length * 9 = _
    omega
theorem c_clone (b off c : Nat) (zs : List Pz) (w : World) (hbig : zs.length ≤ 1099511627776) (hc : ∀ j u, (zs.flatMap zc)[j]? = some u → w.cell? ⟨b, off + j, none⟩ = some u) :
    Calls Tryd.prog 53 #[.slice (some ⟨b, off, none⟩) zs.length c] w fun e w' => ∃ v', e = .returned v' ∧ w'.ownsRow w.heap.size 53 9 v' zs.length (zs.flatMap zc) ∧ v' ≠ .slice none 0 0 ∧ Below w.heap.size w w' := by
  have hl := flatZ_len zs
  obtain ⟨i0, hi, hz0, hz1, hz2⟩ : ∃ i0 : TypeInfo, Tryd.prog.info? 53 = some i0 ∧ i0.zero = some (.agg #[.int .u16 0, .int .u16 0, .int .u16 0, .int .u16 0, .int .u16 0, .int .u16 0, .int .u16 0, .int .u16 0, .int .i64 0]) ∧ i0.size = 9 ∧ i0.bytes = 24 := by
    have h : (Tryd.prog.info? 53).map (fun i => (i.zero, i.size, i.bytes)) = some (some (.agg #[.int .u16 0, .int .u16 0, .int .u16 0, .int .u16 0, .int .u16 0, .int .u16 0, .int .u16 0, .int .u16 0, .int .i64 0]), 9, 24) := by kernel_rfl
    cases hi : Tryd.prog.info? 53 with
    | none => rw [hi] at h; cases h
    | some i0 =>
      rw [hi] at h
      have h := Option.some.inj h
      exact ⟨i0, rfl, congrArg (·.1) h, congrArg (·.2.1) h, congrArg (·.2.2) h⟩
  exact AnyE.slices_Clone Tryd.soClone i0 _ 9 24 hi hz0 hz1 hz2 rfl (by decide) Tryd.sizeOf53 b off zs.length c (zs.flatMap zc) w hl (by unfold maxLen; omega) (by omega) hc (fun u hu => by
    obtain ⟨x, _, hx⟩ := List.mem_flatMap.1 hu
    exact zc_one x u hx)
theorem c_clone_nil (n c : Nat) (w : World) : Calls Tryd.prog 53 #[.slice none n c] w fun e w' => e = .returned (.slice none 0 0) ∧ w' = w :=
  AnyE.slices_Clone_nil Tryd.soClone n c w
end Go.Proofs.YtcgdjnmfeibnoaaDoor
/-! SixRz -/
namespace Go.Proofs.YtcgdjnmfeibnoaaDoor
open Go.RowKit Go.Lib
set_option linter.unusedVariables false
set_option linter.unusedSimpArgs false
def zcs (l : List Pz) : List Value := l.flatMap zc
theorem zcs_get : ∀ (l : List Pz) (k : Nat) (p : Pz), l[k]? = some p → ∀ j, j < 9 → (zcs l)[k * 9 + j]? = (zc p)[j]?
  | [], k, p, h, j, hj => by simp at h
  | q :: l, 0, p, h, j, hj => by
    obtain rfl : q = p := by simpa using h
    show (zc q ++ zcs l)[0 * 9 + j]? = _
    rw [List.getElem?_append_left (by simp [zc]; omega), Nat.zero_mul, Nat.zero_add]
  | q :: l, k + 1, p, h, j, hj => by
    show (zc q ++ zcs l)[(k + 1) * 9 + j]? = _
    rw [List.getElem?_append_right (by simp [zc]; omega), show (k + 1) * 9 + j - (zc q).length = k * 9 + j from by simp [zc]; omega]
    exact zcs_get l k p (by simpa using h) j hj
/-- The prefixes that stand at an address. -/
def RdZ (W : World) (A : Option Addr) (l : List Pz) : Prop := ∀ k x, l[k]? = some x → ∃ g o, A = some ⟨g, o, none⟩ ∧ g < W.heap.size ∧ ∀ j, j < 9 → W.cell? ⟨g, o + (k * 9 + j), none⟩ = (zc x)[j]?
theorem RdZ.keep {W W' : World} {A : Option Addr} {l : List Pz} (h : RdZ W A l) (hb : Below W.heap.size W W') : RdZ W' A l := by
  intro k x hk
  obtain ⟨g, o, hA, hg, hc⟩ := h k x hk
  exact ⟨g, o, hA, Nat.lt_of_lt_of_le hg hb.size, fun j hj => (hb.cell (p := ⟨g, o + (k * 9 + j), none⟩) hg).trans (hc j hj)⟩
theorem rdz_nil (W : World) (A : Option Addr) : RdZ W A [] := fun k x h => by simp at h
/-- A row of the call's own, read. -/
theorem rdz_own {W : World} {base n : Nat} {e : TypeId} {v : Value} {l : List Pz} (h : W.ownsRow base e 9 v n (zcs l)) (hn : n = l.length) : ∃ A c, v = .slice A l.length c ∧ l.length ≤ c ∧ RdZ W A l := by
  subst hn
  have h' := h
  rcases h.2 with ⟨rfl, h0⟩ | ⟨g, c, cur, rfl, hb, hg, hn, _⟩
  · obtain rfl : l = [] := List.eq_nil_of_length_eq_zero h0
    exact ⟨none, 0, rfl, Nat.le_refl _, rdz_nil _ _⟩
  · refine ⟨_, c, rfl, hn, fun k x hk => ?_⟩
    have hkl : k < l.length := (List.getElem?_eq_some_iff.1 hk).1
    have hlt : g < W.heap.size := by
      rcases Nat.lt_or_ge g W.heap.size with h' | h'
      · exact h'
      · rw [Array.getElem?_eq_none h'] at hg; cases hg
    exact ⟨g, 0, rfl, hlt, fun j hj => by rw [Nat.zero_add, h'.cellAt _ (by omega), zcs_get l k x hk j hj]⟩
end Go.Proofs.YtcgdjnmfeibnoaaDoor
/-! SixR8 -/
namespace Go.Proofs.YtcgdjnmfeibnoaaDoor
open Go.RowKit Go.Lib Go.Proofs.YtcgdjnmfeibnoaaDoorW.PrintWords
set_option linter.unusedVariables false
set_option linter.unusedSimpArgs false
@[irreducible] def storeR (x v : Value) : Sem Unit := Instr.storeAt 30 x v
@[go_sem ↓ high] theorem storeR_of (x v : Value) : Instr.storeAt 30 x v = storeR x v := by unfold storeR; rfl
theorem storeR_old {W : World} {g : Nat} {old : Array Value} (h : W.heap[g]? = some (.cells old 30 (0, 0))) (ho : old.size = 8) (y0 y1 y2 y3 y4 y5 y6 y7 : Int) :
    (storeR (.pointer (some ⟨g, 0, none⟩)) (.agg #[.int .u16 y0, .int .u16 y1, .int .u16 y2, .int .u16 y3, .int .u16 y4, .int .u16 y5, .int .u16 y6, .int .u16 y7])).run Tryd.prog W = .ok () (W.setRow g #[.int .u16 y0, .int .u16 y1, .int .u16 y2, .int .u16 y3, .int .u16 y4, .int .u16 y5, .int .u16 y6, .int .u16 y7]) := by
  unfold storeR
  simp only [Instr.storeAt, Instr.sureAddr, Sem.run_bind, Sem.run_pure, Result.andThen]
  exact run_storeVar_row _ _ 30 30 old #[.int .u16 y0, .int .u16 y1, .int .u16 y2, .int .u16 y3, .int .u16 y4, .int .u16 y5, .int .u16 y6, .int .u16 y7] h (by kernel_rfl) ho (by simp [Value.oneCell'])
@[go_sem] theorem storeR_new {n : Nat} (W : World) (z0 z1 z2 z3 z4 z5 z6 z7 y0 y1 y2 y3 y4 y5 y6 y7 : Int) (hn : n = W.heap.size) :
    (storeR (.pointer (some ⟨n, 0, none⟩)) (.agg #[.int .u16 y0, .int .u16 y1, .int .u16 y2, .int .u16 y3, .int .u16 y4, .int .u16 y5, .int .u16 y6, .int .u16 y7])).run Tryd.prog (W.alloc (.cells #[.int .u16 z0, .int .u16 z1, .int .u16 z2, .int .u16 z3, .int .u16 z4, .int .u16 z5, .int .u16 z6, .int .u16 z7] 30)) = .ok () (W.alloc (.cells #[.int .u16 y0, .int .u16 y1, .int .u16 y2, .int .u16 y3, .int .u16 y4, .int .u16 y5, .int .u16 y6, .int .u16 y7] 30)) := by
  subst hn
  rw [storeR_old (heap_alloc_new W _) rfl]
  congr 1
  exact World.setRow_alloc_new W _ _ 30
theorem setRow_at {W : World} {g : Nat} {old c : Array Value} {t : TypeId} (h : W.heap[g]? = some (.cells old t (0, 0))) : (W.setRow g c).heap[g]? = some (.cells c t (0, 0)) := by
  simp [World.setRow, Array.getElem?_modify, h]
theorem below_setRow {B : Nat} {w W : World} (h : Below B w W) {g : Nat} (hg : B ≤ g) (c : Array Value) : Below B w (W.setRow g c) := by
  refine ⟨h.os, h.tape, h.output, ?_, fun k hk => ?_⟩
  · have := h.size
    simpa [World.setRow] using this
  · have := h.block k hk
    rw [← this]
    simp only [World.setRow, Array.getElem?_modify]
    rw [if_neg (by omega)]
end Go.Proofs.YtcgdjnmfeibnoaaDoor
/-! SixSameZ -/
namespace Go.Proofs.YtcgdjnmfeibnoaaDoor
open Go.RowKit Go.Lib Go.Proofs.YtcgdjnmfeibnoaaDoorW.PrintWords
set_option linter.unusedVariables false
set_option linter.unusedSimpArgs false
def SameZRel (w : World) (n : Nat) (i : Value) (W : World) : Prop := ∃ k : Nat, k ≤ n ∧ i = .int .i64 k ∧ ∃ m, W = w.drewN m
set_option maxHeartbeats 4000000 in
set_option maxRecDepth 100000 in
theorem sameZ_walk (l : List Pz) (A B : Option Addr) (c1 c2 : Nat) (w : World) (hn : l.length ≤ 9223372036854775807) (h1 : RdZ w A l) (h2 : RdZ w B l) :
    Calls Tryd.prog 13 #[.slice A l.length c1, .slice B l.length c2] w fun e w' => e = .returned (.bool true) ∧ Below w.heap.size w w' := by
  go_enter Tryd.func13, Tryd.ntmps13
  have H1 := Lib.hid h1
  have H2 := Lib.hid h2
  clear h1 h2
  go_wp2_with fail
  go_loopw [5] (fun i W => SameZRel w l.length i W) (fun i _ => l.length - (intOf i).toNat)
  case atStart => exact ⟨0, Nat.zero_le _, rfl, 0, rfl⟩
  case round =>
    obtain ⟨k, hk, rfl, m, rfl⟩ := hrel
    by_cases hlt : k < l.length
    · obtain ⟨x, hp⟩ : ∃ x, l[k]? = some x := ⟨l[k], List.getElem?_eq_getElem hlt⟩
      obtain ⟨g, o, rfl, hg, hc⟩ := H1.out k x hp
      obtain ⟨g2, o2, rfl, hg2, hd⟩ := H2.out k x hp
      have a0 := (hc 0 (by decide)).trans (show (zc x)[0]? = some (.int .u16 (pc 0 x.a)) from rfl)
      have a1 := (hc 1 (by decide)).trans (show (zc x)[1]? = some (.int .u16 (pc 1 x.a)) from rfl)
      have a2 := (hc 2 (by decide)).trans (show (zc x)[2]? = some (.int .u16 (pc 2 x.a)) from rfl)
      have a3 := (hc 3 (by decide)).trans (show (zc x)[3]? = some (.int .u16 (pc 3 x.a)) from rfl)
      have a4 := (hc 4 (by decide)).trans (show (zc x)[4]? = some (.int .u16 (pc 4 x.a)) from rfl)
      have a5 := (hc 5 (by decide)).trans (show (zc x)[5]? = some (.int .u16 (pc 5 x.a)) from rfl)
      have a6 := (hc 6 (by decide)).trans (show (zc x)[6]? = some (.int .u16 (pc 6 x.a)) from rfl)
      have a7 := (hc 7 (by decide)).trans (show (zc x)[7]? = some (.int .u16 (pc 7 x.a)) from rfl)
      have a8 := (hc 8 (by decide)).trans (show (zc x)[8]? = some (.int .i64 x.n) from rfl)
      simp only [Nat.add_zero, ← Nat.add_assoc] at a0 a1 a2 a3 a4 a5 a6 a7 a8
      have b0 := (hd 0 (by decide)).trans (show (zc x)[0]? = some (.int .u16 (pc 0 x.a)) from rfl)
      have b1 := (hd 1 (by decide)).trans (show (zc x)[1]? = some (.int .u16 (pc 1 x.a)) from rfl)
      have b2 := (hd 2 (by decide)).trans (show (zc x)[2]? = some (.int .u16 (pc 2 x.a)) from rfl)
      have b3 := (hd 3 (by decide)).trans (show (zc x)[3]? = some (.int .u16 (pc 3 x.a)) from rfl)
      have b4 := (hd 4 (by decide)).trans (show (zc x)[4]? = some (.int .u16 (pc 4 x.a)) from rfl)
      have b5 := (hd 5 (by decide)).trans (show (zc x)[5]? = some (.int .u16 (pc 5 x.a)) from rfl)
      have b6 := (hd 6 (by decide)).trans (show (zc x)[6]? = some (.int .u16 (pc 6 x.a)) from rfl)
      have b7 := (hd 7 (by decide)).trans (show (zc x)[7]? = some (.int .u16 (pc 7 x.a)) from rfl)
      have b8 := (hd 8 (by decide)).trans (show (zc x)[8]? = some (.int .i64 x.n) from rfl)
      simp only [Nat.add_zero, ← Nat.add_assoc] at b0 b1 b2 b3 b4 b5 b6 b7 b8
      clear hc hd hp hg hg2
      go_wp2_with fail
      go_quiet (fail)
      go_wp2_with fail
      exact ⟨⟨k + 1, by omega, by simp, m + nq, rfl⟩, by simp [intOf]; omega⟩
    · obtain rfl : k = l.length := by omega
      go_wp2_with fail
      go_returns
      exact ⟨rfl, bdn (Below.refl _ _) _⟩
end Go.Proofs.YtcgdjnmfeibnoaaDoor
/-! AppRow -/
namespace Go.Proofs.YtcgdjnmfeibnoaaDoor
open Go.RowKit
set_option linter.unusedVariables false
set_option linter.unusedSimpArgs false
theorem app_row {P : Program} {w : World} {ops : Array Oper} {rest : List Oper} {o : Oper} {a : Act} {Q : Exit → Act → World → Prop} (hgd : o.guard = none) (s x : Operand) (t : TypeId)
    (ho : o.op = .call { callee := .builtin .append, args := #[s, x], argTypes := #[t, t] })
    (base : Nat) (e : TypeId) (i : TypeInfo) (z : Value) (size bytes : Nat) (ht : P.underlying t = some (.slice e)) (hi : P.info? e = some i) (hz : i.zero = some z)
    (hsize : i.size = size) (hby : i.bytes = bytes) (hzs : z.cells.size = size) (hsz : 0 < size)
    (v : Value) (n : Nat) (xs : List Value) (hs : a.eval s = v) (hown : w.ownsRow base e size v n xs)
    (u : Value) (B m : Nat) (news : List Value) (hx : a.eval x = u) (hu : w.ownsRow B e size u m news) (h1 : ∀ q ∈ news, q.oneCell' = true)
    (h63 : n + m ≤ maxLen) (hbytes : (n + m) * bytes ≤ 140737488355328) (hbase : base ≤ w.heap.size)
    (h : ∀ v' w', w'.ownsRow base e size v' (n + m) (xs ++ news) → (∀ B w0, B ≤ base → Below B w0 w → Below B w0 w') → wpList P ops Q rest (a.put o.dst v') w') : wpList P ops Q (o :: rest) a w := by
  obtain ⟨hl, hu'⟩ := hu
  rcases hu' with ⟨rfl, h0⟩ | ⟨g, cap, cur, rfl, hg, hr⟩
  · subst h0
    obtain rfl : news = [] := List.eq_nil_of_length_eq_zero (by rw [hl]; simp)
    refine wpList_append_own_none hgd s x t ho base e i size ht hi v n xs hs hown hx ?_
    exact h v w (by simpa using hown) (fun _ _ _ hb => hb)
  · have hu2 : w.ownsRow B e size (.slice (some ⟨g, 0, none⟩) m cap) m news := ⟨hl, .inr ⟨g, cap, cur, rfl, hg, hr⟩⟩
    refine wpList_append_own _ hgd s x t ho base e i z size bytes ht hi hz hsize hby hzs hsz v n xs hs hown ⟨g, 0, none⟩ m cap news hx hl (hu2.cells (by simp [Value.ownBlock])) h1 h63 hbytes hbase ?_
    intro v' w' hown' hgrow _
    exact h v' w' hown' (fun B w0 hb hw => hw.grown hgrow (by omega) (fun k hk => Nat.le_trans hb (hown.lt k hk).1))
/-- The same as one step of a region that draws its order. -/
theorem step_app_row {P : Program} {w : World} {ops : Array Oper} {o : Oper} {a : Act} {K : Act → World → Prop} {Q : Exit → Act → World → Prop} {E : Prop} (hgd : o.guard = none) (s x : Operand) (t : TypeId)
    (ho : o.op = .call { callee := .builtin .append, args := #[s, x], argTypes := #[t, t] })
    (base : Nat) (e : TypeId) (i : TypeInfo) (z : Value) (size bytes : Nat) (ht : P.underlying t = some (.slice e)) (hi : P.info? e = some i) (hz : i.zero = some z)
    (hsize : i.size = size) (hby : i.bytes = bytes) (hzs : z.cells.size = size) (hsz : 0 < size)
    (v : Value) (n : Nat) (xs : List Value) (hs : a.eval s = v) (hown : w.ownsRow base e size v n xs)
    (u : Value) (B m : Nat) (news : List Value) (hx : a.eval x = u) (hu : w.ownsRow B e size u m news) (h1 : ∀ q ∈ news, q.oneCell' = true)
    (h63 : n + m ≤ maxLen) (hbytes : (n + m) * bytes ≤ 140737488355328) (hbase : base ≤ w.heap.size)
    (h : ∀ v' w', w'.ownsRow base e size v' (n + m) (xs ++ news) → (∀ B w0, B ≤ base → Below B w0 w → Below B w0 w') → w.grownBy w' v.ownBlock → K (a.put o.dst v') w') :
    if Region.wanted o (yielded ops a.tmps) = true then Oper.wp P o a w K Q else E := by
  have hw : Region.wanted o (yielded ops a.tmps) = true := by simp [Region.wanted, hgd]
  rw [if_pos hw]
  obtain ⟨hl, hu'⟩ := hu
  rcases hu' with ⟨rfl, h0⟩ | ⟨g, cap, cur, rfl, hg, hr⟩
  · subst h0
    obtain rfl : news = [] := List.eq_nil_of_length_eq_zero (by rw [hl]; simp)
    have hrun := run_append_owned_none (P := P) (w := w) base t o.type e i size ht hi v n xs hown
    unfold Oper.wp
    simp [execOp, ho, resolve, invoke, builtin, hs, hx, hrun, Result.andThen]
    exact h v w (by simpa using hown) (fun _ _ _ hb => hb) (World.grownBy.refl w _)
  · have hu2 : w.ownsRow B e size (.slice (some ⟨g, 0, none⟩) m cap) m news := ⟨hl, .inr ⟨g, cap, cur, rfl, hg, hr⟩⟩
    refine wp_append_own w s x t ho base e i z size bytes ht hi hz hsize hby hzs hsz v n xs hs hown ⟨g, 0, none⟩ m cap news hx hl (hu2.cells (by simp [Value.ownBlock])) h1 h63 hbytes hbase ?_
    intro v' w' hown' hgrow _
    exact h v' w' hown' (fun B w0 hb hw => hw.grown hgrow (by omega) (fun k hk => Nat.le_trans hb (hown.lt k hk).1)) hgrow
theorem own_belowS {W W' : World} {base size n : Nat} {e : TypeId} {v : Value} {xs : List Value} (h : W.ownsRow base e size v n xs) (hb : Below W.heap.size W W') : W'.ownsRow base e size v n xs :=
  h.kept (row := none) ⟨hb.os, hb.tape, hb.output, hb.size, fun k hk _ => hb.block k hk⟩ (by cases hv : v.ownBlock <;> simp)
end Go.Proofs.YtcgdjnmfeibnoaaDoor
/-! SixGiven -/
namespace Go.Proofs.YtcgdjnmfeibnoaaDoor
open Go.RowKit Go.Lib Go.Proofs.YtcgdjnmfeibnoaaDoorW.PrintWords
set_option linter.unusedVariables false
set_option linter.unusedSimpArgs false
theorem rpre_info9 : ∃ i0 : TypeInfo, Tryd.prog.info? 61 = some i0 ∧ i0.zero = some (.agg #[.int .u16 0, .int .u16 0, .int .u16 0, .int .u16 0, .int .u16 0, .int .u16 0, .int .u16 0, .int .u16 0, .int .i64 0]) ∧ i0.size = 9 ∧ i0.bytes = 24 := by
  have h : (Tryd.prog.info? 61).map (fun i => (i.zero, i.size, i.bytes)) = some (some (.agg #[.int .u16 0, .int .u16 0, .int .u16 0, .int .u16 0, .int .u16 0, .int .u16 0, .int .u16 0, .int .u16 0, .int .i64 0]), 9, 24) := by kernel_rfl
  cases hi : Tryd.prog.info? 61 with
  | none => rw [hi] at h; cases h
  | some i0 =>
    rw [hi] at h
    have h := Option.some.inj h
    exact ⟨i0, rfl, congrArg (·.1) h, congrArg (·.2.1) h, congrArg (·.2.2) h⟩
theorem zcs_snoc {l : List Pz} {k : Nat} {x : Pz} (h : l[k]? = some x) : zcs (l.take k) ++ zc x = zcs (l.take (k + 1)) := by
  obtain ⟨hlt, e⟩ := List.getElem?_eq_some_iff.1 h
  rw [List.take_add_one, h]
  simp [zcs]
theorem own_none (w : World) (e : TypeId) : (w.alloc (.cells #[] e)).ownsRow w.heap.size e 9 (.slice (some ⟨w.heap.size, 0, none⟩) 0 0) 0 (zcs []) :=
  World.ownsRow_made w #[] 0 (Nat.le_refl _) (by decide) (by simp)
theorem own_one {B : Nat} (w : World) (x : Pz) (e : TypeId) (hB : B ≤ w.heap.size) : (w.alloc (.cells (zc x).toArray e)).ownsRow B e 9 (.slice (some ⟨w.heap.size, 0, none⟩) 1 1) 1 (zc x) :=
  ⟨by simp [zc], .inr ⟨w.heap.size, 1, (zc x).toArray, rfl, hB, heap_alloc_new w _, Nat.le_refl _, by decide, by simp [zc], by simp [zc]⟩⟩
def GivRel (w : World) (l : List Pz) (v i : Value) (W : World) : Prop := ∃ k : Nat, k ≤ l.length ∧ i = .int .i64 k ∧ W.ownsRow w.heap.size 61 9 v k (zcs (l.take k)) ∧ Below w.heap.size w W
set_option maxHeartbeats 4000000 in
set_option maxRecDepth 100000 in
theorem given_walk (l : List Pz) (A : Option Addr) (c : Nat) (w : World) (hn : l.length ≤ 1099511627776) (hr : RdZ w A l) :
    Calls Tryd.prog 18 #[.slice A l.length c] w fun e w' => ∃ v, e = .returned v ∧ w'.ownsRow w.heap.size 61 9 v l.length (zcs l) ∧ Below w.heap.size w w' := by
  go_enter Tryd.func18, Tryd.ntmps18
  have HR := Lib.hid hr
  clear hr
  go_wp2_with fail
  obtain ⟨i0, hi0, hz0, hz1, hz2⟩ := rpre_info9
  have HI := Lib.hid hi0
  have HZ0 := Lib.hid hz0
  have HZ1 := Lib.hid hz1
  have HZ2 := Lib.hid hz2
  clear hi0 hz0 hz1 hz2
  go_loopw [3, 4] (fun v i W => GivRel w l v i W) (fun _ i _ => l.length - (intOf i).toNat)
  case atStart => exact ⟨0, Nat.zero_le _, rfl, own_none _ _, (Below.refl _ _).alloc (Nat.le_refl _) _⟩
  case round =>
    obtain ⟨k, hk, rfl, hown, hb⟩ := hrel
    have HO := Lib.hid hown
    have HB := Lib.hid hb
    by_cases hlt : k < l.length
    · obtain ⟨x, hx⟩ : ∃ x, l[k]? = some x := ⟨l[k], List.getElem?_eq_getElem hlt⟩
      obtain ⟨g, o, rfl, hg, hc⟩ := HR.out k x hx
      clear hown
      have c0 := (hb.cell (p := ⟨g, o + (k * 9 + 0), none⟩) hg).trans ((hc 0 (by decide)).trans (show (zc x)[0]? = some (.int .u16 (pc 0 x.a)) from rfl))
      have c1 := (hb.cell (p := ⟨g, o + (k * 9 + 1), none⟩) hg).trans ((hc 1 (by decide)).trans (show (zc x)[1]? = some (.int .u16 (pc 1 x.a)) from rfl))
      have c2 := (hb.cell (p := ⟨g, o + (k * 9 + 2), none⟩) hg).trans ((hc 2 (by decide)).trans (show (zc x)[2]? = some (.int .u16 (pc 2 x.a)) from rfl))
      have c3 := (hb.cell (p := ⟨g, o + (k * 9 + 3), none⟩) hg).trans ((hc 3 (by decide)).trans (show (zc x)[3]? = some (.int .u16 (pc 3 x.a)) from rfl))
      have c4 := (hb.cell (p := ⟨g, o + (k * 9 + 4), none⟩) hg).trans ((hc 4 (by decide)).trans (show (zc x)[4]? = some (.int .u16 (pc 4 x.a)) from rfl))
      have c5 := (hb.cell (p := ⟨g, o + (k * 9 + 5), none⟩) hg).trans ((hc 5 (by decide)).trans (show (zc x)[5]? = some (.int .u16 (pc 5 x.a)) from rfl))
      have c6 := (hb.cell (p := ⟨g, o + (k * 9 + 6), none⟩) hg).trans ((hc 6 (by decide)).trans (show (zc x)[6]? = some (.int .u16 (pc 6 x.a)) from rfl))
      have c7 := (hb.cell (p := ⟨g, o + (k * 9 + 7), none⟩) hg).trans ((hc 7 (by decide)).trans (show (zc x)[7]? = some (.int .u16 (pc 7 x.a)) from rfl))
      have c8 := (hb.cell (p := ⟨g, o + (k * 9 + 8), none⟩) hg).trans ((hc 8 (by decide)).trans (show (zc x)[8]? = some (.int .i64 x.n) from rfl))
      simp only [Nat.add_zero, ← Nat.add_assoc] at c0 c1 c2 c3 c4 c5 c6 c7 c8
      clear hc
      have HX := Lib.hid hx
      clear hx hb
      have hgW := Nat.lt_of_lt_of_le hg HB.out.size
      go_upto_region 5 with fail
      go_region_held3 (fun w' => w'.cell? ⟨g, o + k * 9, none⟩ = some (.int .u16 (pc 0 x.a)) ∧ w'.cell? ⟨g, o + k * 9 + 1, none⟩ = some (.int .u16 (pc 1 x.a)) ∧ w'.cell? ⟨g, o + k * 9 + 2, none⟩ = some (.int .u16 (pc 2 x.a)) ∧ w'.cell? ⟨g, o + k * 9 + 3, none⟩ = some (.int .u16 (pc 3 x.a)) ∧ w'.cell? ⟨g, o + k * 9 + 4, none⟩ = some (.int .u16 (pc 4 x.a)) ∧ w'.cell? ⟨g, o + k * 9 + 5, none⟩ = some (.int .u16 (pc 5 x.a)) ∧ w'.cell? ⟨g, o + k * 9 + 6, none⟩ = some (.int .u16 (pc 6 x.a)) ∧ w'.cell? ⟨g, o + k * 9 + 7, none⟩ = some (.int .u16 (pc 7 x.a)) ∧ w'.cell? ⟨g, o + k * 9 + 8, none⟩ = some (.int .i64 x.n))
        (first | go_keep | (refine ⟨?_, ?_, ?_, ?_, ?_, ?_, ?_, ?_, ?_⟩ <;> assumption))
        (first
          | (refine step_app_row (by rfl) (.tmp 12) (.tmp 24) 33 (by rfl) w.heap.size 61 i0 (.agg #[.int .u16 0, .int .u16 0, .int .u16 0, .int .u16 0, .int .u16 0, .int .u16 0, .int .u16 0, .int .u16 0, .int .i64 0]) 9 24 Tryd.underlying33 HI.out HZ0.out HZ1.out HZ2.out rfl (by decide) _ k (zcs (l.take k)) (by rfl) (own_belowS HO.out (by first | exact (bdn (Below.refl _ _) 1).alloc (Nat.le_refl _) _ | exact (Below.refl _ _).alloc (Nat.le_refl _) _)) _ w.heap.size 1 (zc x) (by rfl) (own_one _ x _ HB.out.size) (zc_one x) (by unfold maxLen; omega) (by omega) (Nat.le_trans HB.out.size (by simp)) ?_
             intro v4 w4 hown4 hbel4 hgrow
             have hB4 : Below w.heap.size w w4 := hbel4 _ _ (Nat.le_refl _) (by first | exact (bdn HB.out 1).alloc HB.out.size _ | exact HB.out.alloc HB.out.size _)
             have d0 := (hB4.cell (p := ⟨g, o + k * 9, none⟩) hg).trans ((HB.out.cell (p := ⟨g, o + k * 9, none⟩) hg).symm.trans c0)
             have d1 := (hB4.cell (p := ⟨g, o + k * 9 + 1, none⟩) hg).trans ((HB.out.cell (p := ⟨g, o + k * 9 + 1, none⟩) hg).symm.trans c1)
             have d2 := (hB4.cell (p := ⟨g, o + k * 9 + 2, none⟩) hg).trans ((HB.out.cell (p := ⟨g, o + k * 9 + 2, none⟩) hg).symm.trans c2)
             have d3 := (hB4.cell (p := ⟨g, o + k * 9 + 3, none⟩) hg).trans ((HB.out.cell (p := ⟨g, o + k * 9 + 3, none⟩) hg).symm.trans c3)
             have d4 := (hB4.cell (p := ⟨g, o + k * 9 + 4, none⟩) hg).trans ((HB.out.cell (p := ⟨g, o + k * 9 + 4, none⟩) hg).symm.trans c4)
             have d5 := (hB4.cell (p := ⟨g, o + k * 9 + 5, none⟩) hg).trans ((HB.out.cell (p := ⟨g, o + k * 9 + 5, none⟩) hg).symm.trans c5)
             have d6 := (hB4.cell (p := ⟨g, o + k * 9 + 6, none⟩) hg).trans ((HB.out.cell (p := ⟨g, o + k * 9 + 6, none⟩) hg).symm.trans c6)
             have d7 := (hB4.cell (p := ⟨g, o + k * 9 + 7, none⟩) hg).trans ((HB.out.cell (p := ⟨g, o + k * 9 + 7, none⟩) hg).symm.trans c7)
             have d8 := (hB4.cell (p := ⟨g, o + k * 9 + 8, none⟩) hg).trans ((HB.out.cell (p := ⟨g, o + k * 9 + 8, none⟩) hg).symm.trans c8)))
      go_wp2_with fail
      rw [zcs_snoc HX.out] at hown4
      exact ⟨⟨k + 1, by omega, by simp, hown4, hB4⟩, by simp [intOf]; omega⟩
    · obtain rfl : k = l.length := by omega
      clear hown hb
      go_wp2_with fail
      go_returns
      have h := HO.out
      rw [List.take_length] at h
      exact ⟨_, rfl, h, HB.out⟩
end Go.Proofs.YtcgdjnmfeibnoaaDoor
/-! JoinV -/
namespace Go.Proofs.YtcgdjnmfeibnoaaDoor
set_option linter.unusedVariables false
set_option linter.unusedSimpArgs false
/-- Ranges, each behind the one before with room between. -/
def Sep : List (Int × Int) → Prop
  | [] => True
  | [r] => r.1 ≤ r.2
  | r :: s :: l => r.1 ≤ r.2 ∧ r.2 + 1 < s.1 ∧ Sep (s :: l)
/-- Lies a number in one of the ranges? -/
def inR (l : List (Int × Int)) (x : Int) : Prop := ∃ r ∈ l, r.1 ≤ x ∧ x ≤ r.2
theorem inR_nil (x : Int) : ¬ inR [] x := fun ⟨r, h, _⟩ => absurd h (by simp)
theorem inR_cons (r : Int × Int) (l : List (Int × Int)) (x : Int) : inR (r :: l) x ↔ (r.1 ≤ x ∧ x ≤ r.2) ∨ inR l x := by
  constructor
  · rintro ⟨s, hs, h⟩
    rcases List.mem_cons.1 hs with rfl | hs
    · exact .inl h
    · exact .inr ⟨s, hs, h⟩
  · rintro (h | ⟨s, hs, h⟩)
    · exact ⟨r, by simp, h⟩
    · exact ⟨s, by simp [hs], h⟩
theorem Sep.tail {r : Int × Int} {l : List (Int × Int)} (h : Sep (r :: l)) : Sep l := by
  cases l with
  | nil => trivial
  | cons s l => exact h.2.2
theorem Sep.head {r : Int × Int} {l : List (Int × Int)} (h : Sep (r :: l)) : r.1 ≤ r.2 := by
  cases l with
  | nil => exact h
  | cons s l => exact h.1
theorem Sep.above : ∀ {l : List (Int × Int)} {r : Int × Int}, Sep (r :: l) → ∀ s ∈ l, r.2 + 1 < s.1 ∧ s.1 ≤ s.2
  | [], r, h, s, hs => absurd hs (by simp)
  | t :: l, r, h, s, hs => by
    rcases List.mem_cons.1 hs with rfl | hs
    · exact ⟨h.2.1, h.2.2.head⟩
    · have := Sep.above h.2.2 s hs
      have := h.2.2.head
      have := h.2.1
      omega
theorem Sep.cons {r : Int × Int} {l : List (Int × Int)} (h0 : r.1 ≤ r.2) (h1 : ∀ s ∈ l, r.2 + 1 < s.1) (h2 : Sep l) : Sep (r :: l) := by
  cases l with
  | nil => exact h0
  | cons s l => exact ⟨h0, h1 s (by simp), h2⟩
theorem sep_unique : ∀ (l m : List (Int × Int)), Sep l → Sep m → (∀ x, inR l x ↔ inR m x) → l = m
  | [], [], _, _, _ => rfl
  | [], r :: m, _, hm, h => absurd ((h r.1).2 ((inR_cons r m r.1).2 (.inl ⟨Int.le_refl _, hm.head⟩))) (inR_nil _)
  | r :: l, [], hl, _, h => absurd ((h r.1).1 ((inR_cons r l r.1).2 (.inl ⟨Int.le_refl _, hl.head⟩))) (inR_nil _)
  | r :: l, s :: m, hl, hm, h => by
    have lr := hl.head
    have ls := hm.head
    have al := hl.above
    have am := hm.above
    have inl : ∀ x, inR l x → r.2 + 1 < x := fun x ⟨t, ht, h1, h2⟩ => by have := al t ht; omega
    have inm : ∀ x, inR m x → s.2 + 1 < x := fun x ⟨t, ht, h1, h2⟩ => by have := am t ht; omega
    have e1 : r.1 = s.1 := by
      have a := (h r.1).1 ((inR_cons r l r.1).2 (.inl ⟨Int.le_refl _, lr⟩))
      have b := (h s.1).2 ((inR_cons s m s.1).2 (.inl ⟨Int.le_refl _, ls⟩))
      rcases (inR_cons _ _ _).1 a with a | a <;> rcases (inR_cons _ _ _).1 b with b | b
      · omega
      · have := inl _ b; omega
      · have := inm _ a; omega
      · have := inl _ b; have := inm _ a; omega
    have e2 : r.2 = s.2 := by
      rcases Int.lt_trichotomy r.2 s.2 with hlt | heq | hgt
      · have b := (h (r.2 + 1)).2 ((inR_cons s m _).2 (.inl ⟨by omega, by omega⟩))
        rcases (inR_cons _ _ _).1 b with b | b
        · omega
        · have := inl _ b; omega
      · exact heq
      · have b := (h (s.2 + 1)).1 ((inR_cons r l _).2 (.inl ⟨by omega, by omega⟩))
        rcases (inR_cons _ _ _).1 b with b | b
        · omega
        · have := inm _ b; omega
    obtain rfl : r = s := Prod.ext e1 e2
    refine congrArg (r :: ·) (sep_unique l m hl.tail hm.tail fun x => ?_)
    have hx := h x
    rw [inR_cons, inR_cons] at hx
    constructor
    · intro g
      rcases hx.1 (.inr g) with k | k
      · have := inl x g; omega
      · exact k
    · intro g
      rcases hx.2 (.inr g) with k | k
      · have := inm x g; omega
      · exact k
/-- A sweep over ranges in order, one of them at hand. -/
def sweep (a b : Int) : List (Int × Int) → List (Int × Int)
  | [] => [(a, b)]
  | r :: l => if r.1 ≤ b + 1 then sweep a (max b r.2) l else (a, b) :: sweep r.1 r.2 l
/-- In order by their beginnings. -/
def Asc : List (Int × Int) → Prop := List.Pairwise fun r s => r.1 ≤ s.1
theorem sweep_in : ∀ (l : List (Int × Int)) (a b : Int), a ≤ b → (∀ r ∈ l, r.1 ≤ r.2 ∧ a ≤ r.1) → Asc l → ∀ x, inR (sweep a b l) x ↔ (a ≤ x ∧ x ≤ b) ∨ inR l x
  | [], a, b, hab, hl, ho, x => by
    rw [sweep, inR_cons]
  | r :: l, a, b, hab, hl, ho, x => by
    have hr := hl r (by simp)
    have ho' := List.pairwise_cons.1 ho
    rw [sweep, inR_cons r l]
    by_cases h : r.1 ≤ b + 1
    · rw [if_pos h, sweep_in l a (max b r.2) (by omega) (fun s hs => ⟨(hl s (by simp [hs])).1, (hl s (by simp [hs])).2⟩) ho'.2 x]
      constructor
      · rintro (g | g)
        · by_cases hb : x ≤ b
          · exact .inl ⟨g.1, hb⟩
          · exact .inr (.inl (by omega))
        · exact .inr (.inr g)
      · rintro (g | g | g)
        · exact .inl (by omega)
        · exact .inl (by omega)
        · exact .inr g
    · rw [if_neg h, inR_cons, sweep_in l r.1 r.2 hr.1 (fun s hs => ⟨(hl s (by simp [hs])).1, ho'.1 s hs⟩) ho'.2 x]
theorem sweep_head (l : List (Int × Int)) : ∀ (a b : Int), ∃ c m, sweep a b l = (a, c) :: m := by
  induction l with
  | nil => exact fun a b => ⟨b, [], rfl⟩
  | cons r l ih =>
    intro a b
    rw [sweep]
    split
    · exact ih a _
    · exact ⟨b, _, rfl⟩
theorem sweep_sep : ∀ (l : List (Int × Int)) (a b : Int), a ≤ b → (∀ r ∈ l, r.1 ≤ r.2 ∧ a ≤ r.1) → Asc l → Sep (sweep a b l)
  | [], a, b, hab, hl, ho => hab
  | r :: l, a, b, hab, hl, ho => by
    have hr := hl r (by simp)
    have ho' := List.pairwise_cons.1 ho
    rw [sweep]
    by_cases h : r.1 ≤ b + 1
    · rw [if_pos h]
      exact sweep_sep l a (max b r.2) (by omega) (fun s hs => ⟨(hl s (by simp [hs])).1, (hl s (by simp [hs])).2⟩) ho'.2
    · rw [if_neg h]
      have i := sweep_sep l r.1 r.2 hr.1 (fun s hs => ⟨(hl s (by simp [hs])).1, ho'.1 s hs⟩) ho'.2
      obtain ⟨c, m, e⟩ := sweep_head l r.1 r.2
      rw [e] at i ⊢
      exact ⟨hab, by show b + 1 < r.1; omega, i⟩
/-- Do two ranges touch? -/
def touch (a b : Int) (r : Int × Int) : Bool := decide (r.1 ≤ b + 1) && decide (a ≤ r.2 + 1)
/-- A range that takes in those that it touches, one after the other; the others. -/
def absorb : Nat → Int → Int → List (Int × Int) → (Int × Int) × List (Int × Int)
  | 0, a, b, l => ((a, b), l)
  | n + 1, a, b, l => match l.findIdx? (touch a b) with
    | none => ((a, b), l)
    | some i => absorb n (min a (l.getD i (0, 0)).1) (max b (l.getD i (0, 0)).2) (l.eraseIdx i)
theorem inR_erase {l : List (Int × Int)} {i : Nat} (h : i < l.length) (x : Int) : inR l x ↔ ((l.getD i (0, 0)).1 ≤ x ∧ x ≤ (l.getD i (0, 0)).2) ∨ inR (l.eraseIdx i) x := by
  have e : l = l.take i ++ l[i] :: l.drop (i + 1) := by simp
  have hg : l.getD i (0, 0) = l[i] := by simp [List.getD_eq_getElem?_getD, h]
  rw [hg, List.eraseIdx_eq_take_drop_succ]
  unfold inR
  constructor
  · rintro ⟨r, hr, h2⟩
    rw [e] at hr
    rcases List.mem_append.1 hr with hr | hr
    · exact .inr ⟨r, by simp [hr], h2⟩
    · rcases List.mem_cons.1 hr with rfl | hr
      · exact .inl h2
      · exact .inr ⟨r, by simp [hr], h2⟩
  · rintro (h2 | ⟨r, hr, h2⟩)
    · exact ⟨l[i], List.getElem_mem h, h2⟩
    · rcases List.mem_append.1 hr with hr | hr
      · exact ⟨r, List.mem_of_mem_take hr, h2⟩
      · exact ⟨r, List.mem_of_mem_drop hr, h2⟩
theorem Sep.sub {l m : List (Int × Int)} (h : Sep l) (s : m.Sublist l) : Sep m := by
  induction s with
  | slnil => trivial
  | cons a s ih => exact ih h.tail
  | cons_cons a s ih => exact Sep.cons h.head (fun r hr => (h.above r (s.subset hr)).1) (ih h.tail)
theorem absorb_ok : ∀ (n : Nat) (a b : Int) (l : List (Int × Int)), l.length ≤ n → a ≤ b → Sep l →
    let o := absorb n a b l
    o.1.1 ≤ o.1.2 ∧ Sep o.2 ∧ (∀ x, inR (o.1 :: o.2) x ↔ (a ≤ x ∧ x ≤ b) ∨ inR l x) ∧ ∀ r ∈ o.2, touch o.1.1 o.1.2 r = false
  | 0, a, b, l, hn, hab, hl => by
    obtain rfl : l = [] := List.eq_nil_of_length_eq_zero (by omega)
    exact ⟨hab, trivial, fun x => inR_cons _ _ _, fun r hr => absurd hr (by simp [absorb])⟩
  | n + 1, a, b, l, hn, hab, hl => by
    simp only [absorb]
    cases hf : l.findIdx? (touch a b) with
    | none =>
      refine ⟨hab, hl, fun x => inR_cons _ _ _, fun r hr => ?_⟩
      have := List.findIdx?_eq_none_iff.1 hf r hr
      exact this
    | some i =>
      obtain ⟨hi, ht, _⟩ := List.findIdx?_eq_some_iff_getElem.1 hf
      have hg : l.getD i (0, 0) = l[i] := by simp [List.getD_eq_getElem?_getD, hi]
      have hs : Sep [l[i]] := hl.sub (by simp)
      have hle : l[i].1 ≤ l[i].2 := hs
      unfold touch at ht
      simp only [Bool.and_eq_true, decide_eq_true_eq] at ht
      have k := absorb_ok n (min a l[i].1) (max b l[i].2) (l.eraseIdx i) (by rw [List.length_eraseIdx_of_lt hi]; omega) (by omega) (hl.sub (List.eraseIdx_sublist ..))
      simp only [hg]
      refine ⟨k.1, k.2.1, fun x => (k.2.2.1 x).trans ?_, k.2.2.2⟩
      rw [inR_erase hi x, hg]
      constructor
      · rintro (g | g)
        · by_cases h1 : a ≤ x ∧ x ≤ b
          · exact .inl h1
          · exact .inr (.inl (by omega))
        · exact .inr (.inr g)
      · rintro (g | g | g)
        · exact .inl (by omega)
        · exact .inl (by omega)
        · exact .inr g
/-- A range put in its place. -/
def insertR (r : Int × Int) (l : List (Int × Int)) : List (Int × Int) := l.takeWhile (fun s => decide (s.1 < r.1)) ++ r :: l.dropWhile (fun s => decide (s.1 < r.1))
theorem insertR_in (r : Int × Int) (l : List (Int × Int)) (x : Int) : inR (insertR r l) x ↔ inR (r :: l) x := by
  have e : ∀ s, s ∈ insertR r l ↔ s ∈ r :: l := by
    intro s
    unfold insertR
    rw [List.mem_append, List.mem_cons, List.mem_cons]
    have := List.takeWhile_append_dropWhile (p := fun s : Int × Int => decide (s.1 < r.1)) (l := l)
    constructor
    · rintro (h | h | h)
      · exact .inr (by rw [← this]; exact List.mem_append.2 (.inl h))
      · exact .inl h
      · exact .inr (by rw [← this]; exact List.mem_append.2 (.inr h))
    · rintro (h | h)
      · exact .inr (.inl h)
      · rw [← this] at h
        rcases List.mem_append.1 h with h | h
        · exact .inl h
        · exact .inr (.inr h)
  unfold inR
  constructor
  · rintro ⟨s, hs, h⟩
    exact ⟨s, (e s).1 hs, h⟩
  · rintro ⟨s, hs, h⟩
    exact ⟨s, (e s).2 hs, h⟩
theorem insertR_sep : ∀ (l : List (Int × Int)) (r : Int × Int), r.1 ≤ r.2 → Sep l → (∀ s ∈ l, touch r.1 r.2 s = false) → Sep (insertR r l)
  | [], r, hr, hl, ht => hr
  | s :: l, r, hr, hl, ht => by
    have h0 := ht s (by simp)
    have hs := hl.head
    unfold touch at h0
    simp only [Bool.and_eq_false_iff, decide_eq_false_iff_not] at h0
    by_cases h : s.1 < r.1
    · have i := insertR_sep l r hr hl.tail (fun t h => ht t (by simp [h]))
      have e : insertR r (s :: l) = s :: insertR r l := by
        unfold insertR
        rw [List.takeWhile_cons_of_pos (by simpa using h), List.dropWhile_cons_of_pos (by simpa using h)]
        rfl
      rw [e]
      refine Sep.cons hs (fun t h => ?_) i
      unfold insertR at h
      rcases List.mem_append.1 h with h | h
      · exact (hl.above t (List.takeWhile_sublist _ |>.subset h)).1
      · rcases List.mem_cons.1 h with rfl | h
        · omega
        · exact (hl.above t (List.dropWhile_sublist _ |>.subset h)).1
    · have e : insertR r (s :: l) = r :: s :: l := by
        unfold insertR
        rw [List.takeWhile_cons_of_neg (by simpa using h), List.dropWhile_cons_of_neg (by simpa using h)]
        rfl
      rw [e]
      refine Sep.cons hr (fun t h2 => ?_) hl
      rcases List.mem_cons.1 h2 with rfl | h2
      · omega
      · have := (hl.above t h2).1
        omega
/-- The document's ranges. -/
def joinR (acc : List (Int × Int)) : List (Int × Int) → List (Int × Int)
  | [] => acc
  | r :: l => let o := absorb acc.length r.1 r.2 acc
    joinR (insertR o.1 o.2) l
theorem joinR_ok : ∀ (l acc : List (Int × Int)), Sep acc → (∀ r ∈ l, r.1 ≤ r.2) → Sep (joinR acc l) ∧ ∀ x, inR (joinR acc l) x ↔ inR acc x ∨ inR l x
  | [], acc, ha, hl => ⟨ha, fun x => ⟨.inl, fun h => h.elim id fun h => absurd h (inR_nil x)⟩⟩
  | r :: l, acc, ha, hl => by
    have k := absorb_ok acc.length r.1 r.2 acc (Nat.le_refl _) (hl r (by simp)) ha
    have s := insertR_sep _ _ k.1 k.2.1 k.2.2.2
    have i := joinR_ok l (insertR (absorb acc.length r.1 r.2 acc).1 (absorb acc.length r.1 r.2 acc).2) s (fun t h => hl t (by simp [h]))
    refine ⟨i.1, fun x => (i.2 x).trans ?_⟩
    rw [insertR_in, k.2.2.1 x, inR_cons]
    constructor
    · rintro ((h | h) | h)
      · exact .inr (.inl h)
      · exact .inl h
      · exact .inr (.inr h)
    · rintro (h | h | h)
      · exact .inl (.inr h)
      · exact .inl (.inl h)
      · exact .inr h
/-- A sweep of what is sorted is what the document joins. -/
def sweepL : List (Int × Int) → List (Int × Int)
  | [] => []
  | r :: l => sweep r.1 r.2 l
theorem sweepL_ok : ∀ (l : List (Int × Int)), (∀ r ∈ l, r.1 ≤ r.2) → Asc l → Sep (sweepL l) ∧ ∀ x, inR (sweepL l) x ↔ inR l x
  | [], h, ho => ⟨trivial, fun x => Iff.rfl⟩
  | r :: l, h, ho => by
    have ho' := List.pairwise_cons.1 ho
    have hl : ∀ s ∈ l, s.1 ≤ s.2 ∧ r.1 ≤ s.1 := fun s hs => ⟨h s (by simp [hs]), ho'.1 s hs⟩
    refine ⟨sweep_sep l r.1 r.2 (h r (by simp)) hl ho'.2, fun x => ?_⟩
    rw [sweepL, sweep_in l r.1 r.2 (h r (by simp)) hl ho'.2 x, inR_cons]
theorem sweep_join (l m : List (Int × Int)) (h : ∀ r ∈ l, r.1 ≤ r.2) (ho : Asc m) (hp : m.Perm l) : sweepL m = joinR [] l := by
  have a := sweepL_ok m (fun r hr => h r (hp.subset hr)) ho
  have b := joinR_ok l [] trivial h
  refine sep_unique _ _ a.1 b.1 fun x => ?_
  rw [a.2 x, b.2 x]
  constructor
  · rintro ⟨r, hr, g⟩
    exact .inr ⟨r, hp.subset hr, g⟩
  · rintro (g | ⟨r, hr, g⟩)
    · exact absurd g (inR_nil x)
    · exact ⟨r, hp.symm.subset hr, g⟩
end Go.Proofs.YtcgdjnmfeibnoaaDoor
/-! SixJn -/
namespace Go.Proofs.YtcgdjnmfeibnoaaDoor
open Go.RowKit Go.Lib Go.Sort Go.Proofs.YtcgdjnmfeibnoaaDoorW.PrintWords
set_option linter.unusedVariables false
set_option linter.unusedSimpArgs false
theorem flatZ_get : ∀ (zs : List Pz) (t : Nat), t < zs.length * 9 → (zs.flatMap zc)[t]? = some ((zc zs[t / 9]!)[t % 9]!)
  | [], t, h => absurd h (by simp)
  | x :: l, t, h => by
    rw [List.flatMap_cons]
    have hz : (zc x).length = 9 := rfl
    rcases Nat.lt_or_ge t 9 with h2 | h2
    · rw [List.getElem?_append_left (by omega), show t / 9 = 0 by omega, show t % 9 = t by omega]
      rw [List.getElem?_eq_getElem (by omega)]
      show some _ = some ((zc x)[t]!)
      rw [getElem!_pos (zc x) t (by omega)]
    · rw [List.getElem?_append_right (by omega), hz, flatZ_get l (t - 9) (by simp at h; omega)]
      have e1 : t / 9 = (t - 9) / 9 + 1 := by omega
      have e2 : t % 9 = (t - 9) % 9 := by omega
      rw [e1, e2]
      rfl
theorem holdsZ_own {w : World} {base : Nat} {e : TypeId} {v : Value} {n : Nat} {zs : List Pz} (h : w.ownsRow base e 9 v n (zs.flatMap zc)) (hv : v ≠ .slice none 0 0) :
    ∃ g cap, v = .slice (some ⟨g, 0, none⟩) n cap ∧ base ≤ g ∧ g < w.heap.size ∧ n ≤ cap ∧ zs.length = n ∧ HoldsK zc 9 w g 0 zs.toArray := by
  have hl : zs.length = n := by
    have := h.1
    rw [flatZ_len] at this
    omega
  rcases h.2 with ⟨e0, _⟩ | ⟨g, cap, cur, rfl, hb, hg, hn, hm, hs, ht⟩
  · exact absurd e0 hv
  · have hlt : g < w.heap.size := by
      rcases Nat.lt_or_ge g w.heap.size with h' | h'
      · exact h'
      · rw [Array.getElem?_eq_none h'] at hg; cases hg
    refine ⟨g, cap, rfl, hb, hlt, hn, hl, fun j hj => ?_⟩
    have hj' : j < n * 9 := by
      rw [size_flatK] at hj
      simpa [hl] using hj
    refine ⟨?_, by simp [World.frozen?, hg]⟩
    have e1 : (cur.toList.take (n * 9))[j]? = (zs.flatMap zc)[j]? := by rw [ht]
    rw [List.getElem?_take, if_pos (by omega), Array.getElem?_toList, flatZ_get zs j (by omega)] at e1
    rw [get_flatK _ _ _ _ (by simpa [hl] using hj')]
    simp only [World.cell?, hg, Nat.zero_add]
    simp only [Option.isSome_none, Bool.false_eq_true, if_false]
    rw [e1]
    simp
/-- By their first addresses. -/
def AscZ : List Pz → Prop := List.Pairwise fun x y => x.v ≤ y.v
theorem sortedZ_post {w w1 : World} {g n : Nat} {l : List Pz} {d' : Array Pz} {q : Nat} {os : Array Obj} (hB : Below w.heap.size w w1) (hg : w.heap.size ≤ g) (hlt : g < w1.heap.size) (hl : l.length = n) (hH : HoldsK zc 9 w1 g 0 l.toArray)
    (hp : PermIn 0 l.toArray.size l.toArray d') (hs : SortedIn (ltOf cmpZ) 0 l.toArray.size d') :
    RdZ (sortWorldK zc 9 w1 g 0 q d' os) (some ⟨g, 0, none⟩) d'.toList ∧ Below w.heap.size w (sortWorldK zc 9 w1 g 0 q d' os) ∧ d'.toList.Perm l ∧ AscZ d'.toList := by
  obtain ⟨p1, p2, p3⟩ := hp
  have hsz : d'.size = n := by simpa [hl] using p1
  have hK : HoldsK zc 9 (sortWorldK zc 9 w1 g 0 q d' os) g 0 d' := holdsK_sortWorldK zc 9 w1 g 0 q l.toArray d' os hlt hH (by simpa using p1)
  have hBz : Below w.heap.size w (sortWorldK zc 9 w1 g 0 q d' os) ∧ w1.heap.size ≤ (sortWorldK zc 9 w1 g 0 q d' os).heap.size := by
    have h1 := Lib.below_putRow (enc := id) (q := q) (d := flatK zc 9 d') hB hg
    have h2 := Lib.below_putRow (enc := id) (q := q) (d := flatK zc 9 d') (Below.refl 0 w1) (Nat.zero_le g)
    refine ⟨h1.trans ⟨rfl, rfl, rfl, ?_, fun k hk => ?_⟩, ?_⟩
    · show _ ≤ (_ ++ os).size
      rw [Array.size_append]
      exact Nat.le_add_right _ _
    · have hsz2 := h1.size
      exact Array.getElem?_append_left (Nat.lt_of_lt_of_le hk hsz2)
    · refine Nat.le_trans h2.size ?_
      show _ ≤ (_ ++ os).size
      rw [Array.size_append]
      exact Nat.le_add_right _ _
  refine ⟨fun k x hk => ?_, hBz.1, ?_, ?_⟩
  · have hjs : k < d'.size := by
      rcases Nat.lt_or_ge k d'.size with h | h
      · exact h
      · rw [List.getElem?_eq_none (by simpa using h)] at hk; cases hk
    have hp : x = d'[k]! := by
      rw [Array.getElem?_toList, Array.getElem?_eq_getElem hjs] at hk
      rw [getElem!_pos d' k hjs]
      exact (Option.some.inj hk).symm
    subst hp
    refine ⟨g, 0, rfl, Nat.lt_of_lt_of_le hlt hBz.2, fun j hj => ?_⟩
    have := hK.cell (i := k) (c := j) hjs hj
    rw [Nat.zero_add]
    rw [Nat.zero_add] at this
    rw [this.1, List.getElem?_eq_getElem (by show j < 9; exact hj), getElem!_pos (zc d'[k]!) j (by show j < 9; exact hj)]
  · rw [show d' = d'.extract 0 l.toArray.size by rw [← p1, Array.extract_size]]
    refine p3.trans ?_
    rw [Array.extract_size]
  · rw [AscZ, List.pairwise_iff_getElem]
    intro i j hi hj hij
    have hj2 : j < d'.size := by simpa using hj
    have h := hs i j (Nat.zero_le _) hij (by rw [← p1]; exact hj2)
    rw [cmpZ_lt, getElem!_pos d' j hj2, getElem!_pos d' i (by omega)] at h
    have := of_decide_eq_false h
    simp only [Array.getElem_toList]
    omega
theorem sortZ_walk (v : Value) (l : List Pz) (w0 w : World) (ho : w.ownsRow w0.heap.size 53 9 v l.length (zcs l)) (hn : l.length ≤ 1099511627776) (hB : Below w0.heap.size w0 w) :
    Calls Tryd.prog 54 #[v, .func (.func 55) #[] #[]] w fun e w' => e = .returned (.tuple #[]) ∧ ∃ (D : List Pz) (A : Option Addr) (c : Nat), v = .slice A l.length c ∧ l.length ≤ c ∧ RdZ w' A D ∧ Below w0.heap.size w0 w' ∧ D.Perm l ∧ AscZ D := by
  by_cases hv : v = .slice none 0 0
  · subst hv
    have hl : l = [] := by
      rcases ho.2 with ⟨_, h⟩ | ⟨g, cap, cur, e0, _⟩
      · exact List.eq_nil_of_length_eq_zero h
      · cases e0
    subst hl
    refine (c_sort_none 0 _ w).mono ?_
    rintro e w' ⟨rfl, rfl⟩
    exact ⟨rfl, [], none, 0, rfl, Nat.le_refl _, rdz_nil _ _, hB, List.Perm.refl _, List.Pairwise.nil⟩
  · obtain ⟨g, cap, rfl, hg, hlt, hc, hl, hH⟩ := holdsZ_own ho hv
    have hs := c_sort g 0 cap l.toArray w hH hlt (by simp; omega)
    rw [List.size_toArray] at hs
    refine hs.mono ?_
    rintro e w' ⟨rfl, d', q, os, hp, hso, rfl⟩
    obtain ⟨h1, h2, h3, h4⟩ := sortedZ_post (q := q) (os := os) hB hg hlt rfl hH (by rw [List.size_toArray]; exact hp) (by rw [List.size_toArray]; exact hso)
    exact ⟨rfl, d'.toList, _, cap, rfl, hc, h1, h2, h3, h4⟩
end Go.Proofs.YtcgdjnmfeibnoaaDoor
/-! SixJi -/
namespace Go.Proofs.YtcgdjnmfeibnoaaDoor
open Go.RowKit Go.Lib Go.Sort Go.Proofs.YtcgdjnmfeibnoaaDoorW.PrintWords
set_option linter.unusedVariables false
set_option linter.unusedSimpArgs false
/-- The place of the first that is no prefix; -1: all are. -/
def badZ (l : List Pz) : Int := Lib.idxBy (fun _ y => !isZ y) l default
theorem c_idxZ (A : Option Addr) (c : Nat) (l : List Pz) (w : World) (hr : RdZ w A l) (hn : l.length ≤ 9223372036854775807) :
    Calls Tryd.prog 50 #[.slice A l.length c, .func (.func 51) #[] #[]] w fun e w' => e = .returned (.int .i64 (badZ l)) ∧ Below w.heap.size w w' := by
  cases l with
  | nil =>
    refine (c_index_zero A c _ w).mono ?_
    rintro e w' ⟨rfl, rfl⟩
    exact ⟨rfl, Below.refl _ _⟩
  | cons y l =>
    obtain ⟨b, off, rfl, hb, _⟩ := hr 0 y rfl
    refine c_index b off c (y :: l) w hn hb ?_
    intro j hj i v hi
    obtain ⟨b', off', e, _, hc⟩ := hr j ((y :: l)[j]'hj) (List.getElem?_eq_getElem hj)
    obtain ⟨rfl, rfl⟩ : b = b' ∧ off = off' := by simpa using e
    rw [getElem!_pos _ j hj] at hi
    have hi9 : i < 9 := by
      have := (List.getElem?_eq_some_iff.1 hi).1
      simpa [zc] using this
    rw [Nat.add_assoc, hc i hi9, hi]
theorem rdz_flat {w : World} {b off : Nat} {l : List Pz} (hr : RdZ w (some ⟨b, off, none⟩) l) : ∀ j u, (l.flatMap zc)[j]? = some u → w.cell? ⟨b, off + j, none⟩ = some u := by
  intro j u hu
  have hj : j < l.length * 9 := by
    have := (List.getElem?_eq_some_iff.1 hu).1
    rwa [flatZ_len] at this
  have hk : j / 9 < l.length := by omega
  obtain ⟨b', off', e, _, hc⟩ := hr (j / 9) (l[j / 9]'hk) (List.getElem?_eq_getElem hk)
  obtain ⟨rfl, rfl⟩ : b = b' ∧ off = off' := by simpa using e
  have h := hc (j % 9) (by omega)
  rw [show j / 9 * 9 + j % 9 = j by omega] at h
  rw [h, ← hu, ← zcs_get l (j / 9) _ (List.getElem?_eq_getElem hk) (j % 9) (by omega), show j / 9 * 9 + j % 9 = j by omega]
  rfl
theorem pre_info9 : ∃ i0 : TypeInfo, Tryd.prog.info? 53 = some i0 ∧ i0.zero = some (.agg #[.int .u16 0, .int .u16 0, .int .u16 0, .int .u16 0, .int .u16 0, .int .u16 0, .int .u16 0, .int .u16 0, .int .i64 0]) ∧ i0.size = 9 ∧ i0.bytes = 24 := by
  have h : (Tryd.prog.info? 53).map (fun i => (i.zero, i.size, i.bytes)) = some (some (.agg #[.int .u16 0, .int .u16 0, .int .u16 0, .int .u16 0, .int .u16 0, .int .u16 0, .int .u16 0, .int .u16 0, .int .i64 0]), 9, 24) := by kernel_rfl
  cases hi : Tryd.prog.info? 53 with
  | none => rw [hi] at h; cases h
  | some i0 =>
    rw [hi] at h
    have h := Option.some.inj h
    exact ⟨i0, rfl, congrArg (·.1) h, congrArg (·.2.1) h, congrArg (·.2.2) h⟩
set_option maxHeartbeats 1000000 in
set_option maxRecDepth 100000 in
theorem cloneZ_empty (ad : Addr) (c : Nat) (w : World) :
    Calls Tryd.prog 53 #[.slice (some ad) 0 c] w fun e w' => ∃ v, e = .returned v ∧ w'.ownsRow w.heap.size 53 9 v 0 [] ∧ Below w.heap.size w w' := by
  obtain ⟨i0, hi0, hz0, hz1, hz2⟩ := pre_info9
  have q68 : ∀ (w : World) (a : Option Addr) (n c n' c' : Nat), (binOp .eql 25 (.slice a n c) (.slice none n' c')).run Tryd.prog w = .ok (.bool a.isNone) w := fun w a n c n' c' => Lib.run_eql_slice_nil w _ _ a n c n' c' Tryd.underlying25
  go_enter Tryd.func53, Tryd.ntmps53
  have B := Below.alloc (Below.refl w.heap.size w) (Nat.le_refl _) (.cells #[] 53)
  have B := Lib.hid B
  go_wp2_with fail
  go_returns
  exact ⟨_, rfl, World.ownsRow_made w #[] 0 (Nat.le_refl _) (by decide) (by simp), B.out⟩
theorem cloneZ_walk (A : Option Addr) (c : Nat) (l : List Pz) (w : World) (hr : RdZ w A l) (hn : l.length ≤ 1099511627776) :
    Calls Tryd.prog 53 #[.slice A l.length c] w fun e w' => ∃ v, e = .returned v ∧ w'.ownsRow w.heap.size 53 9 v l.length (zcs l) ∧ Below w.heap.size w w' := by
  cases l with
  | nil =>
    cases A with
    | none =>
      refine (c_clone_nil 0 c w).mono ?_
      rintro e w' ⟨rfl, rfl⟩
      exact ⟨_, rfl, ⟨by simp [zcs], .inl ⟨rfl, rfl⟩⟩, Below.refl _ _⟩
    | some ad => exact cloneZ_empty ad c w
  | cons y l =>
    obtain ⟨b, off, rfl, hb, _⟩ := hr 0 y rfl
    refine (c_clone b off c (y :: l) w hn (rdz_flat hr)).mono ?_
    rintro e w' ⟨v, rfl, ho, _, hb⟩
    exact ⟨v, rfl, ho, hb⟩
end Go.Proofs.YtcgdjnmfeibnoaaDoor
