/- What cover answers: the fewest prefixes, in a row of the call's own. -/
import Derived.Test.YtcgdjnmfeibnoaaDoorSixWide2
import Derived.Test.YtcgdjnmfeibnoaaDoorSixCoverV
import Derived.Test.YtcgdjnmfeibnoaaDoorApp
import Derived.Deep.LoopGhost
import Derived.Laws.OwnMore
import Derived.Deep.Onto
namespace Go.Proofs.YtcgdjnmfeibnoaaDoor
open Go.RowKit
set_option linter.unusedVariables false
set_option linter.unusedSimpArgs false

/-- The cells of a prefix. -/
def pcell (p : Int × Nat) : List Value := [.int .u16 (pc 0 p.1), .int .u16 (pc 1 p.1), .int .u16 (pc 2 p.1), .int .u16 (pc 3 p.1), .int .u16 (pc 4 p.1), .int .u16 (pc 5 p.1), .int .u16 (pc 6 p.1), .int .u16 (pc 7 p.1), .int .i64 p.2]
def pcells (l : List (Int × Nat)) : List Value := l.flatMap pcell
theorem pcells_len (l : List (Int × Nat)) : (pcells l).length = l.length * 9 := by
  induction l with
  | nil => rfl
  | cons p l ih =>
    show (pcell p ++ pcells l).length = _
    rw [List.length_append, ih]
    simp [pcell]
    omega
theorem pcells_snoc (l : List (Int × Nat)) (p : Int × Nat) : pcells (l ++ [p]) = pcells l ++ pcell p := by simp [pcells]

theorem pre_info : (Tryd.prog.info? 53).map (fun i => (i.zero, i.size, i.bytes)) = some (some (.agg #[.int .u16 0, .int .u16 0, .int .u16 0, .int .u16 0, .int .u16 0, .int .u16 0, .int .u16 0, .int .u16 0, .int .i64 0]), 9, 24) := by kernel_rfl

theorem n2_split {v : Int} : N2 (v / 18446744073709551616) (v % 18446744073709551616) = v := by unfold N2; omega
theorem wide_words {v : Int} (h : Wide v) : Word (v / 18446744073709551616) ∧ Word (v % 18446744073709551616) := by
  obtain ⟨_, _⟩ := h
  unfold Word; omega
theorem n2_halves {k m v : Int} (hm : Word m) (e : N2 k m = v) : k = v / 18446744073709551616 ∧ m = v % 18446744073709551616 := by
  obtain ⟨_, _⟩ := hm
  unfold N2 at e; omega
/-- A number as the program has it. -/
abbrev WV (v : Int) : Value := W2 (v / 18446744073709551616) (v % 18446744073709551616)

theorem last_wide {v : Int} {n : Nat} (hv : Wide v) (hn : n ≤ 128) (hz : v % 2 ^ (128 - n) = 0) : Wide (v + 2 ^ (128 - n) - 1) := by
  obtain ⟨v0, v1⟩ := hv
  have hp := pow_pos2 (128 - n)
  have e : (340282366920938463463374607431768211456 : Int) = 2 ^ (128 - n) * 2 ^ n := by
    rw [← pow_add2, show 128 - n + n = 128 from by omega]; rfl
  have e2 := Int.mul_ediv_add_emod v (2 ^ (128 - n))
  rw [hz, Int.add_zero] at e2
  have e3 : v / 2 ^ (128 - n) < 2 ^ n := by
    apply Int.lt_of_mul_lt_mul_left (a := 2 ^ (128 - n)) _ (Int.le_of_lt hp)
    rw [e2, ← e]; exact v1
  have e4 := Int.mul_le_mul_of_nonneg_left (show v / 2 ^ (128 - n) + 1 ≤ 2 ^ n by omega) (Int.le_of_lt hp)
  rw [Int.mul_add, e2, ← e, Int.mul_one] at e4
  exact ⟨by omega, by omega⟩
theorem wlast_at {v : Int} {n : Nat} (hv : Wide v) (hn : n ≤ 128) (hz : v % 2 ^ (128 - n) = 0) (w : World) :
    Calls Tryd.prog 58 #[WV v, .int .i64 n] w fun e w' => e = .returned (WV (v + 2 ^ (128 - n) - 1)) ∧ Below w.heap.size w w' := by
  obtain ⟨hh, hl⟩ := wide_words hv
  have e : (128 - (n : Int)).toNat = 128 - n := by omega
  refine (wlast_walk _ _ n hh hl (by omega) (by omega) (by rw [n2_split, e]; exact hz) w).mono ?_
  rintro e1 w' ⟨k, m, rfl, hk, hm, h, hb⟩
  rw [n2_split, e] at h
  obtain ⟨rfl, rfl⟩ := n2_halves hm h
  exact ⟨rfl, hb⟩
theorem less_at {v u : Int} (hv : Wide v) (hu : Wide u) (w : World) :
    Calls Tryd.prog 60 #[WV v, WV u] w fun e w' => e = .returned (.bool (decide (v < u))) ∧ Below w.heap.size w w' := by
  obtain ⟨hh, hl⟩ := wide_words hv
  obtain ⟨hk, hm⟩ := wide_words hu
  have h := less_walk _ _ _ _ hh hl hk hm w
  rw [n2_split, n2_split] at h
  exact h
theorem wsix_at {v : Int} (hv : Wide v) (w : World) :
    Calls Tryd.prog 64 #[WV v] w fun e w' => e = .returned (A8 (pc 0 v) (pc 1 v) (pc 2 v) (pc 3 v) (pc 4 v) (pc 5 v) (pc 6 v) (pc 7 v)) ∧ Below w.heap.size w w' := by
  obtain ⟨hh, hl⟩ := wide_words hv
  refine (wsix_walk _ _ hh hl w).mono ?_
  rintro e w' ⟨y0, y1, y2, y3, y4, y5, y6, y7, rfl, hr, h, hb⟩
  rw [n2_split] at h
  obtain ⟨rfl, rfl, rfl, rfl, rfl, rfl, rfl, rfl⟩ := pc_of hr h
  exact ⟨rfl, hb⟩
/-- What next answers of a number that is not the last. -/
theorem wnext_more {v : Int} (hv : Wide v) (h : v < 340282366920938463463374607431768211455) (w : World) :
    Calls Tryd.prog 59 #[WV v] w fun e w' => e = .returned (.tuple #[WV (v + 1), .bool true]) ∧ Below w.heap.size w w' := by
  obtain ⟨hh, hl⟩ := wide_words hv
  refine (wnext_walk _ _ hh hl w).mono ?_
  rintro e w' ⟨k, m, rfl, hk, hm, hn, hb⟩
  rw [n2_split] at hn
  obtain ⟨rfl, rfl⟩ := n2_halves hm (hn h)
  exact ⟨by rw [n2_split, decide_eq_true h], hb⟩
theorem wnext_none {v : Int} (hv : Wide v) (h : ¬ v < 340282366920938463463374607431768211455) (w : World) :
    Calls Tryd.prog 59 #[WV v] w fun e w' => (∃ k m : Int, e = .returned (.tuple #[W2 k m, .bool false])) ∧ Below w.heap.size w w' := by
  obtain ⟨hh, hl⟩ := wide_words hv
  refine (wnext_walk _ _ hh hl w).mono ?_
  rintro e w' ⟨k, m, rfl, hk, hm, hn, hb⟩
  exact ⟨⟨k, m, by rw [n2_split, decide_eq_false h]⟩, hb⟩
theorem wideOf_at (x0 x1 x2 x3 x4 x5 x6 x7 : Int) (h : R8 x0 x1 x2 x3 x4 x5 x6 x7) (w : World) :
    Calls Tryd.prog 39 #[A8 x0 x1 x2 x3 x4 x5 x6 x7] w fun e w' => e = .returned (WV (V8 x0 x1 x2 x3 x4 x5 x6 x7)) ∧ Below w.heap.size w w' := by
  refine (wideOf_walk _ _ _ _ _ _ _ _ h w).mono ?_
  rintro e w' ⟨rfl, hb⟩
  obtain ⟨e1, e2⟩ := n2_halves (q4_word h.h4 h.h5 h.h6 h.h7) (n2_v8 x0 x1 x2 x3 x4 x5 x6 x7)
  exact ⟨by rw [e1, e2], hb⟩
theorem zeros_at {v : Int} (hv : Wide v) (w : World) (hg : 0 < w.heap.size) (hT : Tab w) :
    Calls Tryd.prog 83 #[WV v] w fun e w' => ∃ z : Int, e = .returned (.int .i64 z) ∧ Zeros v z ∧ Below w.heap.size w w' := by
  obtain ⟨hh, hl⟩ := wide_words hv
  have h := zeros_walk _ _ hh hl w hg hT
  rw [n2_split] at h
  exact h

/-- Two cells: a number. -/
def CW (w : World) (b : Nat) (v : Int) : Prop := w.cell? ⟨b, 0, none⟩ = some (.int .u64 (v / 18446744073709551616)) ∧ w.cell? ⟨b, 1, none⟩ = some (.int .u64 (v % 18446744073709551616))
theorem CW.keep {w W : World} {b B : Nat} {v : Int} (h : CW w b v) (hb : b < B) (hB : Below B w W) : CW W b v :=
  ⟨(hB.cell (p := ⟨b, 0, none⟩) hb).trans h.1, (hB.cell (p := ⟨b, 1, none⟩) hb).trans h.2⟩

def sliceLen : Value → Nat
  | .slice _ n _ => n
  | _ => 0

theorem own_below {W W' : World} {base size n : Nat} {e : TypeId} {v : Value} {xs : List Value} (h : W.ownsRow base e size v n xs) (hb : Below W.heap.size W W') : W'.ownsRow base e size v n xs :=
  h.kept (row := none) ⟨hb.os, hb.tape, hb.output, hb.size, fun k hk _ => hb.block k hk⟩ (by cases hv : v.ownBlock <;> simp)
theorem own_set {W : World} {base size n : Nat} {e : TypeId} {v : Value} {xs : List Value} (h : W.ownsRow base e size v n xs) (a : Addr) (u : Value) (ha : a.block < base) : (W.setCell a u).ownsRow base e size v n xs :=
  h.kept (row := some a.block) ⟨rfl, rfl, rfl, by simp, fun k _ hk => Below.heap_setCell _ _ _ _ (by simpa using hk)⟩ (by
    cases hv : v.ownBlock with
    | none => exact Or.inl rfl
    | some k => exact Or.inr (by have := (h.lt k hv).1; simp; omega))

/-- What stands at the head of a round of the search for the widest prefix. -/
def KeepRel (w1 : World) (g t z : Int) (s : Value) (W : World) : Prop :=
  ∃ k : Nat, 128 - z ≤ k ∧ k ≤ 128 ∧ s = .int .i64 k ∧ (∀ j, j < k → ¬ OkKeep g t j) ∧ Below w1.heap.size w1 W
theorem zeros_ok {g t z : Int} (hz : Zeros g z) {j : Nat} (hj : (j : Int) < 128 - z) : ¬ OkKeep g t j := by
  intro h
  have h1 := mod_less (show (z + 1).toNat ≤ 128 - j by omega) h.1
  exact hz.more (by omega) h1
theorem zeros_mod {g z : Int} (hz : Zeros g z) {j : Nat} (hj : 128 - z ≤ (j : Int)) : g % 2 ^ (128 - j) = 0 := mod_less (show 128 - j ≤ z.toNat by omega) hz.zero

theorem own_len {W : World} {base size n : Nat} {e : TypeId} {v : Value} {xs : List Value} (h : W.ownsRow base e size v n xs) : sliceLen v = n := by
  rcases h.2 with ⟨rfl, rfl⟩ | ⟨g, cap, cur, rfl, _⟩ <;> rfl
/-- What is kept: the two numbers in their boxes, the row so far. -/
structure CB (w : World) (g t : Int) (s : Value) (done : List (Int × Nat)) (W : World) : Prop where
  c0 : CW W w.heap.size g
  c1 : CW W (w.heap.size + 1) t
  own : W.ownsRow (w.heap.size + 2) 53 9 s done.length (pcells done)
  below : Below w.heap.size w W
  size : w.heap.size + 2 ≤ W.heap.size
  z0 : W.frozen? ⟨w.heap.size, 0, none⟩ = false
  z1 : W.frozen? ⟨w.heap.size, 1, none⟩ = false
theorem CB.keep {w W W' : World} {g t : Int} {s : Value} {done : List (Int × Nat)} (h : CB w g t s done W) (hb : Below W.heap.size W W') : CB w g t s done W' :=
  ⟨h.c0.keep (by have := h.size; omega) hb, h.c1.keep (by have := h.size; omega) hb, own_below h.own hb, chain h.below hb, Nat.le_trans h.size hb.size,
    (hb.frozen (p := ⟨w.heap.size, 0, none⟩) (by have := h.size; simp; omega)).trans h.z0, (hb.frozen (p := ⟨w.heap.size, 1, none⟩) (by have := h.size; simp; omega)).trans h.z1⟩
theorem CB.moved {w W : World} {g g' t : Int} {s : Value} {done : List (Int × Nat)} (h : CB w g t s done W) {x y : Value} (h0 : W.cell? ⟨w.heap.size, 0, none⟩ = some x) (h1 : W.cell? ⟨w.heap.size, 1, none⟩ = some y) :
    CB w g' t s done ((W.setCell ⟨w.heap.size, 0, none⟩ (.int .u64 (g' / 18446744073709551616))).setCell ⟨w.heap.size, 1, none⟩ (.int .u64 (g' % 18446744073709551616))) := by
  refine ⟨⟨?_, ?_⟩, ⟨?_, ?_⟩, own_set (own_set h.own _ _ (by simp)) _ _ (by simp), (h.below.setCell (by simp) _).setCell (by simp) _, by simpa using h.size, by simpa using h.z0, by simpa using h.z1⟩
  · rw [World.cell?_setCell_other _ _ _ _ (by simp), World.cell?_setCell_same _ _ _ h0]
  · exact World.cell?_setCell_same (u := y) _ _ _ ((World.cell?_setCell_other _ _ _ _ (by simp)).trans h1)
  · rw [World.cell?_setCell_other _ _ _ _ (by simp), World.cell?_setCell_other _ _ _ _ (by simp)]; exact h.c1.1
  · rw [World.cell?_setCell_other _ _ _ _ (by simp), World.cell?_setCell_other _ _ _ _ (by simp)]; exact h.c1.2
/-- What stands at the head of a round of cover. -/
def CoverRel (w : World) (f t : Int) (s : Value) (W : World) : Prop :=
  ∃ (g : Int) (done : List (Int × Nat)), Wide g ∧ coverL f t = done ++ coverL g t ∧ g ≤ t ∧ Phase done.length g t ∧ CB w g t s done W

set_option maxHeartbeats 4000000 in
set_option maxRecDepth 100000 in
theorem cover_walk (f t : Int) (hf : Wide f) (ht : Wide t) (hft : f ≤ t) (w : World) (hg : 0 < w.heap.size) (hT : Tab w) :
    Calls Tryd.prog 38 #[WV f, WV t] w fun e w' => ∃ v, e = .returned v ∧ w'.ownsRow w.heap.size 53 9 v (coverL f t).length (pcells (coverL f t)) ∧ Below w.heap.size w w' := by
  obtain ⟨i0, hi, hz0, hz1, hz2⟩ := info_parts pre_info
  go_enter Tryd.func38, Tryd.ntmps38
  go_wp2_with fail
  go_loopw [5] (fun s W => CoverRel w f t s W) (fun s _ => 258 - sliceLen s)
  case atStart => exact ⟨f, [], hf, rfl, hft, Or.inl ⟨by simp, by simp⟩, ⟨⟨by go_simp, by go_simp⟩, ⟨by go_simp, by go_simp⟩, World.ownsRow_nil _ _ _ _, by go_grown, by go_size, by go_simp, by go_simp⟩⟩
  case round =>
    obtain ⟨g, done, hgw, hcov, hgt, hph, hcb⟩ := hrel
    have hT1 : Tab wr := hT.keep hg hcb.below
    have hg1 : 0 < wr.heap.size := Nat.lt_of_lt_of_le hg hcb.below.size
    have c00 := hcb.c0.1
    have c01 := hcb.c0.2
    have HCOV := Lib.hid hcov
    have HI := Lib.hid hi
    have HZ0 := Lib.hid hz0
    have HZ1 := Lib.hid hz1
    have HZ2 := Lib.hid hz2
    have HHT := Lib.hid hT
    have HSL := Lib.hid (own_len hcb.own)
    clear hcov hi hz0 hz1 hz2 hT
    go_wp2_with fail
    refine (zeros_at hgw _ hg1 hT1).mono ?_
    rintro e w1 ⟨z, rfl, hz, hb1⟩
    have z0 := hz.lo
    have z1 := hz.hi
    replace hcb := hcb.keep hb1
    clear hb1 c00 c01 hT1 hg1
    have c00 := hcb.c0.1
    have c01 := hcb.c0.2
    go_wp2_with fail
    obtain ⟨wo, ho⟩ : ∃ wo : World, wo = w1 := ⟨_, rfl⟩
    go_loopw [6] (fun s W => KeepRel w1 g t z s W) (fun s _ => 128 - (intOf s).toNat)
    case atStart => exact ⟨(128 - z).toNat, by omega, by omega, by rw [Int.toNat_of_nonneg (by omega)], fun j hj => zeros_ok hz (by omega), Below.refl _ _⟩
    case round =>
      obtain ⟨k, hk0, hk1, rfl, hl, hbk⟩ := hrel
      clear c00 c01 ho wo
      have hcb1 := hcb.keep hbk
      have c00 := hcb1.c0.1
      have c01 := hcb1.c0.2
      have c10 := hcb1.c1.1
      have c11 := hcb1.c1.2
      have l0 : w.heap.size < wr.heap.size := by have := hcb1.size; omega
      have l1 : w.heap.size + 1 < wr.heap.size := by have := hcb1.size; omega
      have hzk := zeros_mod hz hk0
      have hlw := last_wide hgw hk1 hzk
      have HZK := Lib.hid hzk
      clear hzk
      go_wp2_with fail
      refine wp_region_ext (by kernel_rfl) (by kernel_rfl) ?_
      repeat (go_big_quiet_step (first | (with_reducible exact ext_of (wlast_at hgw hk1 HZK.out _)) | (with_reducible exact ext_of (less_at ht hlw _))))
      refine wpQuiet_nil ?_
      rintro _ ⟨⟨w2, hb2⟩, rfl⟩
      have hcb2 := hcb1.keep hb2
      clear c00 c01 c10 c11 l0 l1
      by_cases hlt : t < g + 2 ^ (128 - k) - 1
      · rw [decide_eq_true hlt]
        have hk2 : k < 128 := by
          rcases Nat.lt_or_ge k 128 with c | c
          · exact c
          · obtain rfl : k = 128 := by omega
            rw [show (2 : Int) ^ (128 - 128) = 1 from by decide] at hlt
            omega
        have HL := Lib.hid hl
        have HLT := Lib.hid hlt
        clear hl hlt hlw
        go_wp2_with fail
        refine ⟨⟨k + 1, by omega, by omega, by simp, fun j hj => ?_, chain hbk hb2⟩, by simp [intOf]; omega⟩
        by_cases hjk : j = k
        · subst hjk
          intro ho
          have := ho.2
          have := HLT.out
          omega
        · exact HL.out j (by omega)
      · rw [decide_eq_false hlt]
        have hK : Keep g t k := ⟨hk1, ⟨HZK.out, by omega⟩, hl⟩
        have HK := Lib.hid hK
        have hnt : g + 2 ^ (128 - k) - 1 ≤ t := by omega
        clear hl hlt hK
        have c00 := hcb2.c0.1
        have c01 := hcb2.c0.2
        go_wp2_with fail
        refine (wsix_at hgw _).mono ?_
        rintro e w3 ⟨rfl, hb3⟩
        have hcb3 := hcb2.keep hb3
        clear c00 c01 hb2 hb3 hcb1 hbk hcb hcb2
        have hlen := hph.le
        have hown := hcb3.own
        have hsz := hcb3.size
        clear hlen
        have hn : done.length ≤ 257 := hph.le
        go_wp2_with (at_builtin; refine app_one rfl _ _ 25 rfl (w.heap.size + 2) 53 i0 (.agg #[.int .u16 0, .int .u16 0, .int .u16 0, .int .u16 0, .int .u16 0, .int .u16 0, .int .u16 0, .int .u16 0, .int .i64 0]) 9 24 Tryd.underlying25 HI.out HZ0.out HZ1.out HZ2.out rfl (by decide) _ _ _ rfl hown [.int .u16 (pc 0 g), .int .u16 (pc 1 g), .int .u16 (pc 2 g), .int .u16 (pc 3 g), .int .u16 (pc 4 g), .int .u16 (pc 5 g), .int .u16 (pc 6 g), .int .u16 (pc 7 g), .int .i64 k] rfl rfl (by simp [Value.oneCell']) (by unfold maxLen; omega) (by omega) hsz ?_; intro G cap w4 hG hown' hgrow hbel; have c00 := (hcb3.c0.keep (B := w.heap.size + 2) (by omega) (hbel _ _ (Nat.le_refl _) (Below.refl _ _))).1; have c01 := (hcb3.c0.keep (B := w.heap.size + 2) (by omega) (hbel _ _ (Nat.le_refl _) (Below.refl _ _))).2)
        have hcb4 : CB w g t (.slice (some ⟨G, 0, none⟩) (done.length + 1) cap) (done ++ [(g, k)]) w4 :=
          ⟨hcb3.c0.keep (B := w.heap.size + 2) (by omega) (hbel _ _ (Nat.le_refl _) (Below.refl _ _)), hcb3.c1.keep (B := w.heap.size + 2) (by omega) (hbel _ _ (Nat.le_refl _) (Below.refl _ _)), by rw [List.length_append, pcells_snoc]; exact hown', hbel _ _ (by omega) hcb3.below, Nat.le_trans hsz (by have := hgrow.size; simp only [World.size_alloc] at this; omega),
            ((hbel (w.heap.size + 2) w3 (Nat.le_refl _) (Below.refl _ _)).frozen (p := ⟨w.heap.size, 0, none⟩) (by simp)).trans hcb3.z0, ((hbel (w.heap.size + 2) w3 (Nat.le_refl _) (Below.refl _ _)).frozen (p := ⟨w.heap.size, 1, none⟩) (by simp)).trans hcb3.z1⟩
        clear hown' hgrow hbel hcb3 hown hsz
        refine (wlast_at hgw hk1 HZK.out _).mono ?_
        rintro e w5 ⟨rfl, hb5⟩
        have hcb5 := hcb4.keep hb5
        clear c00 c01 hb5 hcb4
        go_wp2_with fail
        by_cases hmax : g + 2 ^ (128 - k) - 1 < 340282366920938463463374607431768211455
        · refine (wnext_more hlw hmax _).mono ?_
          rintro e w6 ⟨rfl, hb6⟩
          rw [show g + 2 ^ (128 - k) - 1 + 1 = g + 2 ^ (128 - k) from by omega]
          have hcb6 := hcb5.keep hb6
          have hnw : Wide (g + 2 ^ (128 - k)) := ⟨by have := hlw.1; omega, by omega⟩
          have c10 := hcb6.c1.1
          have c11 := hcb6.c1.2
          have l0 : w.heap.size < w6.heap.size := by have := hcb6.size; omega
          have l1 : w.heap.size + 1 < w6.heap.size := by have := hcb6.size; omega
          clear hb6 hcb5
          go_wp2_with fail
          refine (less_at ht hnw _).mono ?_
          rintro e w7 ⟨rfl, hb7⟩
          have hal : Below w6.heap.size w6 (w6.alloc (.cells #[.int .u64 ((g + 2 ^ (128 - k)) / 18446744073709551616), .int .u64 ((g + 2 ^ (128 - k)) % 18446744073709551616)] 74)) := (Below.refl _ _).alloc (Nat.le_refl _) _
          have hcb7 := (hcb6.keep hal).keep hb7
          have n0 : w7.cell? ⟨w6.heap.size, 0, none⟩ = some (.int .u64 ((g + 2 ^ (128 - k)) / 18446744073709551616)) := (hb7.cell (p := ⟨w6.heap.size, 0, none⟩) (by simp only [World.size_alloc]; omega)).trans (by go_simp)
          have n1 : w7.cell? ⟨w6.heap.size, 1, none⟩ = some (.int .u64 ((g + 2 ^ (128 - k)) % 18446744073709551616)) := (hb7.cell (p := ⟨w6.heap.size, 1, none⟩) (by simp only [World.size_alloc]; omega)).trans (by go_simp)
          have m2 : w6.heap.size < w7.heap.size := Nat.lt_of_lt_of_le (by simp only [World.size_alloc]; omega) hb7.size
          clear hal hb7 c10 c11 l0 l1 hcb6
          have c00 := hcb7.c0.1
          have c01 := hcb7.c0.2
          have l0 : w.heap.size < w7.heap.size := by have := hcb7.size; omega
          have f0 := hcb7.z0
          have f1 := hcb7.z1
          by_cases hlt : t < g + 2 ^ (128 - k)
          · rw [decide_eq_true hlt]
            go_wp2_with fail
            go_returns
            rw [HCOV.out, coverL_last hgt HK.out (by omega)]
            exact ⟨_, rfl, World.ownsRow.mono hcb7.own (by omega), hcb7.below⟩
          · rw [decide_eq_false hlt]
            go_wp2_with fail
            refine ⟨⟨g + 2 ^ (128 - k), done ++ [(g, k)], hnw, ?_, by omega, ?_, ?_⟩, by rw [HSL.out]; show 258 - (done.length + 1) < _; omega⟩
            · rw [HCOV.out, coverL_more hgt HK.out (by omega)]
              simp
            · rw [List.length_append]
              exact hph.step hgw.1 ht.2 HK.out (by omega)
            · exact hcb7.moved c00 c01
        · refine (wnext_none hlw hmax _).mono ?_
          rintro e w6 ⟨⟨k', m', rfl⟩, hb6⟩
          have hcb6 := hcb5.keep hb6
          clear hb6 hcb5
          go_wp2_with fail
          go_returns
          rw [HCOV.out, coverL_last hgt HK.out (by have := ht.2; omega)]
          exact ⟨_, rfl, own_below (World.ownsRow.mono hcb6.own (by omega)) ((Below.refl _ _).alloc (Nat.le_refl _) _), hcb6.below.alloc (by have := hcb6.size; omega) _⟩
end Go.Proofs.YtcgdjnmfeibnoaaDoor
