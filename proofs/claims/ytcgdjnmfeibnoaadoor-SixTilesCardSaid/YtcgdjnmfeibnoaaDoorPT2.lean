/- Several texts in one (wip/gen/pack.py): SixJoin SixS8 SixBounds SixTilesV SixRefJoinB AppZ SixRefJoinZ SixJoins SixTiles Frame SixOpen SixOpenL. -/
import Derived.Test.YtcgdjnmfeibnoaaDoorPT1
import Derived.Test.YtcgdjnmfeibnoaaDoorPT0
import Derived.Lib.SlBy
import Derived.Deep.CutBlock
import Derived.Test.YtcgdjnmfeibnoaaDoorWWords
import Derived.OpenShut
import Derived.ProofKit
import Derived.Test.YtcgdjnmfeibnoaaDoorRows
/-! SixJoin -/
namespace Go.Proofs.YtcgdjnmfeibnoaaDoor
open Go.RowKit Go.Lib Go.Sort Go.Proofs.YtcgdjnmfeibnoaaDoorW.PrintWords
set_option linter.unusedVariables false
set_option linter.unusedSimpArgs false
/-- A prefix as a range. -/
def rngZ (x : Pz) : Int × Int := (x.v, x.v + 2 ^ (128 - x.n).toNat - 1)
/-- The prefixes of ranges. -/
def coverJ (acc : List (Int × Int)) : List (Int × Nat) := acc.flatMap fun r => coverL r.1 r.2
theorem coverJ_snoc (acc : List (Int × Int)) (a t : Int) : coverJ (acc ++ [(a, t)]) = coverJ acc ++ coverL a t := by simp [coverJ]
theorem coverL_few {f t : Int} (hf : Wide f) (ht : Wide t) (h : f ≤ t) : (coverL f t).length ≤ 258 := by
  have key : ∀ (n : Nat) (g : Int) (k : Nat), (t + 1 - g).toNat ≤ n → 0 ≤ g → g ≤ t → Phase k g t → k + (coverL g t).length ≤ 258 := by
    intro n
    induction n with
    | zero => intro g k hn h0 hg; omega
    | succ n ih =>
      intro g k hn h0 hg hp
      have hK := keepOf_keep hg
      have hp2 := pow_pos2 (128 - keepOf g t)
      by_cases hm : g + 2 ^ (128 - keepOf g t) ≤ t
      · rw [coverL_more hg hK hm, List.length_cons]
        have := ih _ (k + 1) (by omega) (by omega) hm (hp.step h0 ht.2 hK hm)
        omega
      · rw [coverL_last hg hK hm]
        have := hp.le
        simp
        omega
  have := key _ f 0 (Nat.le_refl _) hf.1 h (Or.inl ⟨by omega, by simp⟩)
  omega
theorem pcells_one (l : List (Int × Nat)) : ∀ q ∈ pcells l, q.oneCell' = true := by
  intro q hq
  obtain ⟨x, _, hx⟩ := List.mem_flatMap.1 hq
  simp [pcell] at hx
  rcases hx with rfl | rfl | rfl | rfl | rfl | rfl | rfl | rfl | rfl <;> rfl
theorem pcells_app (a b : List (Int × Nat)) : pcells (a ++ b) = pcells a ++ pcells b := by simp [pcells]
theorem own_set_ne {W : World} {base size n : Nat} {e : TypeId} {v : Value} {xs : List Value} (h : W.ownsRow base e size v n xs) (a : Addr) (u : Value) (ha : ∀ k, v.ownBlock = some k → k ≠ a.block) : (W.setCell a u).ownsRow base e size v n xs :=
  h.kept (row := some a.block) ⟨rfl, rfl, rfl, by simp, fun k _ hk => Below.heap_setCell _ _ _ _ (by simpa using hk)⟩ (by
    cases hv : v.ownBlock with
    | none => exact Or.inl rfl
    | some k => exact Or.inr (by have := ha k hv; simpa using this))
/-- A box that holds a number. -/
def WB (W : World) (b : Nat) (v : Int) : Prop := W.heap[b]? = some (.cells #[.int .u64 (v / 18446744073709551616), .int .u64 (v % 18446744073709551616)] 74 (0, 0))
/-- Every prefix is one, every number in range. -/
def okZ (D : List Pz) : Prop := ∀ x ∈ D, isZ x = true ∧ Wide x.a
/-- Where the loop over the sorted prefixes stands. -/
def JZ (w3 : World) (D : List Pz) (s v : Value) (W : World) : Prop := ∃ (i : Nat) (A : Option Addr) (c : Nat) (acc : List (Int × Int)), s = .slice A (D.length - i) c ∧ D.length - i ≤ c ∧ i ≤ D.length ∧ RdZ w3 A (D.drop i) ∧
  W.ownsRow w3.heap.size 53 9 v (coverJ acc).length (pcells (coverJ acc)) ∧ Below w3.heap.size w3 W ∧ sweepL (D.map rngZ) = acc ++ sweepL ((D.drop i).map rngZ) ∧ (coverJ acc).length ≤ 258 * i
/-- Where the inner loop stands: a range at hand. -/
structure IZ (w3 : World) (D : List Pz) (acc : List (Int × Int)) (a : Int) (bf bt : Nat) (v : Value) (j : Nat) (t : Int) (W : World) : Prop where
  wide : Wide t
  le : a ≤ t
  kf : WB W bf a
  kt : WB W bt t
  lt : bf < bt
  far : ∀ k, v.ownBlock = some k → k < bt
  own : W.ownsRow w3.heap.size 53 9 v (coverJ acc).length (pcells (coverJ acc))
  lo : w3.heap.size ≤ bf
  below : Below w3.heap.size w3 W
  sw : sweepL (D.map rngZ) = acc ++ sweep a t ((D.drop j).map rngZ)
/-- What is left of the sorted prefixes. -/
def CutS (w3 : World) (D : List Pz) (i : Nat) (s : Value) : Prop := ∃ (A : Option Addr) (c : Nat), s = .slice A (D.length - i) c ∧ D.length - i ≤ c ∧ RdZ w3 A (D.drop i)
theorem rdz_tail {W : World} {g o : Nat} {x : Pz} {l : List Pz} (h : RdZ W (some ⟨g, o, none⟩) (x :: l)) : RdZ W (some ⟨g, o + 9, none⟩) l := by
  intro k y hk
  obtain ⟨g', o', e, hg, hc⟩ := h (k + 1) y (by simpa using hk)
  obtain ⟨rfl, rfl⟩ : g = g' ∧ o = o' := by simpa using e
  refine ⟨g, o + 9, rfl, hg, fun j hj => ?_⟩
  rw [show o + 9 + (k * 9 + j) = o + ((k + 1) * 9 + j) by omega]
  exact hc j hj
theorem cutS_next {w3 : World} {D : List Pz} {i g o cs : Nat} (hi : i < D.length) (hcs : D.length - i ≤ cs) (h : RdZ w3 (some ⟨g, o, none⟩) (D.drop i)) : (cs = 1 → CutS w3 D (i + 1) (.slice (some ⟨g, o, none⟩) (D.length - i - 1) (cs - 1))) ∧ CutS w3 D (i + 1) (.slice (some ⟨g, o + 9, none⟩) (D.length - i - 1) (cs - 1)) := by
  constructor
  · intro h1
    refine ⟨_, _, by rw [Nat.sub_sub], by omega, ?_⟩
    rw [List.drop_of_length_le (by omega)]
    exact rdz_nil _ _
  · refine ⟨_, _, by rw [Nat.sub_sub], by omega, ?_⟩
    rw [List.drop_eq_getElem_cons hi] at h
    exact rdz_tail h
theorem IZ.keep {w3 : World} {D : List Pz} {acc : List (Int × Int)} {a : Int} {bf bt : Nat} {v : Value} {j : Nat} {t : Int} {W W' : World} (h : IZ w3 D acc a bf bt v j t W) (hb : Below W.heap.size W W') : IZ w3 D acc a bf bt v j t W' :=
  ⟨h.wide, h.le, blk_below h.kf hb, blk_below h.kt hb, h.lt, h.far, own_below h.own hb, h.lo, below_step h.below hb, h.sw⟩
theorem IZ.step {w3 : World} {D : List Pz} {acc : List (Int × Int)} {a : Int} {bf bt : Nat} {v : Value} {j : Nat} {t : Int} {W : World} {y : Pz} (h : IZ w3 D acc a bf bt v j t W) (hy : D[j]? = some y) (hle : (rngZ y).1 ≤ t + 1) : sweepL (D.map rngZ) = acc ++ sweep a (max t (rngZ y).2) ((D.drop (j + 1)).map rngZ) := by
  obtain ⟨hlt, e⟩ := List.getElem?_eq_some_iff.1 hy
  rw [h.sw, List.drop_eq_getElem_cons hlt, e, List.map_cons, sweep, if_pos hle]
theorem IZ.stay {w3 : World} {D : List Pz} {acc : List (Int × Int)} {a : Int} {bf bt : Nat} {v : Value} {j : Nat} {t : Int} {W : World} {y : Pz} (h : IZ w3 D acc a bf bt v j t W) (hy : D[j]? = some y) (hle : (rngZ y).1 ≤ t + 1) (hm : (rngZ y).2 ≤ t) : IZ w3 D acc a bf bt v (j + 1) t W :=
  ⟨h.wide, h.le, h.kf, h.kt, h.lt, h.far, h.own, h.lo, h.below, by rw [h.step hy hle, Int.max_eq_left hm]⟩
theorem IZ.move {w3 : World} {D : List Pz} {acc : List (Int × Int)} {a : Int} {bf bt : Nat} {v : Value} {j : Nat} {t : Int} {W : World} {y : Pz} (h : IZ w3 D acc a bf bt v j t W) (hy : D[j]? = some y) (hle : (rngZ y).1 ≤ t + 1) (hw : Wide (rngZ y).2) (hm : t < (rngZ y).2) :
    IZ w3 D acc a bf bt v (j + 1) (rngZ y).2 ((W.setCell ⟨bt, 0, none⟩ (.int .u64 ((rngZ y).2 / 18446744073709551616))).setCell ⟨bt, 1, none⟩ (.int .u64 ((rngZ y).2 % 18446744073709551616))) :=
  ⟨hw, by have := h.le; omega, blk_far (blk_far h.kf (Nat.ne_of_lt h.lt) _) (Nat.ne_of_lt h.lt) _, blk_put (blk_put h.kt 0 _ rfl) 1 _ rfl, h.lt, h.far,
    own_set_ne (own_set_ne h.own _ _ (fun k hk => Nat.ne_of_lt (h.far k hk))) _ _ (fun k hk => Nat.ne_of_lt (h.far k hk)), h.lo,
    (h.below.setCell (Nat.le_trans h.lo (Nat.le_of_lt h.lt)) _).setCell (Nat.le_trans h.lo (Nat.le_of_lt h.lt)) _, by rw [h.step hy hle, Int.max_eq_right (by omega)]⟩
theorem cutS_if {w3 : World} {D : List Pz} {i g o cs : Nat} (hi : i < D.length) (hcs : D.length - i ≤ cs) (h : RdZ w3 (some ⟨g, o, none⟩) (D.drop i)) : CutS w3 D (i + 1) (.slice (if cs = 1 then some ⟨g, o, none⟩ else some ⟨g, o + 9, none⟩) (D.length - i - 1) (cs - 1)) := by
  by_cases h1 : cs = 1
  · rw [if_pos h1]
    exact (cutS_next hi hcs h).1 h1
  · rw [if_neg h1]
    exact (cutS_next hi hcs h).2
theorem sweep_stop {a t : Int} : ∀ {L : List (Int × Int)}, (∀ r, L[0]? = some r → ¬ r.1 ≤ t + 1) → sweep a t L = (a, t) :: sweepL L
  | [], _ => rfl
  | r :: L, h => by
    rw [sweep, if_neg (h r rfl)]
    rfl
theorem exit_jz {w3 w4 : World} {D : List Pz} {acc : List (Int × Int)} {a t : Int} {i j cs : Nat} {As : Option Addr} {v4 : Value} (hij : i < j) (hj : j ≤ D.length) (hcs : D.length - j ≤ cs) (hR : RdZ w3 As (D.drop j))
    (hown : w4.ownsRow w3.heap.size 53 9 v4 ((coverJ acc).length + (coverL a t).length) (pcells (coverJ acc) ++ pcells (coverL a t))) (hB : Below w3.heap.size w3 w4)
    (hsw : sweepL (D.map rngZ) = acc ++ sweep a t ((D.drop j).map rngZ)) (hst : ∀ r, ((D.drop j).map rngZ)[0]? = some r → ¬ r.1 ≤ t + 1) (hl : (coverJ acc).length ≤ 258 * i) (hf : (coverL a t).length ≤ 258) :
    JZ w3 D (.slice As (D.length - j) cs) v4 w4 := by
  refine ⟨j, As, cs, acc ++ [(a, t)], rfl, hcs, hj, hR, ?_, hB, ?_, ?_⟩
  · rw [coverJ_snoc, List.length_append, pcells_app]
    exact hown
  · rw [hsw, sweep_stop hst, List.append_assoc]
    rfl
  · rw [coverJ_snoc, List.length_append]
    omega
theorem rngZ_ok {x : Pz} (h : isZ x = true) (hw : Wide x.a) : 0 ≤ x.n ∧ x.n ≤ 128 ∧ x.v = x.a ∧ x.a % 2 ^ (128 - x.n.toNat) = 0 ∧ (rngZ x).2 = x.a + 2 ^ (128 - x.n.toNat) - 1 := by
  have hv := Pz.v_wide hw
  unfold isZ isPre at h
  have h := of_decide_eq_true h
  rw [hv] at h
  unfold tailOf at h
  have e : (128 - x.n).toNat = 128 - x.n.toNat := by omega
  rw [e] at h
  refine ⟨h.1, h.2.1, hv, h.2.2, ?_⟩
  unfold rngZ
  rw [hv, e]
/-- The last address of a prefix, put in a box. -/
def LB (W2 : World) (t : Int) (s : Value) (W : World) : Prop := ∃ b, s = .pointer (some ⟨b, 0, none⟩) ∧ WB W b t ∧ Below W2.heap.size W2 W ∧ W2.heap.size ≤ b
theorem wlast_z {x : Pz} (h : isZ x = true) (hw : Wide x.a) (w : World) : Calls Tryd.prog 58 #[WV x.a, .int .i64 x.n] w fun e w' => e = .returned (WV (rngZ x).2) ∧ Below w.heap.size w w' := by
  obtain ⟨h0, h1, h2, h3, h4⟩ := rngZ_ok h hw
  have := wlast_at (n := x.n.toNat) hw (by omega) h3 w
  rw [show ((x.n.toNat : Nat) : Int) = x.n by omega] at this
  rw [h4]
  exact this
theorem wide_z {x : Pz} (h : isZ x = true) (hw : Wide x.a) : Wide (rngZ x).2 ∧ x.a ≤ (rngZ x).2 := by
  obtain ⟨h0, h1, h2, h3, h4⟩ := rngZ_ok h hw
  have := last_wide (n := x.n.toNat) hw (by omega) h3
  have hp := pow_pos2 (128 - x.n.toNat)
  rw [h4]
  exact ⟨this, by omega⟩
set_option maxHeartbeats 4000000 in
set_option maxRecDepth 100000 in
theorem joinZ_walk (A : Option Addr) (c : Nat) (l : List Pz) (w : World) (hr : RdZ w A l) (hn : l.length ≤ 1048576) (hb : badZ l = -1) (hok : okZ l) (hT : Tab w) (hg : 0 < w.heap.size) :
    Calls Tryd.prog 19 #[.slice A l.length c] w fun e w' => ∃ v, e = .returned (.tuple #[v, .int .i64 0, .int .i64 0]) ∧ w'.ownsRow w.heap.size 53 9 v (coverJ (joinR [] (l.map rngZ))).length (pcells (coverJ (joinR [] (l.map rngZ)))) ∧ Below w.heap.size w w' := by
  obtain ⟨i0, hi0, hz0, hz1, hz2⟩ := pre_info9
  have HI0 := Lib.hid hi0
  have HZ0 := Lib.hid hz0
  have HZ1 := Lib.hid hz1
  have HZ2 := Lib.hid hz2
  clear hi0 hz0 hz1 hz2
  have HI := c_idxZ A c l w hr (by omega)
  rw [hb] at HI
  have HI := Lib.hid HI
  have HR := Lib.hid hr
  have HT := Lib.hid hT
  clear hr hT hb
  go_enter Tryd.func19, Tryd.ntmps19
  go_wp2_with fail
  refine HI.out.mono ?_
  rintro e w1 ⟨rfl, hb⟩
  clear HI
  have B := Lib.hid hb
  clear hb
  go_wp2_with fail
  refine (cloneZ_walk A c l _ (HR.out.keep B.out) (by omega)).mono ?_
  rintro e w2 ⟨v, rfl, hR, hb⟩
  have hR := Lib.hid (World.ownsRow.mono hR B.out.size)
  have B := Lib.hid (below_step B.out hb)
  clear hb
  go_wp2_with fail
  refine (sortZ_walk v l w w2 hR.out (by omega) B.out).mono ?_
  rintro e w3 ⟨rfl, D, A', c', rfl, hcc, hC, hb, hp, ha⟩
  clear hR
  have B := Lib.hid hb
  have HD := Lib.hid (And.intro hC (And.intro hp ha))
  clear hb hC hp ha
  go_wp2_with fail
  have hDl : D.length = l.length := HD.out.2.1.length_eq
  have hokD : okZ D := fun x hx => hok x (HD.out.2.1.subset hx)
  have HOK := Lib.hid hokD
  clear hok hokD
  rw [← hDl]
  rw [← hDl] at hn hcc
  have HDL := Lib.hid hDl
  clear hDl
  go_loopw [6, 7] (fun s v W => JZ w3 D s v W) (fun s _ _ => sliceLen s)
  case atStart => exact ⟨0, A', c', [], by simp, by simpa using hcc, Nat.zero_le _, by simpa using HD.out.1, ⟨by simp [coverJ, pcells], .inl ⟨rfl, rfl⟩⟩, Below.refl _ _, rfl, by simp [coverJ]⟩
  case round =>
    obtain ⟨i, As, cs, acc, rfl, hcs, hi, hRd, hown, hB, hsw, hlen⟩ := hrel
    have HRd := Lib.hid hRd
    have HO := Lib.hid hown
    have HBW := Lib.hid hB
    have HSW := Lib.hid hsw
    clear hRd hown hB hsw
    by_cases hlt : i < D.length
    · obtain ⟨x, hx⟩ : ∃ x, D[i]? = some x := ⟨D[i], List.getElem?_eq_getElem hlt⟩
      have hx0 : (D.drop i)[0]? = some x := by rw [List.getElem?_drop]; exact hx
      obtain ⟨g, o, rfl, hg0, hc⟩ := (HRd.out.keep HBW.out) 0 x hx0
      have c0 := (hc 0 (by decide)).trans (show (zc x)[0]? = some (.int .u16 (pc 0 x.a)) from rfl)
      have c1 := (hc 1 (by decide)).trans (show (zc x)[1]? = some (.int .u16 (pc 1 x.a)) from rfl)
      have c2 := (hc 2 (by decide)).trans (show (zc x)[2]? = some (.int .u16 (pc 2 x.a)) from rfl)
      have c3 := (hc 3 (by decide)).trans (show (zc x)[3]? = some (.int .u16 (pc 3 x.a)) from rfl)
      have c4 := (hc 4 (by decide)).trans (show (zc x)[4]? = some (.int .u16 (pc 4 x.a)) from rfl)
      have c5 := (hc 5 (by decide)).trans (show (zc x)[5]? = some (.int .u16 (pc 5 x.a)) from rfl)
      have c6 := (hc 6 (by decide)).trans (show (zc x)[6]? = some (.int .u16 (pc 6 x.a)) from rfl)
      have c7 := (hc 7 (by decide)).trans (show (zc x)[7]? = some (.int .u16 (pc 7 x.a)) from rfl)
      have c8 := (hc 8 (by decide)).trans (show (zc x)[8]? = some (.int .i64 x.n) from rfl)
      simp only [Nat.zero_mul, Nat.zero_add, Nat.add_zero] at c0 c1 c2 c3 c4 c5 c6 c7 c8
      clear hc
      have hxD : x ∈ D := List.mem_of_getElem? hx
      have HX := Lib.hid (And.intro hx (HOK.out x hxD))
      clear hx hx0 hxD
      have hpos : 0 < D.length - i := by omega
      have hW := wideOf_at _ _ _ _ _ _ _ _ (pc_r8 x.a)
      rw [pc_v8 HX.out.2.2] at hW
      have HWO := Lib.hid hW
      clear hW
      go_wp2_with fail
      refine (HWO.out _).mono ?_
      rintro e W1 ⟨rfl, hb1⟩
      have HB1 := Lib.hid (below_step HBW.out hb1)
      have hg3 : g < w3.heap.size := (HRd.out 0 x (by rw [List.getElem?_drop]; exact HX.out.1)).elim fun g' h => h.elim fun o' h => by
        have e : g = g' ∧ o = o' := by simpa using h.1
        rw [e.1]
        exact h.2.1
      have c8 := (hb1.cell (p := ⟨g, o + 8, none⟩) hg0).trans c8
      have hO := Lib.hid (own_below HO.out hb1)
      clear hb1 hg0 c0 c1 c2 c3 c4 c5 c6 c7 HO
      have hgW1 : g < W1.heap.size := Nat.lt_of_lt_of_le hg3 HB1.out.size
      go_wp2_with fail
      have hWf : WB (W1.alloc (.cells #[.int .u64 (x.a / 18446744073709551616), .int .u64 (x.a % 18446744073709551616)] 74)) W1.heap.size x.a := blk_new _ _
      have HB2 := Lib.hid (HB1.out.alloc HB1.out.size (.cells #[.int .u64 (x.a / 18446744073709551616), .int .u64 (x.a % 18446744073709551616)] 74))
      have hO := Lib.hid (own_below hO.out ((Below.refl _ _).alloc (Nat.le_refl _) (.cells #[.int .u64 (x.a / 18446744073709551616), .int .u64 (x.a % 18446744073709551616)] 74)))
      have c8 : (W1.alloc (.cells #[.int .u64 (x.a / 18446744073709551616), .int .u64 (x.a % 18446744073709551616)] 74)).cell? ⟨g, o + 8, none⟩ = some (.int .i64 x.n) := (((Below.refl _ _).alloc (Nat.le_refl _) _ : Below W1.heap.size W1 (W1.alloc (.cells #[.int .u64 (x.a / 18446744073709551616), .int .u64 (x.a % 18446744073709551616)] 74))).cell (p := ⟨g, o + 8, none⟩) hgW1).trans c8
      have hW1l : w3.heap.size ≤ W1.heap.size := HB1.out.size
      generalize W1.heap.size = bf at *
      generalize W1.alloc (.cells #[.int .u64 (x.a / 18446744073709551616), .int .u64 (x.a % 18446744073709551616)] 74) = W2 at *
      have q0 := (blk_cell hWf 0).trans (show _ = some (Value.int .u64 (x.a / 18446744073709551616)) from rfl)
      have q1 := (blk_cell hWf 1).trans (show _ = some (Value.int .u64 (x.a % 18446744073709551616)) from rfl)
      have hlf := blk_lt hWf
      have hgW2 : g < W2.heap.size := Nat.lt_of_lt_of_le hg3 HB2.out.size
      have HWf := Lib.hid hWf
      have HLA := Lib.hid (wlast_z HX.out.2.1 HX.out.2.2)
      obtain ⟨t0, et0⟩ : ∃ t, t = (rngZ x).2 := ⟨_, rfl⟩
      rw [← et0] at HLA
      have ET0 := Lib.hid et0
      clear hWf et0 hgW1
      have nb1 : bf ≠ W2.heap.size := Nat.ne_of_lt hlf
      have nb2 : g ≠ W2.heap.size := Nat.ne_of_lt hgW2
      have nb3 : W2.heap.size ≠ bf := (Nat.ne_of_lt hlf).symm
      have nb4 : W2.heap.size ≠ g := (Nat.ne_of_lt hgW2).symm
      go_cut [9] (fun s W => LB W2 t0 s W)
      case first =>
        go_region_held3 (fun w' => w'.cell? ⟨bf, 0, none⟩ = some (.int .u64 (x.a / 18446744073709551616)) ∧ w'.cell? ⟨bf, 1, none⟩ = some (.int .u64 (x.a % 18446744073709551616)) ∧ w'.cell? ⟨g, o + 8, none⟩ = some (.int .i64 x.n))
          (first | go_keep | (refine ⟨?_, ?_, ?_⟩ <;> assumption) | (refine ⟨?_, ?_, ?_⟩ <;> (rw [World.cell?_setCell_other _ _ _ _ (by simp; omega), World.cell?_setCell_other _ _ _ _ (by simp; omega)]; assumption)))
          (first
          | (go_at_call 58
             refine (HLA.out _).mono ?_
             rintro e w5 ⟨rfl, hb5⟩
             have HB5 : Below W2.heap.size W2 w5 := by first | exact hb5 | exact below_step ((Below.refl _ _).alloc (Nat.le_refl _) _) hb5 | exact below_step (bdn (Below.refl _ _) 1) hb5 | exact below_step (bdn ((Below.refl _ _).alloc (Nat.le_refl _) _) 1) hb5
             have d0 := (HB5.cell (p := ⟨bf, 0, none⟩) hlf).trans q0
             have d1 := (HB5.cell (p := ⟨bf, 1, none⟩) hlf).trans q1
             have d2 := (HB5.cell (p := ⟨g, o + 8, none⟩) hgW2).trans c8
             have hl5 : W2.heap.size ≤ w5.heap.size := HB5.size
             have hl6 : bf < w5.heap.size := Nat.lt_of_lt_of_le hlf HB5.size
             have hl7 : g < w5.heap.size := Nat.lt_of_lt_of_le hgW2 HB5.size
             have hz0 : w5.heap[W2.heap.size]? = some (.cells #[.int .u64 0, .int .u64 0] 74 (0, 0)) := by first | exact blk_below (blk_new _ _) hb5 | exact blk_below (blk_drew (blk_new _ _)) hb5
             have z0 := (blk_cell hz0 0).trans (show _ = some (Value.int .u64 0) from rfl)
             have z1 := (blk_cell hz0 1).trans (show _ = some (Value.int .u64 0) from rfl)
             have f0 := blk_frozen hz0 0
             have f1 := blk_frozen hz0 1
             have hzl := blk_lt hz0)
          | (go_at_call 58
             refine (HLA.out _).mono ?_
             rintro e w5 ⟨rfl, hb5⟩
             have HB5 : Below W2.heap.size W2 w5 := by first | exact hb5 | exact below_step (bdn (Below.refl _ _) 1) hb5
             have d0 := (HB5.cell (p := ⟨bf, 0, none⟩) hlf).trans q0
             have d1 := (HB5.cell (p := ⟨bf, 1, none⟩) hlf).trans q1
             have d2 := (HB5.cell (p := ⟨g, o + 8, none⟩) hgW2).trans c8
             have hl5 : W2.heap.size ≤ w5.heap.size := HB5.size
             have hl6 : bf < w5.heap.size := Nat.lt_of_lt_of_le hlf HB5.size
             have hl7 : g < w5.heap.size := Nat.lt_of_lt_of_le hgW2 HB5.size))
        all_goals go_wp2_with fail
        all_goals go_meet
        · exact ⟨_, rfl, blk_new _ _, HB5.alloc HB5.size _, HB5.size⟩
        · exact ⟨_, rfl, blk_put (blk_put hz0 0 _ rfl) 1 _ rfl, (HB5.setCell (Nat.le_refl _) _).setCell (Nat.le_refl _) _, Nat.le_refl _⟩
      case rest =>
        obtain ⟨bt, rfl, hWt, hbt, hlt2⟩ := hcut
        have HB3 := Lib.hid (below_step HB2.out hbt)
        have HFAR := Lib.hid (fun (k : Nat) (hk : u7.ownBlock = some k) => Nat.lt_of_lt_of_le (hO.out.lt k hk).2 hlt2)
        have hO := Lib.hid (own_below hO.out hbt)
        have HWf := Lib.hid (show WB wc bf x.a from blk_below HWf.out hbt)
        have HWt := Lib.hid hWt
        have HLB := Lib.hid (And.intro hlf hlt2)
        clear hbt hWt c8 q0 q1 hlf hgW2 nb1 nb2 nb3 nb4 hlt2
        have hcs1 : 1 ≤ cs := by omega
        have hm1 : 1 ≤ D.length - i := by omega
        go_upto_region 10 with fail
        go_cut [6] (fun s W => W = wc ∧ CutS w3 D (i + 1) s)
        case first =>
          go_wp2_with fail
          all_goals go_meet
          · rename_i h
            have h2 := (cutS_next hlt hcs HRd.out).1 h
            rw [h] at h2
            exact ⟨rfl, h2⟩
          · exact ⟨rfl, (cutS_next hlt hcs HRd.out).2⟩
        case rest =>
          obtain ⟨rfl, hS⟩ := hcut
          have hfst := wide_z HX.out.2.1 HX.out.2.2
          rw [← ET0.out] at hfst
          have hstart : IZ w3 D acc x.a bf bt u7 (i + 1) t0 wc := by
            refine ⟨hfst.1, hfst.2, HWf.out, HWt.out, Nat.lt_of_lt_of_le HLB.out.1 HLB.out.2, fun k hk => ?_, hO.out, hW1l, HB3.out, ?_⟩
            · exact HFAR.out k hk
            · rw [HSW.out, List.drop_eq_getElem_cons hlt, List.map_cons]
              have e : D[i] = x := (List.getElem?_eq_some_iff.1 HX.out.1).2
              rw [e]
              show acc ++ sweep (rngZ x).1 (rngZ x).2 _ = _
              rw [← ET0.out, show (rngZ x).1 = x.a from (rngZ_ok HX.out.2.1 HX.out.2.2).2.2.1]
          have HST := Lib.hid (And.intro hS hstart)
          clear hS hstart hfst hO HWf HWt HB3 HLB
          go_wp2_with fail
          go_loopw [6] (fun s W => ∃ j t, i < j ∧ j ≤ D.length ∧ CutS w3 D j s ∧ IZ w3 D acc x.a bf bt u7 j t W) (fun s _ => sliceLen s)
          case atStart => exact ⟨i + 1, t0, by omega, by omega, HST.out.1, HST.out.2⟩
          case round =>
            obtain ⟨j, t, hij, hj, ⟨As', cs', rfl, hcs', hRd'⟩, hZ⟩ := hrel
            have HZ := Lib.hid hZ
            have HRj := Lib.hid hRd'
            clear hZ hRd'
            by_cases hjl : j < D.length
            · obtain ⟨y, hy⟩ : ∃ y, D[j]? = some y := ⟨D[j], List.getElem?_eq_getElem hjl⟩
              have hy0 : (D.drop j)[0]? = some y := by rw [List.getElem?_drop]; exact hy
              obtain ⟨g', o', rfl, hg', hc⟩ := HRj.out 0 y hy0
              have hc : ∀ k, k < 9 → wr.cell? ⟨g', o' + (0 * 9 + k), none⟩ = (zc y)[k]? := fun k hk => (HZ.out.below.cell (p := ⟨g', o' + (0 * 9 + k), none⟩) hg').trans (hc k hk)
              have c0 := (hc 0 (by decide)).trans (show (zc y)[0]? = some (.int .u16 (pc 0 y.a)) from rfl)
              have c1 := (hc 1 (by decide)).trans (show (zc y)[1]? = some (.int .u16 (pc 1 y.a)) from rfl)
              have c2 := (hc 2 (by decide)).trans (show (zc y)[2]? = some (.int .u16 (pc 2 y.a)) from rfl)
              have c3 := (hc 3 (by decide)).trans (show (zc y)[3]? = some (.int .u16 (pc 3 y.a)) from rfl)
              have c4 := (hc 4 (by decide)).trans (show (zc y)[4]? = some (.int .u16 (pc 4 y.a)) from rfl)
              have c5 := (hc 5 (by decide)).trans (show (zc y)[5]? = some (.int .u16 (pc 5 y.a)) from rfl)
              have c6 := (hc 6 (by decide)).trans (show (zc y)[6]? = some (.int .u16 (pc 6 y.a)) from rfl)
              have c7 := (hc 7 (by decide)).trans (show (zc y)[7]? = some (.int .u16 (pc 7 y.a)) from rfl)
              have c8 := (hc 8 (by decide)).trans (show (zc y)[8]? = some (.int .i64 y.n) from rfl)
              simp only [Nat.zero_mul, Nat.zero_add, Nat.add_zero] at c0 c1 c2 c3 c4 c5 c6 c7 c8
              clear hc
              have HY := Lib.hid (And.intro hy (HOK.out y (List.mem_of_getElem? hy)))
              clear hy hy0
              have hposj : 0 < D.length - j := by omega
              have t0 := (blk_cell HZ.out.kt 0).trans (show _ = some (Value.int .u64 (t / 18446744073709551616)) from rfl)
              have t1 := (blk_cell HZ.out.kt 1).trans (show _ = some (Value.int .u64 (t % 18446744073709551616)) from rfl)
              have hlt1 := blk_lt HZ.out.kt
              have hWy := wideOf_at _ _ _ _ _ _ _ _ (pc_r8 y.a)
              rw [pc_v8 HY.out.2.2] at hWy
              have HWY := Lib.hid hWy
              clear hWy
              by_cases hmx : t < 340282366920938463463374607431768211455
              · have HNX := Lib.hid (wnext_more HZ.out.wide hmx)
                go_wp2_with fail
                refine (HNX.out _).mono ?_
                rintro e V1 ⟨rfl, hv1⟩
                have hgr : g' < wr.heap.size := Nat.lt_of_lt_of_le hg' HZ.out.below.size
                have c0 := (hv1.cell (p := ⟨g', o', none⟩) hgr).trans c0
                have c1 := (hv1.cell (p := ⟨g', o' + 1, none⟩) hgr).trans c1
                have c2 := (hv1.cell (p := ⟨g', o' + 2, none⟩) hgr).trans c2
                have c3 := (hv1.cell (p := ⟨g', o' + 3, none⟩) hgr).trans c3
                have c4 := (hv1.cell (p := ⟨g', o' + 4, none⟩) hgr).trans c4
                have c5 := (hv1.cell (p := ⟨g', o' + 5, none⟩) hgr).trans c5
                have c6 := (hv1.cell (p := ⟨g', o' + 6, none⟩) hgr).trans c6
                have c7 := (hv1.cell (p := ⟨g', o' + 7, none⟩) hgr).trans c7
                have c8 := (hv1.cell (p := ⟨g', o' + 8, none⟩) hgr).trans c8
                have Z1 := Lib.hid ((HZ.out.keep hv1).keep ((Below.refl _ _).alloc (Nat.le_refl _) (.cells #[.int .u64 ((t + 1) / 18446744073709551616), .int .u64 ((t + 1) % 18446744073709551616)] 74)))
                have hgr1 := Nat.lt_of_lt_of_le hgr hv1.size
                clear t0 t1 hlt1 hv1 hgr HNX
                go_wp2_with fail
                have hn1 : WB (V1.alloc (.cells #[.int .u64 ((t + 1) / 18446744073709551616), .int .u64 ((t + 1) % 18446744073709551616)] 74)) V1.heap.size (t + 1) := blk_new _ _
                refine (HWY.out _).mono ?_
                rintro e V2 ⟨rfl, hv2⟩
                have c8 := (hv2.cell (p := ⟨g', o' + 8, none⟩) (Nat.lt_of_lt_of_le hgr1 (by simp))).trans ((((Below.refl _ _).alloc (Nat.le_refl _) (.cells #[.int .u64 ((t + 1) / 18446744073709551616), .int .u64 ((t + 1) % 18446744073709551616)] 74) : Below V1.heap.size V1 (V1.alloc (.cells #[.int .u64 ((t + 1) / 18446744073709551616), .int .u64 ((t + 1) % 18446744073709551616)] 74))).cell (p := ⟨g', o' + 8, none⟩) hgr1).trans c8)
                have Z2 := Lib.hid ((Z1.out.keep hv2).keep ((Below.refl _ _).alloc (Nat.le_refl _) (.cells #[.int .u64 (y.a / 18446744073709551616), .int .u64 (y.a % 18446744073709551616)] 74)))
                have hn2 : WB (V2.alloc (.cells #[.int .u64 (y.a / 18446744073709551616), .int .u64 (y.a % 18446744073709551616)] 74)) V1.heap.size (t + 1) := blk_alloc (blk_below hn1 hv2) _
                have hy2 : WB (V2.alloc (.cells #[.int .u64 (y.a / 18446744073709551616), .int .u64 (y.a % 18446744073709551616)] 74)) V2.heap.size y.a := blk_new _ _
                have hgr2 : g' < V2.heap.size := Nat.lt_of_lt_of_le (Nat.lt_of_lt_of_le hgr1 (by simp)) hv2.size
                have c8 := (((Below.refl _ _).alloc (Nat.le_refl _) (.cells #[.int .u64 (y.a / 18446744073709551616), .int .u64 (y.a % 18446744073709551616)] 74) : Below V2.heap.size V2 (V2.alloc (.cells #[.int .u64 (y.a / 18446744073709551616), .int .u64 (y.a % 18446744073709551616)] 74))).cell (p := ⟨g', o' + 8, none⟩) hgr2).trans c8
                have hgr3 : g' < (V2.alloc (.cells #[.int .u64 (y.a / 18446744073709551616), .int .u64 (y.a % 18446744073709551616)] 74)).heap.size := Nat.lt_of_lt_of_le hgr2 (by simp)
                clear c0 c1 c2 c3 c4 c5 c6 c7 hv2 Z1 hn1 hgr1 hgr2
                go_upto_region 14 with fail
                generalize V1.heap.size = b1 at *
                generalize V2.heap.size = b2 at *
                generalize V2.alloc (.cells #[.int .u64 (y.a / 18446744073709551616), .int .u64 (y.a % 18446744073709551616)] 74) = V3 at *
                have n0 := (blk_cell hn2 0).trans (show _ = some (Value.int .u64 ((t + 1) / 18446744073709551616)) from rfl)
                have n1 := (blk_cell hn2 1).trans (show _ = some (Value.int .u64 ((t + 1) % 18446744073709551616)) from rfl)
                have y0 := (blk_cell hy2 0).trans (show _ = some (Value.int .u64 (y.a / 18446744073709551616)) from rfl)
                have y1 := (blk_cell hy2 1).trans (show _ = some (Value.int .u64 (y.a % 18446744073709551616)) from rfl)
                have hb1l := blk_lt hn2
                have hb2l := blk_lt hy2
                have HY2 := Lib.hid hy2
                clear hn2 hy2
                have hw1 : Wide (t + 1) := ⟨by have := Z2.out.wide.1; omega, by omega⟩
                have HLS := Lib.hid (less_at hw1 HY.out.2.2)
                clear hw1
                by_cases hbr : t + 1 < y.a
                · rw [decide_eq_true hbr] at HLS
                  go_wp2_with fail
                  refine (HLS.out _).mono ?_
                  rintro e V4 ⟨rfl, hv4⟩
                  have Z4 := Lib.hid (Z2.out.keep hv4)
                  clear n0 n1 y0 y1 hb1l hb2l hv4 Z2 c8 hgr3
                  have t0 := (blk_cell Z4.out.kt 0).trans (show _ = some (Value.int .u64 (t / 18446744073709551616)) from rfl)
                  have t1 := (blk_cell Z4.out.kt 1).trans (show _ = some (Value.int .u64 (t % 18446744073709551616)) from rfl)
                  have r0 := (blk_cell Z4.out.kf 0).trans (show _ = some (Value.int .u64 (x.a / 18446744073709551616)) from rfl)
                  have r1 := (blk_cell Z4.out.kf 1).trans (show _ = some (Value.int .u64 (x.a % 18446744073709551616)) from rfl)
                  have hlt1 := blk_lt Z4.out.kt
                  have hlf1 := blk_lt Z4.out.kf
                  go_wp2_with fail
                  have hBw := below_step B.out Z4.out.below
                  refine (cover_walk x.a t HX.out.2.2 Z4.out.wide Z4.out.le _ (Nat.lt_of_lt_of_le hg hBw.size) (HT.out.keep (B := w.heap.size) hg hBw)).mono ?_
                  rintro e V5 ⟨u, rfl, hou, hbv⟩
                  have hfew := coverL_few HX.out.2.2 Z4.out.wide Z4.out.le
                  have hB4 := below_step Z4.out.below hbv
                  clear t0 t1 r0 r1 hlt1 hlf1 hBw
                  go_wp2_with (at_builtin; refine app_row rfl (.tmp 70) (.tmp 73) 25 rfl w3.heap.size 53 i0 (.agg #[.int .u16 0, .int .u16 0, .int .u16 0, .int .u16 0, .int .u16 0, .int .u16 0, .int .u16 0, .int .u16 0, .int .i64 0]) 9 24 Tryd.underlying25 HI0.out HZ0.out HZ1.out HZ2.out rfl (by decide) u7 (coverJ acc).length (pcells (coverJ acc)) rfl (own_below Z4.out.own hbv) u V4.heap.size (coverL x.a t).length (pcells (coverL x.a t)) rfl hou (pcells_one _) (by unfold maxLen; omega) (by omega) hB4.size ?_; intro v4 w4 hown4 hbel4)
                  refine ⟨exit_jz hij hj hcs' HRj.out hown4 (hbel4 _ _ (Nat.le_refl _) hB4) Z4.out.sw (fun r hr => ?_) hlen hfew, ?_⟩
                  · rw [List.getElem?_map, List.getElem?_drop, Nat.add_zero, HY.out.1] at hr
                    obtain rfl := Option.some.inj hr
                    rw [show (rngZ y).1 = y.a from (rngZ_ok HY.out.2.1 HY.out.2.2).2.2.1]
                    omega
                  · show D.length - j < D.length - i
                    omega
                · rw [decide_eq_false hbr] at HLS
                  go_wp2_with fail
                  refine (HLS.out _).mono ?_
                  rintro e V4 ⟨rfl, hv4⟩
                  have Z4 := Lib.hid (Z2.out.keep hv4)
                  have hy4 : WB V4 b2 y.a := blk_below HY2.out hv4
                  have c8 := (hv4.cell (p := ⟨g', o' + 8, none⟩) hgr3).trans c8
                  have hgr4 : g' < V4.heap.size := Nat.lt_of_lt_of_le hgr3 hv4.size
                  clear n0 n1 y0 y1 hb1l hb2l hv4 Z2 hgr3
                  have y0 := (blk_cell hy4 0).trans (show _ = some (Value.int .u64 (y.a / 18446744073709551616)) from rfl)
                  have y1 := (blk_cell hy4 1).trans (show _ = some (Value.int .u64 (y.a % 18446744073709551616)) from rfl)
                  have hb2l := blk_lt hy4
                  have HLY := Lib.hid (wlast_z HY.out.2.1 HY.out.2.2)
                  obtain ⟨ty, ety⟩ : ∃ t, t = (rngZ y).2 := ⟨_, rfl⟩
                  rw [← ety] at HLY
                  have ETY := Lib.hid ety
                  clear ety hy4
                  go_upto_region 15 with fail
                  have mb1 : b2 ≠ V4.heap.size := Nat.ne_of_lt hb2l
                  have mb2 : g' ≠ V4.heap.size := Nat.ne_of_lt hgr4
                  have mb3 : V4.heap.size ≠ b2 := (Nat.ne_of_lt hb2l).symm
                  have mb4 : V4.heap.size ≠ g' := (Nat.ne_of_lt hgr4).symm
                  go_cut [13] (fun s W => LB V4 ty s W)
                  case first =>
                    go_region_held3 (fun w' => w'.cell? ⟨b2, 0, none⟩ = some (.int .u64 (y.a / 18446744073709551616)) ∧ w'.cell? ⟨b2, 1, none⟩ = some (.int .u64 (y.a % 18446744073709551616)) ∧ w'.cell? ⟨g', o' + 8, none⟩ = some (.int .i64 y.n))
                      (first | go_keep | (refine ⟨?_, ?_, ?_⟩ <;> assumption) | (refine ⟨?_, ?_, ?_⟩ <;> (rw [World.cell?_setCell_other _ _ _ _ (by simp; omega), World.cell?_setCell_other _ _ _ _ (by simp; omega)]; assumption)))
                      (first
                      | (go_at_call 58
                         refine (HLY.out _).mono ?_
                         rintro e w5 ⟨rfl, hb5⟩
                         have HB5 : Below V4.heap.size V4 w5 := by first | exact hb5 | exact below_step ((Below.refl _ _).alloc (Nat.le_refl _) _) hb5 | exact below_step (bdn (Below.refl _ _) 1) hb5 | exact below_step (bdn ((Below.refl _ _).alloc (Nat.le_refl _) _) 1) hb5
                         have d0 := (HB5.cell (p := ⟨b2, 0, none⟩) hb2l).trans y0
                         have d1 := (HB5.cell (p := ⟨b2, 1, none⟩) hb2l).trans y1
                         have d2 := (HB5.cell (p := ⟨g', o' + 8, none⟩) hgr4).trans c8
                         have hl5 : V4.heap.size ≤ w5.heap.size := HB5.size
                         have hl6 : b2 < w5.heap.size := Nat.lt_of_lt_of_le hb2l HB5.size
                         have hl7 : g' < w5.heap.size := Nat.lt_of_lt_of_le hgr4 HB5.size
                         have hz0 : w5.heap[V4.heap.size]? = some (.cells #[.int .u64 0, .int .u64 0] 74 (0, 0)) := by first | exact blk_below (blk_new _ _) hb5 | exact blk_below (blk_drew (blk_new _ _)) hb5
                         have z0 := (blk_cell hz0 0).trans (show _ = some (Value.int .u64 0) from rfl)
                         have z1 := (blk_cell hz0 1).trans (show _ = some (Value.int .u64 0) from rfl)
                         have f0 := blk_frozen hz0 0
                         have f1 := blk_frozen hz0 1
                         have hzl := blk_lt hz0)
                      | (go_at_call 58
                         refine (HLY.out _).mono ?_
                         rintro e w5 ⟨rfl, hb5⟩
                         have HB5 : Below V4.heap.size V4 w5 := by first | exact hb5 | exact below_step (bdn (Below.refl _ _) 1) hb5
                         have d0 := (HB5.cell (p := ⟨b2, 0, none⟩) hb2l).trans y0
                         have d1 := (HB5.cell (p := ⟨b2, 1, none⟩) hb2l).trans y1
                         have d2 := (HB5.cell (p := ⟨g', o' + 8, none⟩) hgr4).trans c8
                         have hl5 : V4.heap.size ≤ w5.heap.size := HB5.size
                         have hl6 : b2 < w5.heap.size := Nat.lt_of_lt_of_le hb2l HB5.size
                         have hl7 : g' < w5.heap.size := Nat.lt_of_lt_of_le hgr4 HB5.size))
                    all_goals go_wp2_with fail
                    all_goals go_meet
                    · exact ⟨_, rfl, blk_new _ _, HB5.alloc HB5.size _, HB5.size⟩
                    · exact ⟨_, rfl, blk_put (blk_put hz0 0 _ rfl) 1 _ rfl, (HB5.setCell (Nat.le_refl _) _).setCell (Nat.le_refl _) _, Nat.le_refl _⟩
                  case rest =>
                    obtain ⟨bl, rfl, hWl, hbl, hll⟩ := hcut
                    have Z5 := Lib.hid (Z4.out.keep hbl)
                    have HLT5 := Lib.hid (Nat.lt_of_lt_of_le (blk_lt Z4.out.kt) hll)
                    have k0 := (blk_cell Z5.out.kt 0).trans (show _ = some (Value.int .u64 (t / 18446744073709551616)) from rfl)
                    have k1 := (blk_cell Z5.out.kt 1).trans (show _ = some (Value.int .u64 (t % 18446744073709551616)) from rfl)
                    have l0 := (blk_cell hWl 0).trans (show _ = some (Value.int .u64 (ty / 18446744073709551616)) from rfl)
                    have l1 := (blk_cell hWl 1).trans (show _ = some (Value.int .u64 (ty % 18446744073709551616)) from rfl)
                    have hkl := blk_lt Z5.out.kt
                    have hll2 := blk_lt hWl
                    have HWL := Lib.hid hWl
                    have hwy := wide_z HY.out.2.1 HY.out.2.2
                    rw [← ETY.out] at hwy
                    have HLS2 := Lib.hid (less_at Z5.out.wide hwy.1)
                    have hle1 : (rngZ y).1 ≤ t + 1 := by
                      rw [show (rngZ y).1 = y.a from (rngZ_ok HY.out.2.1 HY.out.2.2).2.2.1]
                      omega
                    have HLE1 := Lib.hid hle1
                    have HWY2 := Lib.hid hwy.1
                    clear hWl hbl hll y0 y1 c8 hgr4 hb2l mb1 mb2 mb3 mb4 hwy hle1 Z4
                    by_cases hty : t < ty
                    · rw [decide_eq_true hty] at HLS2
                      go_wp2_with fail
                      refine (HLS2.out _).mono ?_
                      rintro e V6 ⟨rfl, hv6⟩
                      have Z6 := Lib.hid (Z5.out.keep hv6)
                      have hWl6 := blk_below HWL.out hv6
                      clear k0 k1 l0 l1 hkl hll2 hv6 Z5
                      have k0 := (blk_cell Z6.out.kt 0).trans (show _ = some (Value.int .u64 (t / 18446744073709551616)) from rfl)
                      have k1 := (blk_cell Z6.out.kt 1).trans (show _ = some (Value.int .u64 (t % 18446744073709551616)) from rfl)
                      have f0 := blk_frozen Z6.out.kt 0
                      have f1 := blk_frozen Z6.out.kt 1
                      have l0 := (blk_cell hWl6 0).trans (show _ = some (Value.int .u64 (ty / 18446744073709551616)) from rfl)
                      have l1 := (blk_cell hWl6 1).trans (show _ = some (Value.int .u64 (ty % 18446744073709551616)) from rfl)
                      have hkl := blk_lt Z6.out.kt
                      have hll2 := blk_lt hWl6
                      clear hWl6
                      have Z7 := Z6.out.move HY.out.1 HLE1.out (by rw [← ETY.out]; exact HWY2.out) (by rw [← ETY.out]; exact hty)
                      rw [← ETY.out] at Z7
                      have Z7 := Lib.hid Z7
                      have hcs1' : 1 ≤ cs' := by omega
                      have hm1' : 1 ≤ D.length - j := by omega
                      go_wp2_with fail
                      exact ⟨⟨j + 1, ty, by omega, by omega, cutS_if hjl hcs' HRj.out, Z7.out⟩, by show D.length - j - 1 < D.length - j; omega⟩
                    · rw [decide_eq_false hty] at HLS2
                      go_wp2_with fail
                      refine (HLS2.out _).mono ?_
                      rintro e V6 ⟨rfl, hv6⟩
                      have Z6 := Lib.hid (Z5.out.keep hv6)
                      clear k0 k1 l0 l1 hkl hll2 hv6 Z5
                      have Z7 := Lib.hid (Z6.out.stay HY.out.1 HLE1.out (by rw [← ETY.out]; omega))
                      have hcs1' : 1 ≤ cs' := by omega
                      have hm1' : 1 ≤ D.length - j := by omega
                      go_wp2_with fail
                      exact ⟨⟨j + 1, t, by omega, by omega, cutS_if hjl hcs' HRj.out, Z7.out⟩, by show D.length - j - 1 < D.length - j; omega⟩
              · have HNX := Lib.hid (wnext_none HZ.out.wide hmx)
                go_wp2_with fail
                refine (HNX.out _).mono ?_
                rintro e V1 ⟨⟨k1, k2, rfl⟩, hv1⟩
                have hgr : g' < wr.heap.size := Nat.lt_of_lt_of_le hg' HZ.out.below.size
                have c0 := (hv1.cell (p := ⟨g', o', none⟩) hgr).trans c0
                have c1 := (hv1.cell (p := ⟨g', o' + 1, none⟩) hgr).trans c1
                have c2 := (hv1.cell (p := ⟨g', o' + 2, none⟩) hgr).trans c2
                have c3 := (hv1.cell (p := ⟨g', o' + 3, none⟩) hgr).trans c3
                have c4 := (hv1.cell (p := ⟨g', o' + 4, none⟩) hgr).trans c4
                have c5 := (hv1.cell (p := ⟨g', o' + 5, none⟩) hgr).trans c5
                have c6 := (hv1.cell (p := ⟨g', o' + 6, none⟩) hgr).trans c6
                have c7 := (hv1.cell (p := ⟨g', o' + 7, none⟩) hgr).trans c7
                have c8 := (hv1.cell (p := ⟨g', o' + 8, none⟩) hgr).trans c8
                have Z1 := Lib.hid ((HZ.out.keep hv1).keep ((Below.refl _ _).alloc (Nat.le_refl _) (.cells #[.int .u64 k1, .int .u64 k2] 74)))
                have hgr1 := Nat.lt_of_lt_of_le hgr hv1.size
                clear t0 t1 hlt1 hv1 hgr HNX
                go_wp2_with fail
                refine (HWY.out _).mono ?_
                rintro e V2 ⟨rfl, hv2⟩
                have c8 := (hv2.cell (p := ⟨g', o' + 8, none⟩) (Nat.lt_of_lt_of_le hgr1 (by simp))).trans ((((Below.refl _ _).alloc (Nat.le_refl _) (.cells #[.int .u64 k1, .int .u64 k2] 74) : Below V1.heap.size V1 (V1.alloc (.cells #[.int .u64 k1, .int .u64 k2] 74))).cell (p := ⟨g', o' + 8, none⟩) hgr1).trans c8)
                have Z4 := Lib.hid ((Z1.out.keep hv2).keep ((Below.refl _ _).alloc (Nat.le_refl _) (.cells #[.int .u64 (y.a / 18446744073709551616), .int .u64 (y.a % 18446744073709551616)] 74)))
                have hy4 : WB (V2.alloc (.cells #[.int .u64 (y.a / 18446744073709551616), .int .u64 (y.a % 18446744073709551616)] 74)) V2.heap.size y.a := blk_new _ _
                have hgr2 : g' < V2.heap.size := Nat.lt_of_lt_of_le (Nat.lt_of_lt_of_le hgr1 (by simp)) hv2.size
                have c8 := (((Below.refl _ _).alloc (Nat.le_refl _) (.cells #[.int .u64 (y.a / 18446744073709551616), .int .u64 (y.a % 18446744073709551616)] 74) : Below V2.heap.size V2 (V2.alloc (.cells #[.int .u64 (y.a / 18446744073709551616), .int .u64 (y.a % 18446744073709551616)] 74))).cell (p := ⟨g', o' + 8, none⟩) hgr2).trans c8
                have hgr4 : g' < (V2.alloc (.cells #[.int .u64 (y.a / 18446744073709551616), .int .u64 (y.a % 18446744073709551616)] 74)).heap.size := Nat.lt_of_lt_of_le hgr2 (by simp)
                have hbr : y.a ≤ t + 1 := by have := HY.out.2.2.2; omega
                clear c0 c1 c2 c3 c4 c5 c6 c7 hv2 Z1 hgr1 hgr2
                go_upto_region 14 with fail
                generalize V1.heap.size = b1 at *
                generalize V2.heap.size = b2 at *
                generalize V2.alloc (.cells #[.int .u64 (y.a / 18446744073709551616), .int .u64 (y.a % 18446744073709551616)] 74) = V4 at *
                have y0 := (blk_cell hy4 0).trans (show _ = some (Value.int .u64 (y.a / 18446744073709551616)) from rfl)
                have y1 := (blk_cell hy4 1).trans (show _ = some (Value.int .u64 (y.a % 18446744073709551616)) from rfl)
                have hb2l := blk_lt hy4
                have HLY := Lib.hid (wlast_z HY.out.2.1 HY.out.2.2)
                obtain ⟨ty, ety⟩ : ∃ t, t = (rngZ y).2 := ⟨_, rfl⟩
                rw [← ety] at HLY
                have ETY := Lib.hid ety
                clear ety hy4
                go_upto_region 15 with fail
                have mb1 : b2 ≠ V4.heap.size := Nat.ne_of_lt hb2l
                have mb2 : g' ≠ V4.heap.size := Nat.ne_of_lt hgr4
                have mb3 : V4.heap.size ≠ b2 := (Nat.ne_of_lt hb2l).symm
                have mb4 : V4.heap.size ≠ g' := (Nat.ne_of_lt hgr4).symm
                go_cut [13] (fun s W => LB V4 ty s W)
                case first =>
                  go_region_held3 (fun w' => w'.cell? ⟨b2, 0, none⟩ = some (.int .u64 (y.a / 18446744073709551616)) ∧ w'.cell? ⟨b2, 1, none⟩ = some (.int .u64 (y.a % 18446744073709551616)) ∧ w'.cell? ⟨g', o' + 8, none⟩ = some (.int .i64 y.n))
                    (first | go_keep | (refine ⟨?_, ?_, ?_⟩ <;> assumption) | (refine ⟨?_, ?_, ?_⟩ <;> (rw [World.cell?_setCell_other _ _ _ _ (by simp; omega), World.cell?_setCell_other _ _ _ _ (by simp; omega)]; assumption)))
                    (first
                    | (go_at_call 58
                       refine (HLY.out _).mono ?_
                       rintro e w5 ⟨rfl, hb5⟩
                       have HB5 : Below V4.heap.size V4 w5 := by first | exact hb5 | exact below_step ((Below.refl _ _).alloc (Nat.le_refl _) _) hb5 | exact below_step (bdn (Below.refl _ _) 1) hb5 | exact below_step (bdn ((Below.refl _ _).alloc (Nat.le_refl _) _) 1) hb5
                       have d0 := (HB5.cell (p := ⟨b2, 0, none⟩) hb2l).trans y0
                       have d1 := (HB5.cell (p := ⟨b2, 1, none⟩) hb2l).trans y1
                       have d2 := (HB5.cell (p := ⟨g', o' + 8, none⟩) hgr4).trans c8
                       have hl5 : V4.heap.size ≤ w5.heap.size := HB5.size
                       have hl6 : b2 < w5.heap.size := Nat.lt_of_lt_of_le hb2l HB5.size
                       have hl7 : g' < w5.heap.size := Nat.lt_of_lt_of_le hgr4 HB5.size
                       have hz0 : w5.heap[V4.heap.size]? = some (.cells #[.int .u64 0, .int .u64 0] 74 (0, 0)) := by first | exact blk_below (blk_new _ _) hb5 | exact blk_below (blk_drew (blk_new _ _)) hb5
                       have z0 := (blk_cell hz0 0).trans (show _ = some (Value.int .u64 0) from rfl)
                       have z1 := (blk_cell hz0 1).trans (show _ = some (Value.int .u64 0) from rfl)
                       have f0 := blk_frozen hz0 0
                       have f1 := blk_frozen hz0 1
                       have hzl := blk_lt hz0)
                    | (go_at_call 58
                       refine (HLY.out _).mono ?_
                       rintro e w5 ⟨rfl, hb5⟩
                       have HB5 : Below V4.heap.size V4 w5 := by first | exact hb5 | exact below_step (bdn (Below.refl _ _) 1) hb5
                       have d0 := (HB5.cell (p := ⟨b2, 0, none⟩) hb2l).trans y0
                       have d1 := (HB5.cell (p := ⟨b2, 1, none⟩) hb2l).trans y1
                       have d2 := (HB5.cell (p := ⟨g', o' + 8, none⟩) hgr4).trans c8
                       have hl5 : V4.heap.size ≤ w5.heap.size := HB5.size
                       have hl6 : b2 < w5.heap.size := Nat.lt_of_lt_of_le hb2l HB5.size
                       have hl7 : g' < w5.heap.size := Nat.lt_of_lt_of_le hgr4 HB5.size))
                  all_goals go_wp2_with fail
                  all_goals go_meet
                  · exact ⟨_, rfl, blk_new _ _, HB5.alloc HB5.size _, HB5.size⟩
                  · exact ⟨_, rfl, blk_put (blk_put hz0 0 _ rfl) 1 _ rfl, (HB5.setCell (Nat.le_refl _) _).setCell (Nat.le_refl _) _, Nat.le_refl _⟩
                case rest =>
                  obtain ⟨bl, rfl, hWl, hbl, hll⟩ := hcut
                  have Z5 := Lib.hid (Z4.out.keep hbl)
                  have HLT5 := Lib.hid (Nat.lt_of_lt_of_le (blk_lt Z4.out.kt) hll)
                  have k0 := (blk_cell Z5.out.kt 0).trans (show _ = some (Value.int .u64 (t / 18446744073709551616)) from rfl)
                  have k1 := (blk_cell Z5.out.kt 1).trans (show _ = some (Value.int .u64 (t % 18446744073709551616)) from rfl)
                  have l0 := (blk_cell hWl 0).trans (show _ = some (Value.int .u64 (ty / 18446744073709551616)) from rfl)
                  have l1 := (blk_cell hWl 1).trans (show _ = some (Value.int .u64 (ty % 18446744073709551616)) from rfl)
                  have hkl := blk_lt Z5.out.kt
                  have hll2 := blk_lt hWl
                  have HWL := Lib.hid hWl
                  have hwy := wide_z HY.out.2.1 HY.out.2.2
                  rw [← ETY.out] at hwy
                  have HLS2 := Lib.hid (less_at Z5.out.wide hwy.1)
                  have hle1 : (rngZ y).1 ≤ t + 1 := by
                    rw [show (rngZ y).1 = y.a from (rngZ_ok HY.out.2.1 HY.out.2.2).2.2.1]
                    omega
                  have HLE1 := Lib.hid hle1
                  have HWY2 := Lib.hid hwy.1
                  clear hWl hbl hll y0 y1 c8 hgr4 hb2l mb1 mb2 mb3 mb4 hwy hle1 Z4
                  by_cases hty : t < ty
                  · rw [decide_eq_true hty] at HLS2
                    go_wp2_with fail
                    refine (HLS2.out _).mono ?_
                    rintro e V6 ⟨rfl, hv6⟩
                    have Z6 := Lib.hid (Z5.out.keep hv6)
                    have hWl6 := blk_below HWL.out hv6
                    clear k0 k1 l0 l1 hkl hll2 hv6 Z5
                    have k0 := (blk_cell Z6.out.kt 0).trans (show _ = some (Value.int .u64 (t / 18446744073709551616)) from rfl)
                    have k1 := (blk_cell Z6.out.kt 1).trans (show _ = some (Value.int .u64 (t % 18446744073709551616)) from rfl)
                    have f0 := blk_frozen Z6.out.kt 0
                    have f1 := blk_frozen Z6.out.kt 1
                    have l0 := (blk_cell hWl6 0).trans (show _ = some (Value.int .u64 (ty / 18446744073709551616)) from rfl)
                    have l1 := (blk_cell hWl6 1).trans (show _ = some (Value.int .u64 (ty % 18446744073709551616)) from rfl)
                    have hkl := blk_lt Z6.out.kt
                    have hll2 := blk_lt hWl6
                    clear hWl6
                    have Z7 := Z6.out.move HY.out.1 HLE1.out (by rw [← ETY.out]; exact HWY2.out) (by rw [← ETY.out]; exact hty)
                    rw [← ETY.out] at Z7
                    have Z7 := Lib.hid Z7
                    have hcs1' : 1 ≤ cs' := by omega
                    have hm1' : 1 ≤ D.length - j := by omega
                    go_wp2_with fail
                    exact ⟨⟨j + 1, ty, by omega, by omega, cutS_if hjl hcs' HRj.out, Z7.out⟩, by show D.length - j - 1 < D.length - j; omega⟩
                  · rw [decide_eq_false hty] at HLS2
                    go_wp2_with fail
                    refine (HLS2.out _).mono ?_
                    rintro e V6 ⟨rfl, hv6⟩
                    have Z6 := Lib.hid (Z5.out.keep hv6)
                    clear k0 k1 l0 l1 hkl hll2 hv6 Z5
                    have Z7 := Lib.hid (Z6.out.stay HY.out.1 HLE1.out (by rw [← ETY.out]; omega))
                    have hcs1' : 1 ≤ cs' := by omega
                    have hm1' : 1 ≤ D.length - j := by omega
                    go_wp2_with fail
                    exact ⟨⟨j + 1, t, by omega, by omega, cutS_if hjl hcs' HRj.out, Z7.out⟩, by show D.length - j - 1 < D.length - j; omega⟩
            · have hj0 : D.length - j = 0 := by omega
              have t0 := (blk_cell HZ.out.kt 0).trans (show _ = some (Value.int .u64 (t / 18446744073709551616)) from rfl)
              have t1 := (blk_cell HZ.out.kt 1).trans (show _ = some (Value.int .u64 (t % 18446744073709551616)) from rfl)
              have r0 := (blk_cell HZ.out.kf 0).trans (show _ = some (Value.int .u64 (x.a / 18446744073709551616)) from rfl)
              have r1 := (blk_cell HZ.out.kf 1).trans (show _ = some (Value.int .u64 (x.a % 18446744073709551616)) from rfl)
              have hlt1 := blk_lt HZ.out.kt
              have hlf1 := blk_lt HZ.out.kf
              go_wp2_with fail
              have hBw := below_step B.out HZ.out.below
              refine (cover_walk x.a t HX.out.2.2 HZ.out.wide HZ.out.le _ (Nat.lt_of_lt_of_le hg hBw.size) (HT.out.keep (B := w.heap.size) hg hBw)).mono ?_
              rintro e V ⟨u, rfl, hou, hbv⟩
              have hfew := coverL_few HX.out.2.2 HZ.out.wide HZ.out.le
              have hB4 := below_step HZ.out.below hbv
              clear t0 t1 r0 r1 hlt1 hlf1 hBw
              go_wp2_with (at_builtin; refine app_row rfl (.tmp 70) (.tmp 73) 25 rfl w3.heap.size 53 i0 (.agg #[.int .u16 0, .int .u16 0, .int .u16 0, .int .u16 0, .int .u16 0, .int .u16 0, .int .u16 0, .int .u16 0, .int .i64 0]) 9 24 Tryd.underlying25 HI0.out HZ0.out HZ1.out HZ2.out rfl (by decide) u7 (coverJ acc).length (pcells (coverJ acc)) rfl (own_below HZ.out.own hbv) u wr.heap.size (coverL x.a t).length (pcells (coverL x.a t)) rfl hou (pcells_one _) (by unfold maxLen; omega) (by omega) hB4.size ?_; intro v4 w4 hown4 hbel4)
              refine ⟨?_, ?_⟩
              · rw [← hj0]
                refine exit_jz hij hj hcs' HRj.out hown4 (hbel4 _ _ (Nat.le_refl _) hB4) HZ.out.sw (fun r hr => ?_) hlen hfew
                rw [List.drop_of_length_le (by omega)] at hr
                cases hr
              · show 0 < D.length - i
                omega
    · have hi0 : D.length - i = 0 := by omega
      go_wp2_with fail
      go_returns
      have hend : joinR [] (l.map rngZ) = acc := by
        have h := HSW.out
        rw [List.drop_of_length_le (by omega)] at h
        have hle : ∀ r ∈ l.map rngZ, r.1 ≤ r.2 := by
          intro r hr
          obtain ⟨z, hz, rfl⟩ := List.mem_map.1 hr
          have hz' := HOK.out z (HD.out.2.1.symm.subset hz)
          have h5 := rngZ_ok hz'.1 hz'.2
          have h6 := pow_pos2 (128 - z.n.toNat)
          rw [h5.2.2.2.2]
          show z.v ≤ _
          rw [h5.2.2.1]
          omega
        have hasc : Asc (D.map rngZ) := by
          unfold Asc
          rw [List.pairwise_map]
          exact HD.out.2.2
        rw [← sweep_join _ _ hle hasc (HD.out.2.1.map rngZ), h]
        simp [sweepL]
      rw [hend]
      exact ⟨_, rfl, World.ownsRow.mono HO.out B.out.size, below_step B.out HBW.out⟩
end Go.Proofs.YtcgdjnmfeibnoaaDoor
/-! SixS8 -/
namespace Go.Proofs.YtcgdjnmfeibnoaaDoor
open Go.RowKit Go.Lib Go.Proofs.YtcgdjnmfeibnoaaDoorW.PrintWords
set_option linter.unusedVariables false
set_option linter.unusedSimpArgs false
@[irreducible] def storeS (x v : Value) : Sem Unit := Instr.storeAt 24 x v
@[go_sem ↓ high] theorem storeS_of (x v : Value) : Instr.storeAt 24 x v = storeS x v := by unfold storeS; rfl
theorem storeS_old {W : World} {g : Nat} {old : Array Value} (h : W.heap[g]? = some (.cells old 24 (0, 0))) (ho : old.size = 8) (y0 y1 y2 y3 y4 y5 y6 y7 : Int) :
    (storeS (.pointer (some ⟨g, 0, none⟩)) (.agg #[.int .u16 y0, .int .u16 y1, .int .u16 y2, .int .u16 y3, .int .u16 y4, .int .u16 y5, .int .u16 y6, .int .u16 y7])).run Tryd.prog W = .ok () (W.setRow g #[.int .u16 y0, .int .u16 y1, .int .u16 y2, .int .u16 y3, .int .u16 y4, .int .u16 y5, .int .u16 y6, .int .u16 y7]) := by
  unfold storeS
  simp only [Instr.storeAt, Instr.sureAddr, Sem.run_bind, Sem.run_pure, Result.andThen]
  exact run_storeVar_row _ _ 24 24 old #[.int .u16 y0, .int .u16 y1, .int .u16 y2, .int .u16 y3, .int .u16 y4, .int .u16 y5, .int .u16 y6, .int .u16 y7] h (by kernel_rfl) ho (by simp [Value.oneCell'])
@[go_sem] theorem storeS_new {n : Nat} (W : World) (z0 z1 z2 z3 z4 z5 z6 z7 y0 y1 y2 y3 y4 y5 y6 y7 : Int) (hn : n = W.heap.size) :
    (storeS (.pointer (some ⟨n, 0, none⟩)) (.agg #[.int .u16 y0, .int .u16 y1, .int .u16 y2, .int .u16 y3, .int .u16 y4, .int .u16 y5, .int .u16 y6, .int .u16 y7])).run Tryd.prog (W.alloc (.cells #[.int .u16 z0, .int .u16 z1, .int .u16 z2, .int .u16 z3, .int .u16 z4, .int .u16 z5, .int .u16 z6, .int .u16 z7] 24)) = .ok () (W.alloc (.cells #[.int .u16 y0, .int .u16 y1, .int .u16 y2, .int .u16 y3, .int .u16 y4, .int .u16 y5, .int .u16 y6, .int .u16 y7] 24)) := by
  subst hn
  rw [storeS_old (heap_alloc_new W _) rfl]
  congr 1
  exact World.setRow_alloc_new W _ _ 24
theorem blk_newS (W : World) (o o' : Obj) : ((W.alloc o).alloc o').heap[W.heap.size + 1]? = some o' := by
  have := blk_new (W.alloc o) o'
  rwa [World.size_alloc] at this
/-- A variable that holds an address. -/
def BA (W : World) (b : Nat) (v : Int) : Prop := W.heap[b]? = some (.cells #[.int .u16 (pc 0 v), .int .u16 (pc 1 v), .int .u16 (pc 2 v), .int .u16 (pc 3 v), .int .u16 (pc 4 v), .int .u16 (pc 5 v), .int .u16 (pc 6 v), .int .u16 (pc 7 v)] 24 (0, 0))
theorem BA.below {W W' : World} {b : Nat} {v : Int} (h : BA W b v) (hb : Below W.heap.size W W') : BA W' b v := blk_below h hb
theorem BA.lt {W : World} {b : Nat} {v : Int} (h : BA W b v) : b < W.heap.size := blk_lt h
theorem ba_new (W : World) (v : Int) : BA (W.alloc (.cells #[.int .u16 (pc 0 v), .int .u16 (pc 1 v), .int .u16 (pc 2 v), .int .u16 (pc 3 v), .int .u16 (pc 4 v), .int .u16 (pc 5 v), .int .u16 (pc 6 v), .int .u16 (pc 7 v)] 24)) W.heap.size v := blk_new _ _
theorem setRow_elseS {W : World} {g b : Nat} {c : Array Value} (h : b ≠ g) : (W.setRow g c).heap[b]? = W.heap[b]? := by
  simp only [World.setRow, Array.getElem?_modify]
  rw [if_neg (fun e => h e.symm)]
/-- A store into a variable that holds an address, whatever it held. -/
theorem store_toS {W : World} {g : Nat} {old : Array Value} (h : W.heap[g]? = some (.cells old 24 (0, 0))) (ho : old.size = 8) (v : Int) :
    ∃ wB, (storeS (.pointer (some ⟨g, 0, none⟩)) (.agg #[.int .u16 (pc 0 v), .int .u16 (pc 1 v), .int .u16 (pc 2 v), .int .u16 (pc 3 v), .int .u16 (pc 4 v), .int .u16 (pc 5 v), .int .u16 (pc 6 v), .int .u16 (pc 7 v)])).run Tryd.prog W = .ok () wB ∧ BA wB g v ∧ (∀ B w0, B ≤ g → Below B w0 W → Below B w0 wB) ∧ (∀ b, b ≠ g → wB.heap[b]? = W.heap[b]?) ∧ W.grownBy wB (some g) :=
  ⟨_, storeS_old h ho _ _ _ _ _ _ _ _, setRow_at h, fun B w0 hB hw => below_setRow hw hB _, fun b hb => setRow_elseS hb, ⟨rfl, rfl, rfl, by simp [World.setRow], fun k _ hk => setRow_elseS (fun e => hk (by rw [e]))⟩⟩
/-- A store into a new variable behind which one more was made. -/
@[go_sem] theorem storeS_new2 {n : Nat} (W : World) (o : Obj) (z0 z1 z2 z3 z4 z5 z6 z7 y0 y1 y2 y3 y4 y5 y6 y7 : Int) (hn : n = W.heap.size) :
    (storeS (.pointer (some ⟨n, 0, none⟩)) (.agg #[.int .u16 y0, .int .u16 y1, .int .u16 y2, .int .u16 y3, .int .u16 y4, .int .u16 y5, .int .u16 y6, .int .u16 y7])).run Tryd.prog ((W.alloc (.cells #[.int .u16 z0, .int .u16 z1, .int .u16 z2, .int .u16 z3, .int .u16 z4, .int .u16 z5, .int .u16 z6, .int .u16 z7] 24)).alloc o) = .ok () ((W.alloc (.cells #[.int .u16 y0, .int .u16 y1, .int .u16 y2, .int .u16 y3, .int .u16 y4, .int .u16 y5, .int .u16 y6, .int .u16 y7] 24)).alloc o) := by
  subst hn
  rw [storeS_old (blk_alloc (blk_new W _) o) rfl]
  congr 1
  simp only [World.setRow, World.alloc]
  congr 1
  apply Array.ext_getElem?
  intro i
  rw [Array.getElem?_modify]
  by_cases h : W.heap.size = i
  · subst h
    simp [Array.getElem?_push]
  · have h' : ¬ i = W.heap.size := fun e => h e.symm
    rw [if_neg h]
    simp [Array.getElem?_push, h']
end Go.Proofs.YtcgdjnmfeibnoaaDoor
/-! SixBounds -/
namespace Go.Proofs.YtcgdjnmfeibnoaaDoor
open Go.RowKit Go.Lib Go.Proofs.YtcgdjnmfeibnoaaDoorW.PrintWords
set_option linter.unusedVariables false
set_option linter.unusedSimpArgs false
theorem is_z (x : Pz) (w : World) : Calls Tryd.prog 52 #[.agg #[.int .u16 (pc 0 x.a), .int .u16 (pc 1 x.a), .int .u16 (pc 2 x.a), .int .u16 (pc 3 x.a), .int .u16 (pc 4 x.a), .int .u16 (pc 5 x.a), .int .u16 (pc 6 x.a), .int .u16 (pc 7 x.a), .int .i64 x.n]] w fun e w' => e = .returned (.bool (isZ x)) ∧ Below w.heap.size w w' := is_walk _ _ _ _ _ _ _ _ (pc_r8 x.a) x.n w
set_option maxHeartbeats 4000000 in
set_option maxRecDepth 100000 in
theorem bounds_walk {x : Pz} (hz : isZ x = true) (hw : Wide x.a) (w : World) :
    Calls Tryd.prog 24 #[PV x.a x.n] w fun e w' => e = .returned (.tuple #[AV x.a, AV (rngZ x).2, .int .i64 0]) ∧ Below w.heap.size w w' := by
  have HI := is_z x
  rw [hz] at HI
  have HI := Lib.hid HI
  have hwl := wide_z hz hw
  have HLA := Lib.hid (wlast_z hz hw)
  obtain ⟨t, et⟩ : ∃ t, t = (rngZ x).2 := ⟨_, rfl⟩
  rw [← et] at HLA hwl ⊢
  have HWT := Lib.hid hwl.1
  have HW := Lib.hid hw
  clear et hwl hz hw
  have hW := wideOf_at _ _ _ _ _ _ _ _ (pc_r8 x.a)
  rw [pc_v8 HW.out] at hW
  have HWO := Lib.hid hW
  have HSX := Lib.hid (wsix_at HWT.out)
  clear hW
  have B0 : Below w.heap.size w (((w.alloc (.cells #[.int .u16 (pc 0 x.a), .int .u16 (pc 1 x.a), .int .u16 (pc 2 x.a), .int .u16 (pc 3 x.a), .int .u16 (pc 4 x.a), .int .u16 (pc 5 x.a), .int .u16 (pc 6 x.a), .int .u16 (pc 7 x.a), .int .i64 x.n] 53)).alloc (.cells #[.int .u16 0, .int .u16 0, .int .u16 0, .int .u16 0, .int .u16 0, .int .u16 0, .int .u16 0, .int .u16 0] 24)).alloc (.cells #[.int .u16 0, .int .u16 0, .int .u16 0, .int .u16 0, .int .u16 0, .int .u16 0, .int .u16 0, .int .u16 0] 24)) := (((Below.refl _ _).alloc (Nat.le_refl _) _).alloc (by simp) _).alloc (by simp; omega) _
  have h0 : (((w.alloc (.cells #[.int .u16 (pc 0 x.a), .int .u16 (pc 1 x.a), .int .u16 (pc 2 x.a), .int .u16 (pc 3 x.a), .int .u16 (pc 4 x.a), .int .u16 (pc 5 x.a), .int .u16 (pc 6 x.a), .int .u16 (pc 7 x.a), .int .i64 x.n] 53)).alloc (.cells #[.int .u16 0, .int .u16 0, .int .u16 0, .int .u16 0, .int .u16 0, .int .u16 0, .int .u16 0, .int .u16 0] 24)).alloc (.cells #[.int .u16 0, .int .u16 0, .int .u16 0, .int .u16 0, .int .u16 0, .int .u16 0, .int .u16 0, .int .u16 0] 24)).heap[w.heap.size]? = some (.cells #[.int .u16 (pc 0 x.a), .int .u16 (pc 1 x.a), .int .u16 (pc 2 x.a), .int .u16 (pc 3 x.a), .int .u16 (pc 4 x.a), .int .u16 (pc 5 x.a), .int .u16 (pc 6 x.a), .int .u16 (pc 7 x.a), .int .i64 x.n] 53 (0, 0)) := blk_alloc (blk_alloc (blk_new _ _) _) _
  have h1 : (((w.alloc (.cells #[.int .u16 (pc 0 x.a), .int .u16 (pc 1 x.a), .int .u16 (pc 2 x.a), .int .u16 (pc 3 x.a), .int .u16 (pc 4 x.a), .int .u16 (pc 5 x.a), .int .u16 (pc 6 x.a), .int .u16 (pc 7 x.a), .int .i64 x.n] 53)).alloc (.cells #[.int .u16 0, .int .u16 0, .int .u16 0, .int .u16 0, .int .u16 0, .int .u16 0, .int .u16 0, .int .u16 0] 24)).alloc (.cells #[.int .u16 0, .int .u16 0, .int .u16 0, .int .u16 0, .int .u16 0, .int .u16 0, .int .u16 0, .int .u16 0] 24)).heap[w.heap.size + 1]? = some (.cells #[.int .u16 0, .int .u16 0, .int .u16 0, .int .u16 0, .int .u16 0, .int .u16 0, .int .u16 0, .int .u16 0] 24 (0, 0)) := blk_alloc (blk_newS _ _ _) _
  have h2 : (((w.alloc (.cells #[.int .u16 (pc 0 x.a), .int .u16 (pc 1 x.a), .int .u16 (pc 2 x.a), .int .u16 (pc 3 x.a), .int .u16 (pc 4 x.a), .int .u16 (pc 5 x.a), .int .u16 (pc 6 x.a), .int .u16 (pc 7 x.a), .int .i64 x.n] 53)).alloc (.cells #[.int .u16 0, .int .u16 0, .int .u16 0, .int .u16 0, .int .u16 0, .int .u16 0, .int .u16 0, .int .u16 0] 24)).alloc (.cells #[.int .u16 0, .int .u16 0, .int .u16 0, .int .u16 0, .int .u16 0, .int .u16 0, .int .u16 0, .int .u16 0] 24)).heap[w.heap.size + 1 + 1]? = some (.cells #[.int .u16 0, .int .u16 0, .int .u16 0, .int .u16 0, .int .u16 0, .int .u16 0, .int .u16 0, .int .u16 0] 24 (0, 0)) := by
    have := blk_newS (w.alloc (.cells #[.int .u16 (pc 0 x.a), .int .u16 (pc 1 x.a), .int .u16 (pc 2 x.a), .int .u16 (pc 3 x.a), .int .u16 (pc 4 x.a), .int .u16 (pc 5 x.a), .int .u16 (pc 6 x.a), .int .u16 (pc 7 x.a), .int .i64 x.n] 53)) (.cells #[.int .u16 0, .int .u16 0, .int .u16 0, .int .u16 0, .int .u16 0, .int .u16 0, .int .u16 0, .int .u16 0] 24) (.cells #[.int .u16 0, .int .u16 0, .int .u16 0, .int .u16 0, .int .u16 0, .int .u16 0, .int .u16 0, .int .u16 0] 24)
    rwa [World.size_alloc] at this
  go_enter Tryd.func24, Tryd.ntmps24
  go_upto_region 1 with fail
  generalize ((w.alloc (.cells #[.int .u16 (pc 0 x.a), .int .u16 (pc 1 x.a), .int .u16 (pc 2 x.a), .int .u16 (pc 3 x.a), .int .u16 (pc 4 x.a), .int .u16 (pc 5 x.a), .int .u16 (pc 6 x.a), .int .u16 (pc 7 x.a), .int .i64 x.n] 53)).alloc (.cells #[.int .u16 0, .int .u16 0, .int .u16 0, .int .u16 0, .int .u16 0, .int .u16 0, .int .u16 0, .int .u16 0] 24)).alloc (.cells #[.int .u16 0, .int .u16 0, .int .u16 0, .int .u16 0, .int .u16 0, .int .u16 0, .int .u16 0, .int .u16 0] 24) = W0 at *
  have HB := Lib.hid B0
  have H1 := Lib.hid h1
  have H2 := Lib.hid h2
  have c0 := (blk_cell h0 0).trans (show _ = some (Value.int .u16 (pc 0 x.a)) from rfl)
  have c1 := (blk_cell h0 1).trans (show _ = some (Value.int .u16 (pc 1 x.a)) from rfl)
  have c2 := (blk_cell h0 2).trans (show _ = some (Value.int .u16 (pc 2 x.a)) from rfl)
  have c3 := (blk_cell h0 3).trans (show _ = some (Value.int .u16 (pc 3 x.a)) from rfl)
  have c4 := (blk_cell h0 4).trans (show _ = some (Value.int .u16 (pc 4 x.a)) from rfl)
  have c5 := (blk_cell h0 5).trans (show _ = some (Value.int .u16 (pc 5 x.a)) from rfl)
  have c6 := (blk_cell h0 6).trans (show _ = some (Value.int .u16 (pc 6 x.a)) from rfl)
  have c7 := (blk_cell h0 7).trans (show _ = some (Value.int .u16 (pc 7 x.a)) from rfl)
  have c8 := (blk_cell h0 8).trans (show _ = some (Value.int .i64 x.n) from rfl)
  have hl0 := blk_lt h0
  have H0 := Lib.hid h0
  clear h0 h1 h2 B0
  go_wp2_with fail
  refine (HI.out _).mono ?_
  rintro e w1 ⟨rfl, hb1⟩
  have B1 := Lib.hid hb1
  have h01 := blk_below H0.out hb1
  clear c0 c1 c2 c3 c4 c5 c6 c7 c8 hl0 hb1
  have c0 := (blk_cell h01 0).trans (show _ = some (Value.int .u16 (pc 0 x.a)) from rfl)
  have c1 := (blk_cell h01 1).trans (show _ = some (Value.int .u16 (pc 1 x.a)) from rfl)
  have c2 := (blk_cell h01 2).trans (show _ = some (Value.int .u16 (pc 2 x.a)) from rfl)
  have c3 := (blk_cell h01 3).trans (show _ = some (Value.int .u16 (pc 3 x.a)) from rfl)
  have c4 := (blk_cell h01 4).trans (show _ = some (Value.int .u16 (pc 4 x.a)) from rfl)
  have c5 := (blk_cell h01 5).trans (show _ = some (Value.int .u16 (pc 5 x.a)) from rfl)
  have c6 := (blk_cell h01 6).trans (show _ = some (Value.int .u16 (pc 6 x.a)) from rfl)
  have c7 := (blk_cell h01 7).trans (show _ = some (Value.int .u16 (pc 7 x.a)) from rfl)
  have c8 := (blk_cell h01 8).trans (show _ = some (Value.int .i64 x.n) from rfl)
  have hl0 := blk_lt h01
  clear h01
  go_upto_region 3 with fail
  refine wp_region_ext_tail 9 (by kernel_rfl) (by kernel_rfl) ?_
  dsimp only [List.take, List.drop]
  repeat (go_big_quiet_step (first | (with_reducible exact ext_of (HWO.out _)) | (with_reducible exact ext_of (HLA.out _)) | (with_reducible exact ext_of (HSX.out _))))
  refine wpQuiet_nil ?_
  rintro w2 ⟨⟨_, hb2⟩, rfl⟩
  have B2 := below_step B1.out hb2
  obtain ⟨wA, hA, xA, bA, oA, _⟩ := store_toS (blk_below H1.out B2) rfl x.a
  obtain ⟨wB, hB, xB, bB, oB, _⟩ := store_toS ((oA (w.heap.size + 1 + 1) (by omega)).trans (blk_below H2.out B2)) rfl t
  have xA2 : BA wB (w.heap.size + 1) x.a := (oB (w.heap.size + 1) (by omega)).trans xA
  have B3 := Lib.hid (bB w.heap.size w (by omega) (bA w.heap.size w (by omega) (below_step HB.out B2)))
  have u0 := (blk_cell xA2 0).trans (show _ = some (Value.int .u16 (pc 0 x.a)) from rfl)
  have u1 := (blk_cell xA2 1).trans (show _ = some (Value.int .u16 (pc 1 x.a)) from rfl)
  have u2 := (blk_cell xA2 2).trans (show _ = some (Value.int .u16 (pc 2 x.a)) from rfl)
  have u3 := (blk_cell xA2 3).trans (show _ = some (Value.int .u16 (pc 3 x.a)) from rfl)
  have u4 := (blk_cell xA2 4).trans (show _ = some (Value.int .u16 (pc 4 x.a)) from rfl)
  have u5 := (blk_cell xA2 5).trans (show _ = some (Value.int .u16 (pc 5 x.a)) from rfl)
  have u6 := (blk_cell xA2 6).trans (show _ = some (Value.int .u16 (pc 6 x.a)) from rfl)
  have u7 := (blk_cell xA2 7).trans (show _ = some (Value.int .u16 (pc 7 x.a)) from rfl)
  have v0 := (blk_cell xB 0).trans (show _ = some (Value.int .u16 (pc 0 t)) from rfl)
  have v1 := (blk_cell xB 1).trans (show _ = some (Value.int .u16 (pc 1 t)) from rfl)
  have v2 := (blk_cell xB 2).trans (show _ = some (Value.int .u16 (pc 2 t)) from rfl)
  have v3 := (blk_cell xB 3).trans (show _ = some (Value.int .u16 (pc 3 t)) from rfl)
  have v4 := (blk_cell xB 4).trans (show _ = some (Value.int .u16 (pc 4 t)) from rfl)
  have v5 := (blk_cell xB 5).trans (show _ = some (Value.int .u16 (pc 5 t)) from rfl)
  have v6 := (blk_cell xB 6).trans (show _ = some (Value.int .u16 (pc 6 t)) from rfl)
  have v7 := (blk_cell xB 7).trans (show _ = some (Value.int .u16 (pc 7 t)) from rfl)
  clear c0 c1 c2 c3 c4 c5 c6 c7 c8 hl0 hb2 B2 xA xA2 xB bA bB oA oB
  go_wp2_with fail
  refine bodyPost_ret (by simp [results, Tryd.results24, go_sem, u0, u1, u2, u3, u4, u5, u6, u7, v0, v1, v2, v3, v4, v5, v6, v7]; try rfl) rfl ?_
  exact ⟨rfl, B3.out⟩
set_option maxHeartbeats 4000000 in
set_option maxRecDepth 100000 in
theorem bounds_bad {x : Pz} (hz : isZ x = false) (w : World) :
    Calls Tryd.prog 24 #[PV x.a x.n] w fun e w' => e = .returned (.tuple #[A8 0 0 0 0 0 0 0 0, A8 0 0 0 0 0 0 0 0, .int .i64 211]) ∧ Below w.heap.size w w' := by
  have HI := is_z x
  rw [hz] at HI
  have HI := Lib.hid HI
  clear hz
  go_enter Tryd.func24, Tryd.ntmps24
  have B0 : Below w.heap.size w (((w.alloc (.cells #[.int .u16 (pc 0 x.a), .int .u16 (pc 1 x.a), .int .u16 (pc 2 x.a), .int .u16 (pc 3 x.a), .int .u16 (pc 4 x.a), .int .u16 (pc 5 x.a), .int .u16 (pc 6 x.a), .int .u16 (pc 7 x.a), .int .i64 x.n] 53)).alloc (.cells #[.int .u16 0, .int .u16 0, .int .u16 0, .int .u16 0, .int .u16 0, .int .u16 0, .int .u16 0, .int .u16 0] 24)).alloc (.cells #[.int .u16 0, .int .u16 0, .int .u16 0, .int .u16 0, .int .u16 0, .int .u16 0, .int .u16 0, .int .u16 0] 24)) := (((Below.refl _ _).alloc (Nat.le_refl _) _).alloc (by simp) _).alloc (by simp; omega) _
  have h0 : (((w.alloc (.cells #[.int .u16 (pc 0 x.a), .int .u16 (pc 1 x.a), .int .u16 (pc 2 x.a), .int .u16 (pc 3 x.a), .int .u16 (pc 4 x.a), .int .u16 (pc 5 x.a), .int .u16 (pc 6 x.a), .int .u16 (pc 7 x.a), .int .i64 x.n] 53)).alloc (.cells #[.int .u16 0, .int .u16 0, .int .u16 0, .int .u16 0, .int .u16 0, .int .u16 0, .int .u16 0, .int .u16 0] 24)).alloc (.cells #[.int .u16 0, .int .u16 0, .int .u16 0, .int .u16 0, .int .u16 0, .int .u16 0, .int .u16 0, .int .u16 0] 24)).heap[w.heap.size]? = some (.cells #[.int .u16 (pc 0 x.a), .int .u16 (pc 1 x.a), .int .u16 (pc 2 x.a), .int .u16 (pc 3 x.a), .int .u16 (pc 4 x.a), .int .u16 (pc 5 x.a), .int .u16 (pc 6 x.a), .int .u16 (pc 7 x.a), .int .i64 x.n] 53 (0, 0)) := blk_alloc (blk_alloc (blk_new _ _) _) _
  have h1 : (((w.alloc (.cells #[.int .u16 (pc 0 x.a), .int .u16 (pc 1 x.a), .int .u16 (pc 2 x.a), .int .u16 (pc 3 x.a), .int .u16 (pc 4 x.a), .int .u16 (pc 5 x.a), .int .u16 (pc 6 x.a), .int .u16 (pc 7 x.a), .int .i64 x.n] 53)).alloc (.cells #[.int .u16 0, .int .u16 0, .int .u16 0, .int .u16 0, .int .u16 0, .int .u16 0, .int .u16 0, .int .u16 0] 24)).alloc (.cells #[.int .u16 0, .int .u16 0, .int .u16 0, .int .u16 0, .int .u16 0, .int .u16 0, .int .u16 0, .int .u16 0] 24)).heap[w.heap.size + 1]? = some (.cells #[.int .u16 0, .int .u16 0, .int .u16 0, .int .u16 0, .int .u16 0, .int .u16 0, .int .u16 0, .int .u16 0] 24 (0, 0)) := blk_alloc (blk_newS _ _ _) _
  have h2 : (((w.alloc (.cells #[.int .u16 (pc 0 x.a), .int .u16 (pc 1 x.a), .int .u16 (pc 2 x.a), .int .u16 (pc 3 x.a), .int .u16 (pc 4 x.a), .int .u16 (pc 5 x.a), .int .u16 (pc 6 x.a), .int .u16 (pc 7 x.a), .int .i64 x.n] 53)).alloc (.cells #[.int .u16 0, .int .u16 0, .int .u16 0, .int .u16 0, .int .u16 0, .int .u16 0, .int .u16 0, .int .u16 0] 24)).alloc (.cells #[.int .u16 0, .int .u16 0, .int .u16 0, .int .u16 0, .int .u16 0, .int .u16 0, .int .u16 0, .int .u16 0] 24)).heap[w.heap.size + 1 + 1]? = some (.cells #[.int .u16 0, .int .u16 0, .int .u16 0, .int .u16 0, .int .u16 0, .int .u16 0, .int .u16 0, .int .u16 0] 24 (0, 0)) := by
    have := blk_newS (w.alloc (.cells #[.int .u16 (pc 0 x.a), .int .u16 (pc 1 x.a), .int .u16 (pc 2 x.a), .int .u16 (pc 3 x.a), .int .u16 (pc 4 x.a), .int .u16 (pc 5 x.a), .int .u16 (pc 6 x.a), .int .u16 (pc 7 x.a), .int .i64 x.n] 53)) (.cells #[.int .u16 0, .int .u16 0, .int .u16 0, .int .u16 0, .int .u16 0, .int .u16 0, .int .u16 0, .int .u16 0] 24) (.cells #[.int .u16 0, .int .u16 0, .int .u16 0, .int .u16 0, .int .u16 0, .int .u16 0, .int .u16 0, .int .u16 0] 24)
    rwa [World.size_alloc] at this
  go_upto_region 1 with fail
  generalize ((w.alloc (.cells #[.int .u16 (pc 0 x.a), .int .u16 (pc 1 x.a), .int .u16 (pc 2 x.a), .int .u16 (pc 3 x.a), .int .u16 (pc 4 x.a), .int .u16 (pc 5 x.a), .int .u16 (pc 6 x.a), .int .u16 (pc 7 x.a), .int .i64 x.n] 53)).alloc (.cells #[.int .u16 0, .int .u16 0, .int .u16 0, .int .u16 0, .int .u16 0, .int .u16 0, .int .u16 0, .int .u16 0] 24)).alloc (.cells #[.int .u16 0, .int .u16 0, .int .u16 0, .int .u16 0, .int .u16 0, .int .u16 0, .int .u16 0, .int .u16 0] 24) = W0 at *
  have HB := Lib.hid B0
  have H1 := Lib.hid h1
  have H2 := Lib.hid h2
  have c0 := (blk_cell h0 0).trans (show _ = some (Value.int .u16 (pc 0 x.a)) from rfl)
  have c1 := (blk_cell h0 1).trans (show _ = some (Value.int .u16 (pc 1 x.a)) from rfl)
  have c2 := (blk_cell h0 2).trans (show _ = some (Value.int .u16 (pc 2 x.a)) from rfl)
  have c3 := (blk_cell h0 3).trans (show _ = some (Value.int .u16 (pc 3 x.a)) from rfl)
  have c4 := (blk_cell h0 4).trans (show _ = some (Value.int .u16 (pc 4 x.a)) from rfl)
  have c5 := (blk_cell h0 5).trans (show _ = some (Value.int .u16 (pc 5 x.a)) from rfl)
  have c6 := (blk_cell h0 6).trans (show _ = some (Value.int .u16 (pc 6 x.a)) from rfl)
  have c7 := (blk_cell h0 7).trans (show _ = some (Value.int .u16 (pc 7 x.a)) from rfl)
  have c8 := (blk_cell h0 8).trans (show _ = some (Value.int .i64 x.n) from rfl)
  have hl0 := blk_lt h0
  clear h0 h1 h2 B0
  go_wp2_with fail
  refine (HI.out _).mono ?_
  rintro e w1 ⟨rfl, hb1⟩
  have e0 : ∀ (i : Nat), i < 8 → pc i 0 = 0 := by decide
  obtain ⟨wA, hA, xA, bA, oA, _⟩ := store_toS (blk_below H1.out hb1) rfl 0
  obtain ⟨wB, hB, xB, bB, oB, _⟩ := store_toS ((oA (w.heap.size + 1 + 1) (by omega)).trans (blk_below H2.out hb1)) rfl 0
  have xA2 : BA wB (w.heap.size + 1) 0 := (oB (w.heap.size + 1) (by omega)).trans xA
  have B3 := Lib.hid (bB w.heap.size w (by omega) (bA w.heap.size w (by omega) (below_step HB.out hb1)))
  have u0 := (blk_cell xA2 0).trans (show _ = some (Value.int .u16 (pc 0 0)) from rfl)
  have u1 := (blk_cell xA2 1).trans (show _ = some (Value.int .u16 (pc 1 0)) from rfl)
  have u2 := (blk_cell xA2 2).trans (show _ = some (Value.int .u16 (pc 2 0)) from rfl)
  have u3 := (blk_cell xA2 3).trans (show _ = some (Value.int .u16 (pc 3 0)) from rfl)
  have u4 := (blk_cell xA2 4).trans (show _ = some (Value.int .u16 (pc 4 0)) from rfl)
  have u5 := (blk_cell xA2 5).trans (show _ = some (Value.int .u16 (pc 5 0)) from rfl)
  have u6 := (blk_cell xA2 6).trans (show _ = some (Value.int .u16 (pc 6 0)) from rfl)
  have u7 := (blk_cell xA2 7).trans (show _ = some (Value.int .u16 (pc 7 0)) from rfl)
  have v0 := (blk_cell xB 0).trans (show _ = some (Value.int .u16 (pc 0 0)) from rfl)
  have v1 := (blk_cell xB 1).trans (show _ = some (Value.int .u16 (pc 1 0)) from rfl)
  have v2 := (blk_cell xB 2).trans (show _ = some (Value.int .u16 (pc 2 0)) from rfl)
  have v3 := (blk_cell xB 3).trans (show _ = some (Value.int .u16 (pc 3 0)) from rfl)
  have v4 := (blk_cell xB 4).trans (show _ = some (Value.int .u16 (pc 4 0)) from rfl)
  have v5 := (blk_cell xB 5).trans (show _ = some (Value.int .u16 (pc 5 0)) from rfl)
  have v6 := (blk_cell xB 6).trans (show _ = some (Value.int .u16 (pc 6 0)) from rfl)
  have v7 := (blk_cell xB 7).trans (show _ = some (Value.int .u16 (pc 7 0)) from rfl)
  rw [e0 0 (by decide), e0 1 (by decide), e0 2 (by decide), e0 3 (by decide), e0 4 (by decide), e0 5 (by decide), e0 6 (by decide), e0 7 (by decide)] at hA hB
  rw [e0 0 (by decide)] at u0 v0
  rw [e0 1 (by decide)] at u1 v1
  rw [e0 2 (by decide)] at u2 v2
  rw [e0 3 (by decide)] at u3 v3
  rw [e0 4 (by decide)] at u4 v4
  rw [e0 5 (by decide)] at u5 v5
  rw [e0 6 (by decide)] at u6 v6
  rw [e0 7 (by decide)] at u7 v7
  clear e0 c0 c1 c2 c3 c4 c5 c6 c7 c8 hl0 hb1 xA xA2 xB bA bB oA oB
  go_wp2_with fail
  refine bodyPost_ret (by simp [results, Tryd.results24, go_sem, u0, u1, u2, u3, u4, u5, u6, u7, v0, v1, v2, v3, v4, v5, v6, v7]; try rfl) rfl ?_
  exact ⟨rfl, B3.out⟩
end Go.Proofs.YtcgdjnmfeibnoaaDoor
/-! SixTilesV -/
namespace Go.Proofs.YtcgdjnmfeibnoaaDoor
open Go.RowKit
set_option linter.unusedVariables false
set_option linter.unusedSimpArgs false
/-- A prefix of the cover as a range. -/
def rngC (p : Int × Nat) : Int × Int := (p.1, p.1 + 2 ^ (128 - p.2) - 1)
/-- One behind the other, from f to t. -/
def Tiled (t : Int) : Int → List (Int × Nat) → Prop
  | f, [] => f = t + 1
  | f, p :: L => p.1 = f ∧ p.2 ≤ 128 ∧ f % 2 ^ (128 - p.2) = 0 ∧ f + 2 ^ (128 - p.2) - 1 ≤ t ∧ (L = [] → f + 2 ^ (128 - p.2) - 1 = t) ∧ Tiled t (f + 2 ^ (128 - p.2)) L
theorem coverL_tiled {t : Int} : ∀ (n : Nat) (f : Int), (t + 1 - f).toNat ≤ n → f ≤ t → Tiled t f (coverL f t)
  | 0, f, hn, h => by omega
  | n + 1, f, hn, h => by
    have hK := keepOf_keep h
    have hp := pow_pos2 (128 - keepOf f t)
    by_cases hm : f + 2 ^ (128 - keepOf f t) ≤ t
    · rw [coverL_more h hK hm]
      refine ⟨rfl, hK.le, hK.ok.1, by simp only []; omega, fun e => ?_, ?_⟩
      · have := congrArg List.length e
        rw [coverL] at this
        simp at this
      · simp only []
        exact coverL_tiled n _ (by omega) hm
    · have hle := hK.ok.2
      rw [coverL_last h hK hm]
      refine ⟨rfl, hK.le, hK.ok.1, by simp only []; omega, fun _ => by simp only []; omega, ?_⟩
      show f + 2 ^ (128 - keepOf f t) = t + 1
      omega
theorem coverL_ne (f t : Int) : coverL f t ≠ [] := by
  rw [coverL]
  simp
theorem sweep_tiled {t : Int} : ∀ (L : List (Int × Nat)) (a g : Int), a < g → g ≤ t + 1 → Tiled t g L → sweep a (g - 1) (L.map rngC) = [(a, t)]
  | [], a, g, ha, hg, h => by
    have h : g = t + 1 := h
    subst h
    simp [sweep]
  | p :: L, a, g, ha, hg, h => by
    obtain ⟨h1, h2, h3, h4, h5, h6⟩ := h
    have hp := pow_pos2 (128 - p.2)
    have ih := sweep_tiled L a (g + 2 ^ (128 - p.2)) (by omega) (by omega) h6
    rw [List.map_cons, sweep]
    rw [if_pos (by unfold rngC; simp only []; omega)]
    rw [show max (g - 1) (rngC p).2 = g + 2 ^ (128 - p.2) - 1 from by unfold rngC; simp only []; omega]
    exact ih
theorem sweepL_tiled {t g : Int} {L : List (Int × Nat)} (hne : L ≠ []) (h : Tiled t g L) (hg : g ≤ t) : sweepL (L.map rngC) = [(g, t)] := by
  cases L with
  | nil => exact absurd rfl hne
  | cons p L =>
    obtain ⟨h1, h2, h3, h4, h5, h6⟩ := h
    have hp := pow_pos2 (128 - p.2)
    show sweep (rngC p).1 (rngC p).2 (L.map rngC) = _
    unfold rngC
    rw [h1]
    exact sweep_tiled L g _ (by omega) (by omega) h6
theorem tiled_asc {t : Int} : ∀ (L : List (Int × Nat)) (g : Int), Tiled t g L → Asc (L.map rngC) ∧ ∀ r ∈ L.map rngC, g ≤ r.1 ∧ r.1 ≤ r.2
  | [], g, h => ⟨List.Pairwise.nil, fun r hr => by simp at hr⟩
  | p :: L, g, h => by
    obtain ⟨h1, h2, h3, h4, h5, h6⟩ := h
    have hp := pow_pos2 (128 - p.2)
    obtain ⟨ih1, ih2⟩ := tiled_asc L _ h6
    refine ⟨List.pairwise_cons.2 ⟨fun r hr => ?_, ih1⟩, fun r hr => ?_⟩
    · have := (ih2 r hr).1
      unfold rngC
      simp only []
      omega
    · rcases List.mem_cons.1 hr with rfl | hr
      · unfold rngC
        simp only []
        omega
      · have := ih2 r hr
        omega
theorem join_tiled {t g : Int} {L : List (Int × Nat)} (hne : L ≠ []) (h : Tiled t g L) (hg : g ≤ t) : joinR [] (L.map rngC) = [(g, t)] := by
  have := tiled_asc L g h
  rw [← sweep_join _ _ (fun r hr => (this.2 r hr).2) this.1 (List.Perm.refl _)]
  exact sweepL_tiled hne h hg
/-- What covers a prefix is the prefix. -/
theorem coverL_pre {v : Int} {n : Nat} (hn : n ≤ 128) (hz : v % 2 ^ (128 - n) = 0) : coverL v (v + 2 ^ (128 - n) - 1) = [(v, n)] := by
  have hp := pow_pos2 (128 - n)
  refine coverL_last (by omega) ⟨hn, ⟨hz, by omega⟩, fun j hj h => ?_⟩ (by omega)
  have h1 := h.2
  have h2 : (2 : Int) ^ (128 - j) ≤ 2 ^ (128 - n) := by omega
  have h3 : (2 : Int) ^ (128 - n + 1) ≤ 2 ^ (128 - j) := pow_le_pow (by omega)
  rw [Int.pow_succ] at h3
  omega
end Go.Proofs.YtcgdjnmfeibnoaaDoor
/-! SixRefJoinB -/
namespace Go.Proofs.YtcgdjnmfeibnoaaDoor
open Go.RowKit Go.Lib Go.Proofs.YtcgdjnmfeibnoaaDoorW.PrintWords
set_option linter.unusedVariables false
set_option linter.unusedSimpArgs false
theorem badZ_all {l : List Pz} (h : ∀ j y, j < l.length → l[j]? = some y → isZ y = true) : badZ l = -1 := by
  have := Lib.idxBy_miss (fun _ y => !isZ y) l l.length default (fun j hj => by
    rw [getElem!_pos l j hj, h j _ hj (List.getElem?_eq_getElem hj)]
    rfl)
  rwa [List.take_length] at this
end Go.Proofs.YtcgdjnmfeibnoaaDoor
/-! AppZ -/
namespace Go.Proofs.YtcgdjnmfeibnoaaDoor
open Go.RowKit
set_option linter.unusedVariables false
set_option linter.unusedSimpArgs false
theorem RdZ.take {W : World} {A : Option Addr} {l : List Pz} (h : RdZ W A l) (k : Nat) : RdZ W A (l.take k) := by
  intro j x hj
  refine h j x ?_
  rw [List.getElem?_take] at hj
  split at hj
  · exact hj
  · cases hj
theorem RdZ.drop {W : World} {A : Option Addr} {l : List Pz} {c : Nat} (h : RdZ W A l) (hc : l.length ≤ c) (k : Nat) : RdZ W (if c = k then A else A.map (·.add (k * 9))) (l.drop k) := by
  intro j x hj
  rw [List.getElem?_drop] at hj
  have hlt := (List.getElem?_eq_some_iff.1 hj).1
  obtain ⟨g, o, hA, hg, hcell⟩ := h (k + j) x hj
  subst hA
  rw [if_neg (by omega)]
  refine ⟨g, o + k * 9, ?_, hg, fun r hr => ?_⟩
  · rw [Option.map_some, Addr.add_lit]
  · rw [show o + k * 9 + (j * 9 + r) = o + ((k + j) * 9 + r) by omega]
    exact hcell r hr
end Go.Proofs.YtcgdjnmfeibnoaaDoor
/-! SixRefJoinZ -/
namespace Go.Proofs.YtcgdjnmfeibnoaaDoor
open Go.RowKit Go.Lib Go.Proofs.YtcgdjnmfeibnoaaDoorW.PrintWords
set_option linter.unusedVariables false
set_option linter.unusedSimpArgs false
/-- A variable that holds an address. -/
def BX (W : World) (b : Nat) (v : Int) : Prop := W.heap[b]? = some (.cells #[.int .u16 (pc 0 v), .int .u16 (pc 1 v), .int .u16 (pc 2 v), .int .u16 (pc 3 v), .int .u16 (pc 4 v), .int .u16 (pc 5 v), .int .u16 (pc 6 v), .int .u16 (pc 7 v)] 30 (0, 0))
theorem BX.below {W W' : World} {b : Nat} {v : Int} (h : BX W b v) (hb : Below W.heap.size W W') : BX W' b v := blk_below h hb
theorem BX.lt {W : World} {b : Nat} {v : Int} (h : BX W b v) : b < W.heap.size := blk_lt h
/-- A store into a new variable behind which one more was made. -/
@[go_sem] theorem storeR_new2 {n : Nat} (W : World) (o : Obj) (z0 z1 z2 z3 z4 z5 z6 z7 y0 y1 y2 y3 y4 y5 y6 y7 : Int) (hn : n = W.heap.size) :
    (storeR (.pointer (some ⟨n, 0, none⟩)) (.agg #[.int .u16 y0, .int .u16 y1, .int .u16 y2, .int .u16 y3, .int .u16 y4, .int .u16 y5, .int .u16 y6, .int .u16 y7])).run Tryd.prog ((W.alloc (.cells #[.int .u16 z0, .int .u16 z1, .int .u16 z2, .int .u16 z3, .int .u16 z4, .int .u16 z5, .int .u16 z6, .int .u16 z7] 30)).alloc o) = .ok () ((W.alloc (.cells #[.int .u16 y0, .int .u16 y1, .int .u16 y2, .int .u16 y3, .int .u16 y4, .int .u16 y5, .int .u16 y6, .int .u16 y7] 30)).alloc o) := by
  subst hn
  rw [storeR_old (blk_alloc (blk_new W _) o) rfl]
  congr 1
  simp only [World.setRow, World.alloc]
  congr 1
  apply Array.ext_getElem?
  intro i
  rw [Array.getElem?_modify]
  by_cases h : W.heap.size = i
  · subst h
    simp [Array.getElem?_push]
  · have h' : ¬ i = W.heap.size := fun e => h e.symm
    rw [if_neg h]
    simp [Array.getElem?_push, h']
/-- Where it stands within a range. -/
structure IR (w3 : World) (D : List Pz) (acc : List (Int × Int)) (a : Int) (bf bt : Nat) (v : Value) (j : Nat) (t : Int) (W : World) : Prop where
  wide : Wide t
  le : a ≤ t
  kf : BX W bf a
  kt : BX W bt t
  ne : bf ≠ bt
  far : ∀ k, v.ownBlock = some k → k ≠ bt
  own : W.ownsRow w3.heap.size 61 9 v (coverJ acc).length (pcells (coverJ acc))
  lo : w3.heap.size ≤ bf
  lo2 : w3.heap.size ≤ bt
  below : Below w3.heap.size w3 W
  sw : sweepL (D.map rngZ) = acc ++ sweep a t ((D.drop j).map rngZ)
theorem IR.keep {w3 : World} {D : List Pz} {acc : List (Int × Int)} {a : Int} {bf bt : Nat} {v : Value} {j : Nat} {t : Int} {W W' : World} (h : IR w3 D acc a bf bt v j t W) (hb : Below W.heap.size W W') : IR w3 D acc a bf bt v j t W' :=
  ⟨h.wide, h.le, h.kf.below hb, h.kt.below hb, h.ne, h.far, own_below h.own hb, h.lo, h.lo2, below_step h.below hb, h.sw⟩
theorem IR.step {w3 : World} {D : List Pz} {acc : List (Int × Int)} {a : Int} {bf bt : Nat} {v : Value} {j : Nat} {t : Int} {W : World} {y : Pz} (h : IR w3 D acc a bf bt v j t W) (hy : D[j]? = some y) (hle : (rngZ y).1 ≤ t + 1) : sweepL (D.map rngZ) = acc ++ sweep a (max t (rngZ y).2) ((D.drop (j + 1)).map rngZ) := by
  obtain ⟨hlt, e⟩ := List.getElem?_eq_some_iff.1 hy
  rw [h.sw, List.drop_eq_getElem_cons hlt, e, List.map_cons, sweep, if_pos hle]
theorem IR.stay {w3 : World} {D : List Pz} {acc : List (Int × Int)} {a : Int} {bf bt : Nat} {v : Value} {j : Nat} {t : Int} {W : World} {y : Pz} (h : IR w3 D acc a bf bt v j t W) (hy : D[j]? = some y) (hle : (rngZ y).1 ≤ t + 1) (hm : (rngZ y).2 ≤ t) : IR w3 D acc a bf bt v (j + 1) t W :=
  ⟨h.wide, h.le, h.kf, h.kt, h.ne, h.far, h.own, h.lo, h.lo2, h.below, by rw [h.step hy hle, Int.max_eq_left hm]⟩
theorem IR.move {w3 : World} {D : List Pz} {acc : List (Int × Int)} {a : Int} {bf bt : Nat} {v : Value} {j : Nat} {t : Int} {W W' : World} {y : Pz} (h : IR w3 D acc a bf bt v j t W) (hy : D[j]? = some y) (hle : (rngZ y).1 ≤ t + 1) (hw : Wide (rngZ y).2) (hm : t < (rngZ y).2) (hx : BX W' bt (rngZ y).2) (hbel : ∀ B w0, B ≤ bt → Below B w0 W → Below B w0 W') (hoth : ∀ b, b ≠ bt → W'.heap[b]? = W.heap[b]?) (hg : W.grownBy W' (some bt)) :
    IR w3 D acc a bf bt v (j + 1) (rngZ y).2 W' :=
  ⟨hw, by have := h.le; omega, (hoth bf h.ne).trans h.kf, hx, h.ne, h.far, h.own.kept hg (by
      cases hv : v.ownBlock with
      | none => exact Or.inl rfl
      | some k => exact Or.inr (by have := h.far k hv; simpa using this)), h.lo, h.lo2, hbel _ _ h.lo2 h.below, by rw [h.step hy hle, Int.max_eq_right (by omega)]⟩
end Go.Proofs.YtcgdjnmfeibnoaaDoor
/-! SixJoins -/
namespace Go.Proofs.YtcgdjnmfeibnoaaDoor
open Go.RowKit Go.Lib Go.Proofs.YtcgdjnmfeibnoaaDoorW.PrintWords
set_option linter.unusedVariables false
set_option linter.unusedSimpArgs false
def ofC (p : Int × Nat) : Pz := ⟨p.1, p.2⟩
theorem pcells_zcs (L : List (Int × Nat)) : pcells L = zcs (L.map ofC) := by
  unfold pcells zcs
  rw [List.flatMap_map]
  rfl
theorem own_max {W : World} {B n : Nat} {e : TypeId} {v : Value} {xs : List Value} (h : W.ownsRow B e 9 v n xs) : n ≤ 9223372036854775807 := by
  rcases h.2 with ⟨_, h0⟩ | ⟨g, cap, cur, _, _, _, hn, hm, _⟩
  · omega
  · exact Nat.le_trans hn (Nat.le_trans hm (by decide))
theorem own_zcs {W : World} {B : Nat} {e : TypeId} {v : Value} {L : List (Int × Nat)} (h : W.ownsRow B e 9 v L.length (pcells L)) : ∃ A c, v = .slice A (L.map ofC).length c ∧ (L.map ofC).length ≤ 9223372036854775807 ∧ RdZ W A (L.map ofC) := by
  have hm := own_max h
  rw [pcells_zcs] at h
  obtain ⟨A, c, e1, _, hR⟩ := rdz_own h (by simp)
  exact ⟨A, c, e1, by simpa using hm, hR⟩
end Go.Proofs.YtcgdjnmfeibnoaaDoor
/-! SixTiles -/
namespace Go.Proofs.YtcgdjnmfeibnoaaDoor
open Go.RowKit Go.Lib Go.Proofs.YtcgdjnmfeibnoaaDoorW.PrintWords
set_option linter.unusedVariables false
set_option linter.unusedSimpArgs false
/-- The law's own boxes. -/
structure TB (w : World) (lo hi : Int) (p : Pz) (W : World) : Prop where
  b0 : BA W w.heap.size lo
  b1 : BA W (w.heap.size + 1) hi
  b2 : W.heap[w.heap.size + 1 + 1]? = some (.cells #[.int .u16 (pc 0 p.a), .int .u16 (pc 1 p.a), .int .u16 (pc 2 p.a), .int .u16 (pc 3 p.a), .int .u16 (pc 4 p.a), .int .u16 (pc 5 p.a), .int .u16 (pc 6 p.a), .int .u16 (pc 7 p.a), .int .i64 p.n] 53 (0, 0))
  below : Below w.heap.size w W
theorem TB.keep {w : World} {lo hi : Int} {p : Pz} {W W' : World} (h : TB w lo hi p W) (hb : Below W.heap.size W W') : TB w lo hi p W' :=
  ⟨h.b0.below hb, h.b1.below hb, blk_below h.b2 hb, below_step h.below hb⟩
theorem tb_new (w : World) (va vb : Int) (p : Pz) : TB w va vb p (((w.alloc (.cells #[.int .u16 (pc 0 va), .int .u16 (pc 1 va), .int .u16 (pc 2 va), .int .u16 (pc 3 va), .int .u16 (pc 4 va), .int .u16 (pc 5 va), .int .u16 (pc 6 va), .int .u16 (pc 7 va)] 24)).alloc (.cells #[.int .u16 (pc 0 vb), .int .u16 (pc 1 vb), .int .u16 (pc 2 vb), .int .u16 (pc 3 vb), .int .u16 (pc 4 vb), .int .u16 (pc 5 vb), .int .u16 (pc 6 vb), .int .u16 (pc 7 vb)] 24)).alloc (.cells #[.int .u16 (pc 0 p.a), .int .u16 (pc 1 p.a), .int .u16 (pc 2 p.a), .int .u16 (pc 3 p.a), .int .u16 (pc 4 p.a), .int .u16 (pc 5 p.a), .int .u16 (pc 6 p.a), .int .u16 (pc 7 p.a), .int .i64 p.n] 53)) := by
  refine ⟨blk_alloc (blk_alloc (blk_new _ _) _) _, blk_alloc (blk_newS _ _ _) _, ?_, (((Below.refl _ _).alloc (Nat.le_refl _) _).alloc (by simp) _).alloc (by simp; omega) _⟩
  have := blk_newS (w.alloc (.cells #[.int .u16 (pc 0 va), .int .u16 (pc 1 va), .int .u16 (pc 2 va), .int .u16 (pc 3 va), .int .u16 (pc 4 va), .int .u16 (pc 5 va), .int .u16 (pc 6 va), .int .u16 (pc 7 va)] 24)) (.cells #[.int .u16 (pc 0 vb), .int .u16 (pc 1 vb), .int .u16 (pc 2 vb), .int .u16 (pc 3 vb), .int .u16 (pc 4 vb), .int .u16 (pc 5 vb), .int .u16 (pc 6 vb), .int .u16 (pc 7 vb)] 24) (.cells #[.int .u16 (pc 0 p.a), .int .u16 (pc 1 p.a), .int .u16 (pc 2 p.a), .int .u16 (pc 3 p.a), .int .u16 (pc 4 p.a), .int .u16 (pc 5 p.a), .int .u16 (pc 6 p.a), .int .u16 (pc 7 p.a), .int .i64 p.n] 53)
  rwa [World.size_alloc] at this
theorem cover_z {lo hi : Int} (hl : Wide lo) (hh : Wide hi) (h : lo ≤ hi) (w : World) (hg : 0 < w.heap.size) (hT : Tab w) :
    Calls Tryd.prog 10 #[AV lo, AV hi] w fun e w' => ∃ v, e = .returned (.tuple #[v, .int .i64 0]) ∧ w'.ownsRow w.heap.size 53 9 v (coverL lo hi).length (pcells (coverL lo hi)) ∧ Below w.heap.size w w' := by
  have := coverSome_walk _ _ _ _ _ _ _ _ _ _ _ _ _ _ _ _ (pc_r8 lo) (pc_r8 hi) (by rw [pc_v8 hl, pc_v8 hh]; exact h) w hg hT
  rw [pc_v8 hl, pc_v8 hh] at this
  exact this
theorem compare_z {a b : Int} (ha : Wide a) (hb : Wide b) (w : World) : Calls Tryd.prog 23 #[AV a, AV b] w fun e w' => e = .returned (.int .i64 (cmpI a b)) ∧ Below w.heap.size w w' := by
  have := compare_walk _ _ _ _ _ _ _ _ _ _ _ _ _ _ _ _ (pc_r8 a) (pc_r8 b) w
  rw [pc_v8 ha, pc_v8 hb] at this
  exact this
theorem snext_more {v : Int} (hv : Wide v) (h : v < 340282366920938463463374607431768211455) (w : World) :
    Calls Tryd.prog 25 #[AV v] w fun e w' => e = .returned (.tuple #[AV (v + 1), .bool true]) ∧ Below w.heap.size w w' := by
  have hN := next_walk _ _ _ _ _ _ _ _ (pc_r8 v) w
  rw [pc_v8 hv] at hN
  refine hN.mono ?_
  rintro e w' ⟨y0, y1, y2, y3, y4, y5, y6, y7, ok, rfl, hr, h1, h2, hb⟩
  cases ok with
  | false => have := (h2 rfl).1; omega
  | true =>
    obtain ⟨rfl, rfl, rfl, rfl, rfl, rfl, rfl, rfl⟩ := pc_of hr (h1 rfl)
    exact ⟨rfl, hb⟩
theorem snext_any {v : Int} (hv : Wide v) (w : World) :
    Calls Tryd.prog 25 #[AV v] w fun e w' => (∃ (y : Int) (ok : Bool), e = .returned (.tuple #[AV y, .bool ok])) ∧ Below w.heap.size w w' := by
  have hN := next_walk _ _ _ _ _ _ _ _ (pc_r8 v) w
  refine hN.mono ?_
  rintro e w' ⟨y0, y1, y2, y3, y4, y5, y6, y7, ok, rfl, hr, h1, h2, hb⟩
  exact ⟨⟨_, ok, by rw [a8_av hr]⟩, hb⟩
theorem cmpI_no {a b : Int} (h : a ≤ b) : ¬ 0 < cmpI a b := by
  unfold cmpI
  split
  · omega
  · first | omega | (split <;> omega)
/-- Where the loop over the prefixes stands. -/
def TZ (wS : World) (hi : Int) (L : List (Int × Nat)) (i : Value) (W : World) : Prop := ∃ (k : Nat) (v : Int), k ≤ L.length ∧ i = .int .i64 k ∧ BA W wS.heap.size v ∧ (k < L.length → 0 ≤ v ∧ Tiled hi v (L.drop k)) ∧ Below wS.heap.size wS W
theorem map_rng {hi : Int} (hh : Wide hi) : ∀ (L : List (Int × Nat)) (f : Int), 0 ≤ f → Tiled hi f L → (L.map ofC).map rngZ = L.map rngC ∧ okZ (L.map ofC)
  | [], f, h0, h => ⟨rfl, fun x hx => by simp at hx⟩
  | q :: L, f, h0, h => by
    obtain ⟨h1, h2, h3, h4, h5, h6⟩ := h
    have hp := pow_pos2 (128 - q.2)
    obtain ⟨i1, i2⟩ := map_rng hh L _ (by omega) h6
    have hw : Wide q.1 := ⟨by omega, by have := hh.2; omega⟩
    have hv : (ofC q).v = q.1 := pc_v8 hw
    refine ⟨?_, fun x hx => ?_⟩
    · rw [List.map_cons, List.map_cons, List.map_cons, i1]
      congr 1
      unfold rngZ rngC
      rw [hv]
      show (q.1, q.1 + 2 ^ (128 - (q.2 : Int)).toNat - 1) = _
      rw [show (128 - (q.2 : Int)).toNat = 128 - q.2 from by omega]
    · rcases List.mem_cons.1 hx with rfl | hx
      · refine ⟨?_, hw⟩
        unfold isZ
        rw [hv]
        show isPre q.1 (q.2 : Int) = true
        rw [isPre_mod h2, decide_eq_true_eq, h1]
        exact h3
      · exact i2 x hx
theorem rng_one {f : Int} {n : Nat} (hw : Wide f) (hn : n ≤ 128) : (rngZ (ofC (f, n))).2 = f + 2 ^ (128 - n) - 1 := by
  have hv : (ofC (f, n)).v = f := pc_v8 hw
  unfold rngZ
  rw [hv]
  show f + 2 ^ (128 - (n : Int)).toNat - 1 = _
  rw [show (128 - (n : Int)).toNat = 128 - n from by omega]
set_option maxHeartbeats 4000000 in
set_option maxRecDepth 100000 in
theorem tiles_walk (va vb : Int) (ha : Wide va) (hb : Wide vb) (p : Pz) (hp : Wide p.a) (w : World) (hg : 0 < w.heap.size) (hT : Tab w) :
    Calls Tryd.prog 7 #[AV va, AV vb, PV p.a p.n] w fun e w' => e = .returned (.bool true) ∧ Below w.heap.size w w' := by
  have h0 := tb_new w va vb p
  go_enter Tryd.func7, Tryd.ntmps7
  go_upto_region 1 with fail
  generalize ((w.alloc (.cells #[.int .u16 (pc 0 va), .int .u16 (pc 1 va), .int .u16 (pc 2 va), .int .u16 (pc 3 va), .int .u16 (pc 4 va), .int .u16 (pc 5 va), .int .u16 (pc 6 va), .int .u16 (pc 7 va)] 24)).alloc (.cells #[.int .u16 (pc 0 vb), .int .u16 (pc 1 vb), .int .u16 (pc 2 vb), .int .u16 (pc 3 vb), .int .u16 (pc 4 vb), .int .u16 (pc 5 vb), .int .u16 (pc 6 vb), .int .u16 (pc 7 vb)] 24)).alloc (.cells #[.int .u16 (pc 0 p.a), .int .u16 (pc 1 p.a), .int .u16 (pc 2 p.a), .int .u16 (pc 3 p.a), .int .u16 (pc 4 p.a), .int .u16 (pc 5 p.a), .int .u16 (pc 6 p.a), .int .u16 (pc 7 p.a), .int .i64 p.n] 53) = W0 at *
  have HTB := Lib.hid h0
  have hTw := Lib.hid hT
  have HPW := Lib.hid hp
  have HCM := Lib.hid (compare_z ha hb)
  clear h0 hT hp
  obtain ⟨lo, hi, hlo, hhi, hle, hsw⟩ : ∃ lo hi, Wide lo ∧ Wide hi ∧ lo ≤ hi ∧ ((va ≤ vb ∧ lo = va ∧ hi = vb) ∨ (vb < va ∧ lo = vb ∧ hi = va)) := by
    by_cases h : va ≤ vb
    · exact ⟨va, vb, ha, hb, h, .inl ⟨h, rfl, rfl⟩⟩
    · exact ⟨vb, va, hb, ha, by omega, .inr ⟨by omega, rfl, rfl⟩⟩
  have HLO := Lib.hid (And.intro hlo (And.intro hhi hle))
  clear hlo hhi hle ha hb
  have a0 := (blk_cell HTB.out.b0 0).trans (show _ = some (Value.int .u16 (pc 0 va)) from rfl)
  have a1 := (blk_cell HTB.out.b0 1).trans (show _ = some (Value.int .u16 (pc 1 va)) from rfl)
  have a2 := (blk_cell HTB.out.b0 2).trans (show _ = some (Value.int .u16 (pc 2 va)) from rfl)
  have a3 := (blk_cell HTB.out.b0 3).trans (show _ = some (Value.int .u16 (pc 3 va)) from rfl)
  have a4 := (blk_cell HTB.out.b0 4).trans (show _ = some (Value.int .u16 (pc 4 va)) from rfl)
  have a5 := (blk_cell HTB.out.b0 5).trans (show _ = some (Value.int .u16 (pc 5 va)) from rfl)
  have a6 := (blk_cell HTB.out.b0 6).trans (show _ = some (Value.int .u16 (pc 6 va)) from rfl)
  have a7 := (blk_cell HTB.out.b0 7).trans (show _ = some (Value.int .u16 (pc 7 va)) from rfl)
  have b0 := (blk_cell HTB.out.b1 0).trans (show _ = some (Value.int .u16 (pc 0 vb)) from rfl)
  have b1 := (blk_cell HTB.out.b1 1).trans (show _ = some (Value.int .u16 (pc 1 vb)) from rfl)
  have b2 := (blk_cell HTB.out.b1 2).trans (show _ = some (Value.int .u16 (pc 2 vb)) from rfl)
  have b3 := (blk_cell HTB.out.b1 3).trans (show _ = some (Value.int .u16 (pc 3 vb)) from rfl)
  have b4 := (blk_cell HTB.out.b1 4).trans (show _ = some (Value.int .u16 (pc 4 vb)) from rfl)
  have b5 := (blk_cell HTB.out.b1 5).trans (show _ = some (Value.int .u16 (pc 5 vb)) from rfl)
  have b6 := (blk_cell HTB.out.b1 6).trans (show _ = some (Value.int .u16 (pc 6 vb)) from rfl)
  have b7 := (blk_cell HTB.out.b1 7).trans (show _ = some (Value.int .u16 (pc 7 vb)) from rfl)
  have hl0 := HTB.out.b0.lt
  have hl1 := HTB.out.b1.lt
  go_upto_if 27 with fail
  refine (HCM.out _).mono ?_
  rintro e w1 ⟨rfl, hb1⟩
  have HT1 := Lib.hid (HTB.out.keep hb1)
  clear a0 a1 a2 a3 a4 a5 a6 a7 b0 b1 b2 b3 b4 b5 b6 b7 hl0 hl1 hb1 HTB
  go_upto_if 27 with fail
  go_cut [] (fun W => TB w lo hi p W)
  case first =>
    rcases hsw with ⟨hv, rfl, rfl⟩ | ⟨hv, rfl, rfl⟩
    · have hc : ¬ 0 < cmpI lo hi := by
        unfold cmpI
        split
        · omega
        · first | omega | (split <;> omega)
      generalize cmpI lo hi = c at *
      go_wp2_with fail
      go_meet
      exact HT1.out
    · rw [cmpI_gt hv]
      have a0 := (blk_cell HT1.out.b0 0).trans (show _ = some (Value.int .u16 (pc 0 hi)) from rfl)
      have a1 := (blk_cell HT1.out.b0 1).trans (show _ = some (Value.int .u16 (pc 1 hi)) from rfl)
      have a2 := (blk_cell HT1.out.b0 2).trans (show _ = some (Value.int .u16 (pc 2 hi)) from rfl)
      have a3 := (blk_cell HT1.out.b0 3).trans (show _ = some (Value.int .u16 (pc 3 hi)) from rfl)
      have a4 := (blk_cell HT1.out.b0 4).trans (show _ = some (Value.int .u16 (pc 4 hi)) from rfl)
      have a5 := (blk_cell HT1.out.b0 5).trans (show _ = some (Value.int .u16 (pc 5 hi)) from rfl)
      have a6 := (blk_cell HT1.out.b0 6).trans (show _ = some (Value.int .u16 (pc 6 hi)) from rfl)
      have a7 := (blk_cell HT1.out.b0 7).trans (show _ = some (Value.int .u16 (pc 7 hi)) from rfl)
      have b0 := (blk_cell HT1.out.b1 0).trans (show _ = some (Value.int .u16 (pc 0 lo)) from rfl)
      have b1 := (blk_cell HT1.out.b1 1).trans (show _ = some (Value.int .u16 (pc 1 lo)) from rfl)
      have b2 := (blk_cell HT1.out.b1 2).trans (show _ = some (Value.int .u16 (pc 2 lo)) from rfl)
      have b3 := (blk_cell HT1.out.b1 3).trans (show _ = some (Value.int .u16 (pc 3 lo)) from rfl)
      have b4 := (blk_cell HT1.out.b1 4).trans (show _ = some (Value.int .u16 (pc 4 lo)) from rfl)
      have b5 := (blk_cell HT1.out.b1 5).trans (show _ = some (Value.int .u16 (pc 5 lo)) from rfl)
      have b6 := (blk_cell HT1.out.b1 6).trans (show _ = some (Value.int .u16 (pc 6 lo)) from rfl)
      have b7 := (blk_cell HT1.out.b1 7).trans (show _ = some (Value.int .u16 (pc 7 lo)) from rfl)
      have hl0 := HT1.out.b0.lt
      have hl1 := HT1.out.b1.lt
      obtain ⟨wA, hA, xA, bA, oA, _⟩ := store_toS HT1.out.b0 rfl lo
      obtain ⟨wB, hB, xB, bB, oB, _⟩ := store_toS ((oA (w.heap.size + 1) (by omega)).trans HT1.out.b1) rfl hi
      have HF := Lib.hid (show TB w lo hi p wB from ⟨(oB _ (by omega)).trans xA, xB, (oB _ (by omega)).trans ((oA _ (by omega)).trans HT1.out.b2), bB _ _ (by omega) (bA _ _ (Nat.le_refl _) HT1.out.below)⟩)
      clear xA bA oA xB bB oB
      go_wp2_with fail
      go_meet
      exact HF.out
  case rest =>
    have HTB := Lib.hid hcut
    clear hcut
    clear hsw HCM HT1
    obtain ⟨L, hL⟩ : ∃ L, L = coverL lo hi := ⟨_, rfl⟩
    have hfew := coverL_few HLO.out.1 HLO.out.2.1 HLO.out.2.2
    have htil := coverL_tiled _ lo (Nat.le_refl _) HLO.out.2.2
    have hne := coverL_ne lo hi
    rw [← hL] at hfew htil hne
    have HC := Lib.hid (cover_z HLO.out.1 HLO.out.2.1 HLO.out.2.2)
    rw [← hL] at HC
    have HL := Lib.hid hL
    have HTIL := Lib.hid htil
    have HNE := Lib.hid hne
    have hlp : 0 < L.length := List.length_pos_iff.2 hne
    have hg2 : 0 < wc.heap.size := Nat.lt_of_lt_of_le hg HTB.out.below.size
    clear hL htil hne
    have a0 := (blk_cell HTB.out.b0 0).trans (show _ = some (Value.int .u16 (pc 0 lo)) from rfl)
    have a1 := (blk_cell HTB.out.b0 1).trans (show _ = some (Value.int .u16 (pc 1 lo)) from rfl)
    have a2 := (blk_cell HTB.out.b0 2).trans (show _ = some (Value.int .u16 (pc 2 lo)) from rfl)
    have a3 := (blk_cell HTB.out.b0 3).trans (show _ = some (Value.int .u16 (pc 3 lo)) from rfl)
    have a4 := (blk_cell HTB.out.b0 4).trans (show _ = some (Value.int .u16 (pc 4 lo)) from rfl)
    have a5 := (blk_cell HTB.out.b0 5).trans (show _ = some (Value.int .u16 (pc 5 lo)) from rfl)
    have a6 := (blk_cell HTB.out.b0 6).trans (show _ = some (Value.int .u16 (pc 6 lo)) from rfl)
    have a7 := (blk_cell HTB.out.b0 7).trans (show _ = some (Value.int .u16 (pc 7 lo)) from rfl)
    have b0 := (blk_cell HTB.out.b1 0).trans (show _ = some (Value.int .u16 (pc 0 hi)) from rfl)
    have b1 := (blk_cell HTB.out.b1 1).trans (show _ = some (Value.int .u16 (pc 1 hi)) from rfl)
    have b2 := (blk_cell HTB.out.b1 2).trans (show _ = some (Value.int .u16 (pc 2 hi)) from rfl)
    have b3 := (blk_cell HTB.out.b1 3).trans (show _ = some (Value.int .u16 (pc 3 hi)) from rfl)
    have b4 := (blk_cell HTB.out.b1 4).trans (show _ = some (Value.int .u16 (pc 4 hi)) from rfl)
    have b5 := (blk_cell HTB.out.b1 5).trans (show _ = some (Value.int .u16 (pc 5 hi)) from rfl)
    have b6 := (blk_cell HTB.out.b1 6).trans (show _ = some (Value.int .u16 (pc 6 hi)) from rfl)
    have b7 := (blk_cell HTB.out.b1 7).trans (show _ = some (Value.int .u16 (pc 7 hi)) from rfl)
    have hl0 := HTB.out.b0.lt
    have hl1 := HTB.out.b1.lt
    go_wp2_with fail
    refine (HC.out _ hg2 (hTw.out.keep (B := w.heap.size) hg HTB.out.below)).mono ?_
    rintro e w2 ⟨v, rfl, hown, hb2⟩
    have HTB := Lib.hid (HTB.out.keep hb2)
    obtain ⟨AL, cL, rfl, hmax, hRL⟩ := own_zcs hown
    rw [List.length_map] at hmax ⊢
    have HRL := Lib.hid hRL
    clear a0 a1 a2 a3 a4 a5 a6 a7 b0 b1 b2 b3 b4 b5 b6 b7 hl0 hl1 hb2 hown hRL HC
    have hL0 : ((L.length : Int) == 0) = false := by
      rw [beq_eq_false_iff_ne]
      omega
    go_wp2_with fail
    refine (awake_walk _).mono ?_
    rintro e w3 ⟨rfl, hb3⟩
    have HTB := Lib.hid (HTB.out.keep hb3)
    have HRL := Lib.hid (HRL.out.keep hb3)
    have a0 := (blk_cell HTB.out.b0 0).trans (show _ = some (Value.int .u16 (pc 0 lo)) from rfl)
    have a1 := (blk_cell HTB.out.b0 1).trans (show _ = some (Value.int .u16 (pc 1 lo)) from rfl)
    have a2 := (blk_cell HTB.out.b0 2).trans (show _ = some (Value.int .u16 (pc 2 lo)) from rfl)
    have a3 := (blk_cell HTB.out.b0 3).trans (show _ = some (Value.int .u16 (pc 3 lo)) from rfl)
    have a4 := (blk_cell HTB.out.b0 4).trans (show _ = some (Value.int .u16 (pc 4 lo)) from rfl)
    have a5 := (blk_cell HTB.out.b0 5).trans (show _ = some (Value.int .u16 (pc 5 lo)) from rfl)
    have a6 := (blk_cell HTB.out.b0 6).trans (show _ = some (Value.int .u16 (pc 6 lo)) from rfl)
    have a7 := (blk_cell HTB.out.b0 7).trans (show _ = some (Value.int .u16 (pc 7 lo)) from rfl)
    have hl0 := HTB.out.b0.lt
    clear hb3
    go_wp2_with fail
    have hl3 : w.heap.size ≤ w3.heap.size := HTB.out.below.size
    have hat := ba_new w3 lo
    have hb3 : Below w3.heap.size w3 (w3.alloc (.cells #[.int .u16 (pc 0 lo), .int .u16 (pc 1 lo), .int .u16 (pc 2 lo), .int .u16 (pc 3 lo), .int .u16 (pc 4 lo), .int .u16 (pc 5 lo), .int .u16 (pc 6 lo), .int .u16 (pc 7 lo)] 24)) := (Below.refl _ _).alloc (Nat.le_refl _) _
    have HAT := Lib.hid (And.intro hat hb3)
    clear hat hb3 a0 a1 a2 a3 a4 a5 a6 a7 hl0
    go_loopw [10] (fun i W => TZ w3 hi L i W) (fun i _ => L.length - (intOf i).toNat)
    case atStart => exact ⟨0, lo, Nat.zero_le _, rfl, HAT.out.1, fun _ => ⟨HLO.out.1.1, HTIL.out⟩, HAT.out.2⟩
    case round =>
      obtain ⟨k, v, hk, rfl, hv, htl, hbw⟩ := hrel
      have HTB' := Lib.hid (HTB.out.keep hbw)
      have HRL' := Lib.hid (HRL.out.keep hbw)
      have HV := Lib.hid hv
      have HBW := Lib.hid hbw
      have HTL := Lib.hid htl
      clear hv hbw htl
      by_cases hlt : k < L.length
      · obtain ⟨h0v, htl2⟩ := HTL.out hlt
        obtain ⟨q, hq⟩ : ∃ q, L[k]? = some q := ⟨L[k], List.getElem?_eq_getElem hlt⟩
        have hdr : L.drop k = q :: L.drop (k + 1) := by
          rw [List.drop_eq_getElem_cons hlt, (List.getElem?_eq_some_iff.1 hq).2]
        rw [hdr] at htl2
        obtain ⟨f, n⟩ := q
        obtain ⟨h1, h2, h3, h4, h5, h6⟩ := htl2
        have h1 : f = v := h1
        subst h1
        have h2 : n ≤ 128 := h2
        have h3 : f % 2 ^ (128 - n) = 0 := h3
        have h4 : f + 2 ^ (128 - n) - 1 ≤ hi := h4
        have h5 : L.drop (k + 1) = [] → f + 2 ^ (128 - n) - 1 = hi := h5
        have h6 : Tiled hi (f + 2 ^ (128 - n)) (L.drop (k + 1)) := h6
        have hx : (L.map ofC)[k]? = some (ofC (f, n)) := by rw [List.getElem?_map, hq]; rfl
        have hwf : Wide f := ⟨h0v, by have := pow_pos2 (128 - n); have := HLO.out.2.1.2; omega⟩
        have hz : isZ (ofC (f, n)) = true := by
          unfold isZ
          rw [show (ofC (f, n)).v = f from pc_v8 hwf]
          show isPre f (n : Int) = true
          rw [isPre_mod h2, decide_eq_true_eq]
          exact h3
        have HBO : ∀ w : World, Calls Tryd.prog 24 #[PV f (n : Int)] w fun e w' => e = .returned (.tuple #[AV f, AV (f + 2 ^ (128 - n) - 1), .int .i64 0]) ∧ Below w.heap.size w w' := fun w => by
          have := bounds_walk hz hwf w
          rw [rng_one hwf h2] at this
          exact this
        have hpp := pow_pos2 (128 - n)
        obtain ⟨t, et⟩ : ∃ t, t = f + 2 ^ (128 - n) - 1 := ⟨_, rfl⟩
        have hft : f ≤ t := by omega
        have hwt : Wide t := ⟨by omega, by have := HLO.out.2.1.2; omega⟩
        rw [← et] at HBO h4
        rw [← et] at h5
        rw [show f + 2 ^ (128 - n) = t + 1 from by omega] at h6
        have HBO := Lib.hid HBO
        have HCT := Lib.hid (compare_z hwf hwt)
        have HN := Lib.hid (And.intro h4 (And.intro h5 (And.intro h6 hwt)))
        clear et hpp h3 h4 h5 h6 hdr hz hwt h0v
        obtain ⟨g, o, rfl, hg', hc⟩ := HRL'.out k _ hx
        have c0 := (hc 0 (by decide)).trans (show (zc (ofC (f, n)))[0]? = some (.int .u16 (pc 0 f)) from rfl)
        have c1 := (hc 1 (by decide)).trans (show (zc (ofC (f, n)))[1]? = some (.int .u16 (pc 1 f)) from rfl)
        have c2 := (hc 2 (by decide)).trans (show (zc (ofC (f, n)))[2]? = some (.int .u16 (pc 2 f)) from rfl)
        have c3 := (hc 3 (by decide)).trans (show (zc (ofC (f, n)))[3]? = some (.int .u16 (pc 3 f)) from rfl)
        have c4 := (hc 4 (by decide)).trans (show (zc (ofC (f, n)))[4]? = some (.int .u16 (pc 4 f)) from rfl)
        have c5 := (hc 5 (by decide)).trans (show (zc (ofC (f, n)))[5]? = some (.int .u16 (pc 5 f)) from rfl)
        have c6 := (hc 6 (by decide)).trans (show (zc (ofC (f, n)))[6]? = some (.int .u16 (pc 6 f)) from rfl)
        have c7 := (hc 7 (by decide)).trans (show (zc (ofC (f, n)))[7]? = some (.int .u16 (pc 7 f)) from rfl)
        have c8 := (hc 8 (by decide)).trans (show (zc (ofC (f, n)))[8]? = some (.int .i64 (n : Int)) from rfl)
        simp only [Nat.add_zero, ← Nat.add_assoc] at c0 c1 c2 c3 c4 c5 c6 c7 c8
        clear hc hx hq
        go_wp2_with fail
        refine (HBO.out _).mono ?_
        rintro e V1 ⟨rfl, hv1⟩
        have HV1 := Lib.hid (HV.out.below hv1)
        have hB1 := below_step HBW.out hv1
        clear c0 c1 c2 c3 c4 c5 c6 c7 c8 hv1 hg'
        go_upto_region 11 with fail
        have hx1 : BA ((V1.alloc (.cells #[.int .u16 (pc 0 f), .int .u16 (pc 1 f), .int .u16 (pc 2 f), .int .u16 (pc 3 f), .int .u16 (pc 4 f), .int .u16 (pc 5 f), .int .u16 (pc 6 f), .int .u16 (pc 7 f)] 24)).alloc (.cells #[.int .u16 (pc 0 t), .int .u16 (pc 1 t), .int .u16 (pc 2 t), .int .u16 (pc 3 t), .int .u16 (pc 4 t), .int .u16 (pc 5 t), .int .u16 (pc 6 t), .int .u16 (pc 7 t)] 24)) V1.heap.size f := blk_alloc (ba_new V1 f) _
        have hx2 : BA ((V1.alloc (.cells #[.int .u16 (pc 0 f), .int .u16 (pc 1 f), .int .u16 (pc 2 f), .int .u16 (pc 3 f), .int .u16 (pc 4 f), .int .u16 (pc 5 f), .int .u16 (pc 6 f), .int .u16 (pc 7 f)] 24)).alloc (.cells #[.int .u16 (pc 0 t), .int .u16 (pc 1 t), .int .u16 (pc 2 t), .int .u16 (pc 3 t), .int .u16 (pc 4 t), .int .u16 (pc 5 t), .int .u16 (pc 6 t), .int .u16 (pc 7 t)] 24)) (V1.heap.size + 1) t := blk_newS _ _ _
        have hx3 : BA ((V1.alloc (.cells #[.int .u16 (pc 0 f), .int .u16 (pc 1 f), .int .u16 (pc 2 f), .int .u16 (pc 3 f), .int .u16 (pc 4 f), .int .u16 (pc 5 f), .int .u16 (pc 6 f), .int .u16 (pc 7 f)] 24)).alloc (.cells #[.int .u16 (pc 0 t), .int .u16 (pc 1 t), .int .u16 (pc 2 t), .int .u16 (pc 3 t), .int .u16 (pc 4 t), .int .u16 (pc 5 t), .int .u16 (pc 6 t), .int .u16 (pc 7 t)] 24)) w3.heap.size f := blk_alloc (blk_alloc HV1.out _) _
        have hB2 : Below w3.heap.size w3 ((V1.alloc (.cells #[.int .u16 (pc 0 f), .int .u16 (pc 1 f), .int .u16 (pc 2 f), .int .u16 (pc 3 f), .int .u16 (pc 4 f), .int .u16 (pc 5 f), .int .u16 (pc 6 f), .int .u16 (pc 7 f)] 24)).alloc (.cells #[.int .u16 (pc 0 t), .int .u16 (pc 1 t), .int .u16 (pc 2 t), .int .u16 (pc 3 t), .int .u16 (pc 4 t), .int .u16 (pc 5 t), .int .u16 (pc 6 t), .int .u16 (pc 7 t)] 24)) := (hB1.alloc hB1.size _).alloc (hB1.alloc hB1.size _).size _
        generalize (V1.alloc (.cells #[.int .u16 (pc 0 f), .int .u16 (pc 1 f), .int .u16 (pc 2 f), .int .u16 (pc 3 f), .int .u16 (pc 4 f), .int .u16 (pc 5 f), .int .u16 (pc 6 f), .int .u16 (pc 7 f)] 24)).alloc (.cells #[.int .u16 (pc 0 t), .int .u16 (pc 1 t), .int .u16 (pc 2 t), .int .u16 (pc 3 t), .int .u16 (pc 4 t), .int .u16 (pc 5 t), .int .u16 (pc 6 t), .int .u16 (pc 7 t)] 24) = W2 at *
        generalize V1.heap.size = b1 at *
        have a0 := (blk_cell hx1 0).trans (show _ = some (Value.int .u16 (pc 0 f)) from rfl)
        have a1 := (blk_cell hx1 1).trans (show _ = some (Value.int .u16 (pc 1 f)) from rfl)
        have a2 := (blk_cell hx1 2).trans (show _ = some (Value.int .u16 (pc 2 f)) from rfl)
        have a3 := (blk_cell hx1 3).trans (show _ = some (Value.int .u16 (pc 3 f)) from rfl)
        have a4 := (blk_cell hx1 4).trans (show _ = some (Value.int .u16 (pc 4 f)) from rfl)
        have a5 := (blk_cell hx1 5).trans (show _ = some (Value.int .u16 (pc 5 f)) from rfl)
        have a6 := (blk_cell hx1 6).trans (show _ = some (Value.int .u16 (pc 6 f)) from rfl)
        have a7 := (blk_cell hx1 7).trans (show _ = some (Value.int .u16 (pc 7 f)) from rfl)
        have b0 := (blk_cell hx3 0).trans (show _ = some (Value.int .u16 (pc 0 f)) from rfl)
        have b1 := (blk_cell hx3 1).trans (show _ = some (Value.int .u16 (pc 1 f)) from rfl)
        have b2 := (blk_cell hx3 2).trans (show _ = some (Value.int .u16 (pc 2 f)) from rfl)
        have b3 := (blk_cell hx3 3).trans (show _ = some (Value.int .u16 (pc 3 f)) from rfl)
        have b4 := (blk_cell hx3 4).trans (show _ = some (Value.int .u16 (pc 4 f)) from rfl)
        have b5 := (blk_cell hx3 5).trans (show _ = some (Value.int .u16 (pc 5 f)) from rfl)
        have b6 := (blk_cell hx3 6).trans (show _ = some (Value.int .u16 (pc 6 f)) from rfl)
        have b7 := (blk_cell hx3 7).trans (show _ = some (Value.int .u16 (pc 7 f)) from rfl)
        have d0 := (blk_cell hx2 0).trans (show _ = some (Value.int .u16 (pc 0 t)) from rfl)
        have d1 := (blk_cell hx2 1).trans (show _ = some (Value.int .u16 (pc 1 t)) from rfl)
        have d2 := (blk_cell hx2 2).trans (show _ = some (Value.int .u16 (pc 2 t)) from rfl)
        have d3 := (blk_cell hx2 3).trans (show _ = some (Value.int .u16 (pc 3 t)) from rfl)
        have d4 := (blk_cell hx2 4).trans (show _ = some (Value.int .u16 (pc 4 t)) from rfl)
        have d5 := (blk_cell hx2 5).trans (show _ = some (Value.int .u16 (pc 5 t)) from rfl)
        have d6 := (blk_cell hx2 6).trans (show _ = some (Value.int .u16 (pc 6 t)) from rfl)
        have d7 := (blk_cell hx2 7).trans (show _ = some (Value.int .u16 (pc 7 t)) from rfl)
        have hl1 := hx1.lt
        have hl2 := hx2.lt
        have hl3' := hx3.lt
        have hc := cmpI_no hft
        go_wp2_with fail
        refine (HCT.out _).mono ?_
        rintro e W3 ⟨rfl, hb3⟩
        generalize cmpI f t = c at *
        have hy2 := Lib.hid (hx2.below hb3)
        have hy3 := Lib.hid (hx3.below hb3)
        have hB3 := Lib.hid (below_step hB2 hb3)
        clear a0 a1 a2 a3 a4 a5 a6 a7 b0 b1 b2 b3 b4 b5 b6 b7 d0 d1 d2 d3 d4 d5 d6 d7 hl1 hl2 hl3' hb3 hB2 hx1 hx2 hx3
        have d0 := (blk_cell hy2.out 0).trans (show _ = some (Value.int .u16 (pc 0 t)) from rfl)
        have d1 := (blk_cell hy2.out 1).trans (show _ = some (Value.int .u16 (pc 1 t)) from rfl)
        have d2 := (blk_cell hy2.out 2).trans (show _ = some (Value.int .u16 (pc 2 t)) from rfl)
        have d3 := (blk_cell hy2.out 3).trans (show _ = some (Value.int .u16 (pc 3 t)) from rfl)
        have d4 := (blk_cell hy2.out 4).trans (show _ = some (Value.int .u16 (pc 4 t)) from rfl)
        have d5 := (blk_cell hy2.out 5).trans (show _ = some (Value.int .u16 (pc 5 t)) from rfl)
        have d6 := (blk_cell hy2.out 6).trans (show _ = some (Value.int .u16 (pc 6 t)) from rfl)
        have d7 := (blk_cell hy2.out 7).trans (show _ = some (Value.int .u16 (pc 7 t)) from rfl)
        have hl2 := hy2.out.lt
        by_cases hlast : k + 1 = L.length
        · have HNX := Lib.hid (snext_any HN.out.2.2.2)
          go_wp2_with fail
          refine (HNX.out _).mono ?_
          rintro e W4 ⟨⟨y, ok, rfl⟩, hb4⟩
          have hB4 := below_step hB3.out hb4
          have hz2 := Lib.hid (hy2.out.below hb4)
          have hz3 := hy3.out.below hb4
          have HT4 := HTB.out.keep hB4
          obtain ⟨wS, hS, xS, bS, _, _⟩ := store_toS (blk_alloc hz3 (.cells #[.int .u16 (pc 0 y), .int .u16 (pc 1 y), .int .u16 (pc 2 y), .int .u16 (pc 3 y), .int .u16 (pc 4 y), .int .u16 (pc 5 y), .int .u16 (pc 6 y), .int .u16 (pc 7 y)] 24)) rfl y
          have hBS := bS w3.heap.size w3 (Nat.le_refl _) (hB4.alloc hB4.size _)
          have HREL := Lib.hid (show TZ w3 hi L (.int .i64 (L.length : Int)) wS from ⟨L.length, y, Nat.le_refl _, rfl, xS, fun h => absurd h (by omega), hBS⟩)
          have eth : t = hi := HN.out.2.1 (List.drop_of_length_le (by omega))
          have hh : BA W4 (w.heap.size + 1) t := by rw [eth]; exact HT4.b1
          have b0 := (blk_cell hh 0).trans (show _ = some (Value.int .u16 (pc 0 t)) from rfl)
          have b1 := (blk_cell hh 1).trans (show _ = some (Value.int .u16 (pc 1 t)) from rfl)
          have b2 := (blk_cell hh 2).trans (show _ = some (Value.int .u16 (pc 2 t)) from rfl)
          have b3 := (blk_cell hh 3).trans (show _ = some (Value.int .u16 (pc 3 t)) from rfl)
          have b4 := (blk_cell hh 4).trans (show _ = some (Value.int .u16 (pc 4 t)) from rfl)
          have b5 := (blk_cell hh 5).trans (show _ = some (Value.int .u16 (pc 5 t)) from rfl)
          have b6 := (blk_cell hh 6).trans (show _ = some (Value.int .u16 (pc 6 t)) from rfl)
          have b7 := (blk_cell hh 7).trans (show _ = some (Value.int .u16 (pc 7 t)) from rfl)
          have hlb := hh.lt
          have hkl : (k : Int) = (L.length : Int) - 1 := by omega
          clear hh eth HT4
          clear d0 d1 d2 d3 d4 d5 d6 d7 hl2 hb4 hB4 hz3 xS bS hBS
          have d0 := (blk_cell hz2.out 0).trans (show _ = some (Value.int .u16 (pc 0 t)) from rfl)
          have d1 := (blk_cell hz2.out 1).trans (show _ = some (Value.int .u16 (pc 1 t)) from rfl)
          have d2 := (blk_cell hz2.out 2).trans (show _ = some (Value.int .u16 (pc 2 t)) from rfl)
          have d3 := (blk_cell hz2.out 3).trans (show _ = some (Value.int .u16 (pc 3 t)) from rfl)
          have d4 := (blk_cell hz2.out 4).trans (show _ = some (Value.int .u16 (pc 4 t)) from rfl)
          have d5 := (blk_cell hz2.out 5).trans (show _ = some (Value.int .u16 (pc 5 t)) from rfl)
          have d6 := (blk_cell hz2.out 6).trans (show _ = some (Value.int .u16 (pc 6 t)) from rfl)
          have d7 := (blk_cell hz2.out 7).trans (show _ = some (Value.int .u16 (pc 7 t)) from rfl)
          have hl2 := hz2.out.lt
          go_wp2_with fail
          exact ⟨HREL.out, by simp [intOf]; omega⟩
        · have hmore : t + 1 ≤ hi := by
            have h6 := HN.out.2.2.1
            rw [List.drop_eq_getElem_cons (show k + 1 < L.length by omega)] at h6
            obtain ⟨_, _, _, h, _⟩ := h6
            have := pow_pos2 (128 - (L[k + 1]).2)
            omega
          have HNX := Lib.hid (snext_more HN.out.2.2.2 (by have := HLO.out.2.1.2; omega))
          go_wp2_with fail
          refine (HNX.out _).mono ?_
          rintro e W4 ⟨rfl, hb4⟩
          have hB4 := below_step hB3.out hb4
          have hz2 := Lib.hid (hy2.out.below hb4)
          have hz3 := hy3.out.below hb4
          have HT4 := HTB.out.keep hB4
          obtain ⟨wS, hS, xS, bS, _, _⟩ := store_toS (blk_alloc hz3 (.cells #[.int .u16 (pc 0 (t + 1)), .int .u16 (pc 1 (t + 1)), .int .u16 (pc 2 (t + 1)), .int .u16 (pc 3 (t + 1)), .int .u16 (pc 4 (t + 1)), .int .u16 (pc 5 (t + 1)), .int .u16 (pc 6 (t + 1)), .int .u16 (pc 7 (t + 1))] 24)) rfl (t + 1)
          have hBS := bS w3.heap.size w3 (Nat.le_refl _) (hB4.alloc hB4.size _)
          have HREL := Lib.hid (show TZ w3 hi L (.int .i64 ((k : Int) + 1)) wS from ⟨k + 1, t + 1, by omega, by simp, xS, fun _ => ⟨by have := HN.out.2.2.2.1; omega, HN.out.2.2.1⟩, hBS⟩)
          have hkl : ¬ (k : Int) = (L.length : Int) - 1 := by omega
          clear HT4
          clear d0 d1 d2 d3 d4 d5 d6 d7 hl2 hb4 hB4 hz3 xS bS hBS
          have d0 := (blk_cell hz2.out 0).trans (show _ = some (Value.int .u16 (pc 0 t)) from rfl)
          have d1 := (blk_cell hz2.out 1).trans (show _ = some (Value.int .u16 (pc 1 t)) from rfl)
          have d2 := (blk_cell hz2.out 2).trans (show _ = some (Value.int .u16 (pc 2 t)) from rfl)
          have d3 := (blk_cell hz2.out 3).trans (show _ = some (Value.int .u16 (pc 3 t)) from rfl)
          have d4 := (blk_cell hz2.out 4).trans (show _ = some (Value.int .u16 (pc 4 t)) from rfl)
          have d5 := (blk_cell hz2.out 5).trans (show _ = some (Value.int .u16 (pc 5 t)) from rfl)
          have d6 := (blk_cell hz2.out 6).trans (show _ = some (Value.int .u16 (pc 6 t)) from rfl)
          have d7 := (blk_cell hz2.out 7).trans (show _ = some (Value.int .u16 (pc 7 t)) from rfl)
          have hl2 := hz2.out.lt
          go_wp2_with fail
          exact ⟨HREL.out, by simp [intOf]; omega⟩
      · obtain rfl : k = L.length := by omega
        obtain ⟨hmr, hok⟩ := map_rng HLO.out.2.1 L lo HLO.out.1.1 HTIL.out
        have hbad : badZ (L.map ofC) = -1 := badZ_all (fun j y hj hy => (hok y (List.mem_of_getElem? hy)).1)
        have hcj : coverJ (joinR [] ((L.map ofC).map rngZ)) = L := by
          rw [hmr, join_tiled HNE.out HTIL.out HLO.out.2.2]
          simp [coverJ]
          exact HL.out.symm
        have HJ := Lib.hid (fun (W : World) (h1 : RdZ W AL (L.map ofC)) (h2 : Tab W) (h3 : 0 < W.heap.size) => joinZ_walk AL cL (L.map ofC) W h1 (by rw [List.length_map]; omega) hbad hok h2 h3)
        rw [hcj, List.length_map] at HJ
        have HGV := Lib.hid (fun (W : World) (h1 : RdZ W AL (L.map ofC)) => given_walk (L.map ofC) AL cL W (by rw [List.length_map]; omega) h1)
        rw [List.length_map] at HGV
        clear hmr hok hbad hcj
        have hgr : 0 < wr.heap.size := Nat.lt_of_lt_of_le hg HTB'.out.below.size
        go_wp2_with fail
        refine (HJ.out _ HRL'.out (hTw.out.keep (B := w.heap.size) hg HTB'.out.below) hgr).mono ?_
        rintro e V1 ⟨u, rfl, hown1, hv1⟩
        obtain ⟨Ax, cx, rfl, _, hRx⟩ := own_zcs hown1
        rw [List.length_map]
        have HRx := Lib.hid hRx
        have T1 := Lib.hid (HTB'.out.keep hv1)
        have R1 := Lib.hid (HRL'.out.keep hv1)
        clear hown1 hv1 hRx HJ
        go_wp2_with fail
        refine (HGV.out _ R1.out).mono ?_
        rintro e V2 ⟨u, rfl, hown2, hv2⟩
        obtain ⟨At, ct, rfl, _, hRt⟩ := rdz_own hown2 (by rw [List.length_map])
        rw [List.length_map]
        have HS := sameZ_walk (L.map ofC) Ax At cx ct V2 (by rw [List.length_map]; omega) (HRx.out.keep hv2) hRt
        rw [List.length_map] at HS
        have HS := Lib.hid HS
        have T2 := Lib.hid (T1.out.keep hv2)
        clear hown2 hv2 hRt
        go_wp2_with fail
        refine HS.out.mono ?_
        rintro e V3 ⟨rfl, hv3⟩
        have T3 := Lib.hid (T2.out.keep hv3)
        have h3b := T3.out.b2
        have c0 := (blk_cell h3b 0).trans (show _ = some (Value.int .u16 (pc 0 p.a)) from rfl)
        have c1 := (blk_cell h3b 1).trans (show _ = some (Value.int .u16 (pc 1 p.a)) from rfl)
        have c2 := (blk_cell h3b 2).trans (show _ = some (Value.int .u16 (pc 2 p.a)) from rfl)
        have c3 := (blk_cell h3b 3).trans (show _ = some (Value.int .u16 (pc 3 p.a)) from rfl)
        have c4 := (blk_cell h3b 4).trans (show _ = some (Value.int .u16 (pc 4 p.a)) from rfl)
        have c5 := (blk_cell h3b 5).trans (show _ = some (Value.int .u16 (pc 5 p.a)) from rfl)
        have c6 := (blk_cell h3b 6).trans (show _ = some (Value.int .u16 (pc 6 p.a)) from rfl)
        have c7 := (blk_cell h3b 7).trans (show _ = some (Value.int .u16 (pc 7 p.a)) from rfl)
        have c8 := (blk_cell h3b 8).trans (show _ = some (Value.int .i64 p.n) from rfl)
        have hl3 := blk_lt h3b
        have hg3 : 0 < V3.heap.size := Nat.lt_of_lt_of_le hg T3.out.below.size
        clear hv3 HS h3b
        cases hz : isZ p with
        | false =>
          have HBO := Lib.hid (bounds_bad hz)
          go_wp2_with fail
          refine (HBO.out _).mono ?_
          rintro e V4 ⟨rfl, hv4⟩
          have T4 := Lib.hid (T3.out.keep hv4)
          clear c0 c1 c2 c3 c4 c5 c6 c7 c8 hl3 hv4
          go_upto_region 25 with fail
          obtain ⟨W5, hW5⟩ : ∃ W, W = (V4.alloc (.cells #[.int .u16 0, .int .u16 0, .int .u16 0, .int .u16 0, .int .u16 0, .int .u16 0, .int .u16 0, .int .u16 0] 24)).alloc (.cells #[.int .u16 0, .int .u16 0, .int .u16 0, .int .u16 0, .int .u16 0, .int .u16 0, .int .u16 0, .int .u16 0] 24) := ⟨_, rfl⟩
          have hB5 : Below V4.heap.size V4 ((V4.alloc (.cells #[.int .u16 0, .int .u16 0, .int .u16 0, .int .u16 0, .int .u16 0, .int .u16 0, .int .u16 0, .int .u16 0] 24)).alloc (.cells #[.int .u16 0, .int .u16 0, .int .u16 0, .int .u16 0, .int .u16 0, .int .u16 0, .int .u16 0, .int .u16 0] 24)) := ((Below.refl _ _).alloc (Nat.le_refl _) _).alloc (by simp) _
          rw [← hW5] at hB5 ⊢
          have T5 := Lib.hid (T4.out.keep hB5)
          have h5b := T5.out.b2
          have c0 := (blk_cell h5b 0).trans (show _ = some (Value.int .u16 (pc 0 p.a)) from rfl)
          have c1 := (blk_cell h5b 1).trans (show _ = some (Value.int .u16 (pc 1 p.a)) from rfl)
          have c2 := (blk_cell h5b 2).trans (show _ = some (Value.int .u16 (pc 2 p.a)) from rfl)
          have c3 := (blk_cell h5b 3).trans (show _ = some (Value.int .u16 (pc 3 p.a)) from rfl)
          have c4 := (blk_cell h5b 4).trans (show _ = some (Value.int .u16 (pc 4 p.a)) from rfl)
          have c5 := (blk_cell h5b 5).trans (show _ = some (Value.int .u16 (pc 5 p.a)) from rfl)
          have c6 := (blk_cell h5b 6).trans (show _ = some (Value.int .u16 (pc 6 p.a)) from rfl)
          have c7 := (blk_cell h5b 7).trans (show _ = some (Value.int .u16 (pc 7 p.a)) from rfl)
          have c8 := (blk_cell h5b 8).trans (show _ = some (Value.int .i64 p.n) from rfl)
          have hl5 := blk_lt h5b
          clear hW5 hB5 h5b
          have HG := Lib.hid (fun (W : World) (g : Nat) (hr : RdZ W (some ⟨g, 0, none⟩) [p]) => given_walk [p] (some ⟨g, 0, none⟩) 1 W (by simp) hr)
          have h1 := own_one (B := 0) W5 p 53 (Nat.zero_le _)
          obtain ⟨A1, c1, e1, _, hR1⟩ := rdz_own (l := [p]) (by simpa [zcs] using h1) rfl
          have e1 : (some ⟨W5.heap.size, 0, none⟩ : Option Addr) = A1 := by injection e1
          subst e1
          have HR1 := Lib.hid hR1
          have B5 := Lib.hid (T5.out.below.alloc T5.out.below.size (.cells #[.int .u16 (pc 0 p.a), .int .u16 (pc 1 p.a), .int .u16 (pc 2 p.a), .int .u16 (pc 3 p.a), .int .u16 (pc 4 p.a), .int .u16 (pc 5 p.a), .int .u16 (pc 6 p.a), .int .u16 (pc 7 p.a), .int .i64 p.n] 53))
          clear h1 hR1
          go_wp2_with fail
          refine (HG.out _ _ HR1.out).mono ?_
          rintro e V6 ⟨u, rfl, hown6, hv6⟩
          obtain ⟨A6, k6, rfl, _, hR6⟩ := rdz_own hown6 rfl
          obtain ⟨g6, o6, rfl, hg6, hc6⟩ := hR6 0 p rfl
          have B6 := Lib.hid (below_step B5.out hv6)
          have d0 := (hc6 0 (by decide)).trans (show (zc p)[0]? = some (.int .u16 (pc 0 p.a)) from rfl)
          have d1 := (hc6 1 (by decide)).trans (show (zc p)[1]? = some (.int .u16 (pc 1 p.a)) from rfl)
          have d2 := (hc6 2 (by decide)).trans (show (zc p)[2]? = some (.int .u16 (pc 2 p.a)) from rfl)
          have d3 := (hc6 3 (by decide)).trans (show (zc p)[3]? = some (.int .u16 (pc 3 p.a)) from rfl)
          have d4 := (hc6 4 (by decide)).trans (show (zc p)[4]? = some (.int .u16 (pc 4 p.a)) from rfl)
          have d5 := (hc6 5 (by decide)).trans (show (zc p)[5]? = some (.int .u16 (pc 5 p.a)) from rfl)
          have d6 := (hc6 6 (by decide)).trans (show (zc p)[6]? = some (.int .u16 (pc 6 p.a)) from rfl)
          have d7 := (hc6 7 (by decide)).trans (show (zc p)[7]? = some (.int .u16 (pc 7 p.a)) from rfl)
          have d8 := (hc6 8 (by decide)).trans (show (zc p)[8]? = some (.int .i64 p.n) from rfl)
          simp only [Nat.zero_mul, Nat.zero_add, Nat.add_zero] at d0 d1 d2 d3 d4 d5 d6 d7 d8
          have HIs := Lib.hid (fun w => refIsPrefix_walk _ _ _ _ _ _ _ _ (pc_r8 p.a) p.n w)
          rw [show isPre (V8 (pc 0 p.a) (pc 1 p.a) (pc 2 p.a) (pc 3 p.a) (pc 4 p.a) (pc 5 p.a) (pc 6 p.a) (pc 7 p.a)) p.n = isZ p from rfl, hz] at HIs
          clear c0 c1 c2 c3 c4 c5 c6 c7 c8 hl5 hown6 hv6 hR6 hc6 hz
          go_wp2_with fail
          refine (HIs.out _).mono ?_
          rintro e V7 ⟨rfl, hv7⟩
          have B7 := Lib.hid (below_step B6.out hv7)
          clear hv7 d0 d1 d2 d3 d4 d5 d6 d7 d8 hg6
          go_wp2_with fail
          go_returns
          exact ⟨rfl, B7.out⟩
        | true =>
          have hbw := bounds_walk hz HPW.out
          have hrz := rngZ_ok hz HPW.out
          have hwz := wide_z hz HPW.out
          have HZ := Lib.hid (And.intro hrz hwz)
          obtain ⟨t, et⟩ : ∃ t, t = (rngZ p).2 := ⟨_, rfl⟩
          rw [← et] at hbw
          have HBO := Lib.hid hbw
          have ET := Lib.hid et
          clear hbw hrz hwz et
          go_wp2_with fail
          refine (HBO.out _).mono ?_
          rintro e V4 ⟨rfl, hv4⟩
          have T4 := Lib.hid (T3.out.keep hv4)
          clear c0 c1 c2 c3 c4 c5 c6 c7 c8 hl3
          go_upto_region 26 with fail
          obtain ⟨W5, hW5⟩ : ∃ W, W = (V4.alloc (.cells #[.int .u16 (pc 0 p.a), .int .u16 (pc 1 p.a), .int .u16 (pc 2 p.a), .int .u16 (pc 3 p.a), .int .u16 (pc 4 p.a), .int .u16 (pc 5 p.a), .int .u16 (pc 6 p.a), .int .u16 (pc 7 p.a)] 24)).alloc (.cells #[.int .u16 (pc 0 t), .int .u16 (pc 1 t), .int .u16 (pc 2 t), .int .u16 (pc 3 t), .int .u16 (pc 4 t), .int .u16 (pc 5 t), .int .u16 (pc 6 t), .int .u16 (pc 7 t)] 24) := ⟨_, rfl⟩
          have hB5 : Below V4.heap.size V4 ((V4.alloc (.cells #[.int .u16 (pc 0 p.a), .int .u16 (pc 1 p.a), .int .u16 (pc 2 p.a), .int .u16 (pc 3 p.a), .int .u16 (pc 4 p.a), .int .u16 (pc 5 p.a), .int .u16 (pc 6 p.a), .int .u16 (pc 7 p.a)] 24)).alloc (.cells #[.int .u16 (pc 0 t), .int .u16 (pc 1 t), .int .u16 (pc 2 t), .int .u16 (pc 3 t), .int .u16 (pc 4 t), .int .u16 (pc 5 t), .int .u16 (pc 6 t), .int .u16 (pc 7 t)] 24)) := ((Below.refl _ _).alloc (Nat.le_refl _) _).alloc (by simp) _
          have hx1 : BA ((V4.alloc (.cells #[.int .u16 (pc 0 p.a), .int .u16 (pc 1 p.a), .int .u16 (pc 2 p.a), .int .u16 (pc 3 p.a), .int .u16 (pc 4 p.a), .int .u16 (pc 5 p.a), .int .u16 (pc 6 p.a), .int .u16 (pc 7 p.a)] 24)).alloc (.cells #[.int .u16 (pc 0 t), .int .u16 (pc 1 t), .int .u16 (pc 2 t), .int .u16 (pc 3 t), .int .u16 (pc 4 t), .int .u16 (pc 5 t), .int .u16 (pc 6 t), .int .u16 (pc 7 t)] 24)) V4.heap.size p.a := blk_alloc (ba_new V4 p.a) _
          have hx2 : BA ((V4.alloc (.cells #[.int .u16 (pc 0 p.a), .int .u16 (pc 1 p.a), .int .u16 (pc 2 p.a), .int .u16 (pc 3 p.a), .int .u16 (pc 4 p.a), .int .u16 (pc 5 p.a), .int .u16 (pc 6 p.a), .int .u16 (pc 7 p.a)] 24)).alloc (.cells #[.int .u16 (pc 0 t), .int .u16 (pc 1 t), .int .u16 (pc 2 t), .int .u16 (pc 3 t), .int .u16 (pc 4 t), .int .u16 (pc 5 t), .int .u16 (pc 6 t), .int .u16 (pc 7 t)] 24)) (V4.heap.size + 1) t := blk_newS _ _ _
          rw [← hW5] at hB5 hx1 hx2 ⊢
          have T5 := Lib.hid (T4.out.keep hB5)
          have hg5 : 0 < W5.heap.size := Nat.lt_of_lt_of_le hg T5.out.below.size
          generalize V4.heap.size = b4 at *
          have a0 := (blk_cell hx1 0).trans (show _ = some (Value.int .u16 (pc 0 p.a)) from rfl)
          have a1 := (blk_cell hx1 1).trans (show _ = some (Value.int .u16 (pc 1 p.a)) from rfl)
          have a2 := (blk_cell hx1 2).trans (show _ = some (Value.int .u16 (pc 2 p.a)) from rfl)
          have a3 := (blk_cell hx1 3).trans (show _ = some (Value.int .u16 (pc 3 p.a)) from rfl)
          have a4 := (blk_cell hx1 4).trans (show _ = some (Value.int .u16 (pc 4 p.a)) from rfl)
          have a5 := (blk_cell hx1 5).trans (show _ = some (Value.int .u16 (pc 5 p.a)) from rfl)
          have a6 := (blk_cell hx1 6).trans (show _ = some (Value.int .u16 (pc 6 p.a)) from rfl)
          have a7 := (blk_cell hx1 7).trans (show _ = some (Value.int .u16 (pc 7 p.a)) from rfl)
          have b0 := (blk_cell hx2 0).trans (show _ = some (Value.int .u16 (pc 0 t)) from rfl)
          have b1 := (blk_cell hx2 1).trans (show _ = some (Value.int .u16 (pc 1 t)) from rfl)
          have b2 := (blk_cell hx2 2).trans (show _ = some (Value.int .u16 (pc 2 t)) from rfl)
          have b3 := (blk_cell hx2 3).trans (show _ = some (Value.int .u16 (pc 3 t)) from rfl)
          have b4 := (blk_cell hx2 4).trans (show _ = some (Value.int .u16 (pc 4 t)) from rfl)
          have b5 := (blk_cell hx2 5).trans (show _ = some (Value.int .u16 (pc 5 t)) from rfl)
          have b6 := (blk_cell hx2 6).trans (show _ = some (Value.int .u16 (pc 6 t)) from rfl)
          have b7 := (blk_cell hx2 7).trans (show _ = some (Value.int .u16 (pc 7 t)) from rfl)
          have hl1 := hx1.lt
          have hl2 := hx2.lt
          clear hW5 hB5 hv4
          have hpa : p.a ≤ t := by rw [ET.out]; exact HZ.out.2.2
          have hwt : Wide t := by rw [ET.out]; exact HZ.out.2.1
          have hcov := cover_z HPW.out hwt hpa
          have hone : coverL p.a t = [(p.a, p.n.toNat)] := by
            rw [ET.out, HZ.out.1.2.2.2.2]
            exact coverL_pre (by have := HZ.out.1; omega) HZ.out.1.2.2.2.1
          rw [hone] at hcov
          have hpz : [(p.a, p.n.toNat)].map ofC = [p] := by
            have h0 := HZ.out.1.1
            show [(⟨p.a, (p.n.toNat : Int)⟩ : Pz)] = [p]
            rw [Int.toNat_of_nonneg h0]
          have HC := Lib.hid hcov
          have HPZ := Lib.hid hpz
          clear hcov hone hpz hpa hwt hx1 hx2
          go_wp2_with fail
          refine (HC.out _ hg5 (hTw.out.keep (B := w.heap.size) hg T5.out.below)).mono ?_
          rintro e V6 ⟨u, rfl, hown6, hv6⟩
          obtain ⟨A6, k6, rfl, _, hR6⟩ := own_zcs hown6
          rw [HPZ.out] at hR6 ⊢
          have HR6 := Lib.hid hR6
          have T6 := Lib.hid (T5.out.keep hv6)
          have h6b := T6.out.b2
          have c0 := (blk_cell h6b 0).trans (show _ = some (Value.int .u16 (pc 0 p.a)) from rfl)
          have c1 := (blk_cell h6b 1).trans (show _ = some (Value.int .u16 (pc 1 p.a)) from rfl)
          have c2 := (blk_cell h6b 2).trans (show _ = some (Value.int .u16 (pc 2 p.a)) from rfl)
          have c3 := (blk_cell h6b 3).trans (show _ = some (Value.int .u16 (pc 3 p.a)) from rfl)
          have c4 := (blk_cell h6b 4).trans (show _ = some (Value.int .u16 (pc 4 p.a)) from rfl)
          have c5 := (blk_cell h6b 5).trans (show _ = some (Value.int .u16 (pc 5 p.a)) from rfl)
          have c6 := (blk_cell h6b 6).trans (show _ = some (Value.int .u16 (pc 6 p.a)) from rfl)
          have c7 := (blk_cell h6b 7).trans (show _ = some (Value.int .u16 (pc 7 p.a)) from rfl)
          have c8 := (blk_cell h6b 8).trans (show _ = some (Value.int .i64 p.n) from rfl)
          have hl6 := blk_lt h6b
          clear a0 a1 a2 a3 a4 a5 a6 a7 b0 b1 b2 b3 b4 b5 b6 b7 hl1 hl2 hown6 hv6 hR6 h6b HC hg5
          have HG := Lib.hid (fun (W : World) (g : Nat) (hr : RdZ W (some ⟨g, 0, none⟩) [p]) => given_walk [p] (some ⟨g, 0, none⟩) 1 W (by simp) hr)
          have h1 := own_one (B := 0) V6 p 53 (Nat.zero_le _)
          obtain ⟨A1, c1, e1, _, hR1⟩ := rdz_own (l := [p]) (by simpa [zcs] using h1) rfl
          have e1 : (some ⟨V6.heap.size, 0, none⟩ : Option Addr) = A1 := by injection e1
          subst e1
          have HR1 := Lib.hid hR1
          have B6 := Lib.hid (T6.out.below.alloc T6.out.below.size (.cells #[.int .u16 (pc 0 p.a), .int .u16 (pc 1 p.a), .int .u16 (pc 2 p.a), .int .u16 (pc 3 p.a), .int .u16 (pc 4 p.a), .int .u16 (pc 5 p.a), .int .u16 (pc 6 p.a), .int .u16 (pc 7 p.a), .int .i64 p.n] 53))
          have HR6 := Lib.hid (HR6.out.keep ((Below.refl V6.heap.size V6).alloc (Nat.le_refl _) (.cells #[.int .u16 (pc 0 p.a), .int .u16 (pc 1 p.a), .int .u16 (pc 2 p.a), .int .u16 (pc 3 p.a), .int .u16 (pc 4 p.a), .int .u16 (pc 5 p.a), .int .u16 (pc 6 p.a), .int .u16 (pc 7 p.a), .int .i64 p.n] 53)))
          clear h1 hR1
          go_wp2_with fail
          refine (HG.out _ _ HR1.out).mono ?_
          rintro e V7 ⟨u, rfl, hown7, hv7⟩
          obtain ⟨A7, k7, rfl, _, hR7⟩ := rdz_own hown7 rfl
          have B7 := Lib.hid (below_step B6.out hv7)
          have HS := Lib.hid (sameZ_walk [p] A6 A7 k6 k7 V7 (by simp) (HR6.out.keep hv7) hR7)
          clear c0 c1 c2 c3 c4 c5 c6 c7 c8 hl6 hown7 hv7 hR7
          go_wp2_with fail
          refine HS.out.mono ?_
          rintro e V8 ⟨rfl, hv8⟩
          have B8 := Lib.hid (below_step B7.out hv8)
          clear hv8
          go_wp2_with fail
          go_returns
          exact ⟨rfl, B8.out⟩
theorem tiles_at (a0 a1 a2 a3 a4 a5 a6 a7 b0 b1 b2 b3 b4 b5 b6 b7 : Int) (ha : R8 a0 a1 a2 a3 a4 a5 a6 a7) (hb : R8 b0 b1 b2 b3 b4 b5 b6 b7) (p : Pz) (hp : Wide p.a) (w : World) (hg : 0 < w.heap.size) (hT : Tab w) :
    Calls Tryd.prog 7 #[A8 a0 a1 a2 a3 a4 a5 a6 a7, A8 b0 b1 b2 b3 b4 b5 b6 b7, .agg (zc p).toArray] w fun e w' => e = .returned (.bool true) ∧ Below w.heap.size w w' := by
  rw [a8_av ha, a8_av hb]
  exact tiles_walk _ _ (v8_wide ha) (v8_wide hb) p hp w hg hT
end Go.Proofs.YtcgdjnmfeibnoaaDoor
/-! Frame -/
namespace Go.Proofs.YtcgdjnmfeibnoaaDoor
open Go.RowKit Go.WideShapes Go.ChangeShapes Go.ChangeAt
set_option linter.unusedVariables false
set_option linter.unusedSimpArgs false
section
variable {H : Type} {enc : TypeId × Value → H} {P : Program}
theorem law_below {f : Func} {s : ChangeSpec} {apart fresh handsOn again : Bool} {W W' : World} {args : Array Value} {v : Value} {ds gs : List (DataW H)} {before pa pv : List MemPlace}
    (hW : DataW.Whole enc P f.params.toList s.vars apart W args.toList ds gs before)
    (hres : ∀ (b : Nat) (sp : Nat → Bool) (hd : Bool), DataW.TrodAll enc P W' b sp hd f.resultTypes.toList (v.resultList f.resultTypes.size) (s.fn H (ds ++ gs)).results [])
    (hargs : ∀ sp : Nat → Bool, (∀ p ∈ before, sp p.block = true) → DataW.TrodAll enc P W' 0 sp true f.params.toList args.toList (s.fn H (ds ++ gs)).args pa)
    (hvars : ∀ sp : Nat → Bool, (∀ p ∈ before, sp p.block = true) → DataW.TrodVars enc P W' sp s.vars (s.fn H (ds ++ gs)).vars pv)
    (hps : before = pa ++ pv) (hb : Below W.heap.size W W')
    (hok : ∀ (j : Nat) (t : TypeId) (r : Value), f.resultTypes[j]? = some t → (v.resultList f.resultTypes.size)[j]? = some r → Value.okWide P W' .any 0 t r) :
    s.post enc P f apart fresh handsOn again W args v W' := by
  have hlt : ∀ p ∈ before, p.block < W.heap.size := fun p hp => hW.lt p hp
  have hold : ∀ p ∈ before, (fun b => decide (b < W.heap.size)) p.block = true := fun p hp => by simpa using hlt p hp
  refine ⟨ds, gs, before, [], pa, pv, hW, hres _ _ _, hargs _ hold, hvars _ hold, World.keptBut_mono (fun p hp => ⟨hp, ?_⟩) (hb.frame (· ∈ before)), fun _ => ?_⟩
  · rw [hps, List.mem_append] at hp
    exact Or.inr hp
  · obtain ⟨_, _, _, _, _, hz, hn⟩ := hW
    refine ⟨hok, _, _, ([] ++ pa) ++ pv, ⟨[] ++ pa, pv, trodAll_append (hargs _ (fun _ _ => rfl)) (hres _ _ _), hvars _ (fun _ _ => rfl), rfl, ?_, ?_⟩, ?_⟩
    · intro b off hp
      have hin : MemPlace.cell b off ∈ before := by rw [hps]; simpa using hp
      rw [hb.frozen (hlt _ hin)]
      exact hz b off hin
    · intro ha
      have := hn ha
      rw [hps] at this
      simpa using this
    · intro p hp _
      rw [hps]
      simpa using hp
/-- All arguments read as they did, where all stays that was there. -/
theorem args_stay (hl : laidOutB P = true) {W W' : World} (hB : Below W.heap.size W W') {sp : Nat → Bool} :
    ∀ (ts : List TypeId) (vs : List Value) (ds : List (DataW H)) (ps : List MemPlace), (∀ t ∈ ts, P.readableRec t = true ∧ t < P.types.size) → DataW.TrodAll enc P W 0 (fun _ => true) true ts vs ds ps →
      (∀ p ∈ ps, p.block < W.heap.size) → (∀ p ∈ ps, sp p.block = true) → DataW.TrodAll enc P W' 0 sp true ts vs ds ps
  | [], vs, ds, ps, _, h, _, _ => by
    obtain ⟨rfl, rfl, rfl⟩ := trodAll_nil h
    exact trodAll_mk0
  | t :: ts, vs, ds, ps, hr, h, hlt, hs => by
    obtain ⟨v, vs1, d, ds1, a, b, rfl, rfl, rfl, h1, h2⟩ := trodAll_cons h
    have hlt' := hlt
    exact trodAll_cons_mk (WideElems.Trod_stays hl (hr t (by simp)).1 (hr t (by simp)).2 h1 (fun x hx => hB.same (hlt x (by simp [hx]))) (fun x hx => hs x (by simp [hx])))
      (args_stay hl hB ts vs1 ds1 b (fun t ht => hr t (by simp [ht])) h2 (fun p hp => hlt p (by simp [hp])) (fun p hp => hs p (by simp [hp])))
/-- THE STEP OF A LAW's ROW. -/
theorem law_post {f : Func} {s : ChangeSpec} {tb : TypeId} {W W' : World} {args : Array Value} {ds : List (DataW H)} {before : List MemPlace} (hv : s.vars = []) (hfn : s.fn H ds = { results := [.lit (.bool true)], args := ds })
    (hres : f.resultTypes = #[tb]) (hb : P.underlying tb = some .bool) (hl : laidOutB P = true) (hr : ∀ t ∈ f.params.toList, P.readableRec t = true ∧ t < P.types.size)
    (hW : DataW.Whole enc P f.params.toList s.vars false W args.toList ds [] before) (hB : Below W.heap.size W W') : s.post enc P f false true false false W args (.bool true) W' := by
  have hW' := hW
  obtain ⟨p, q, hA, hV, hpq, hfz, hnd⟩ := hW
  have hA : DataW.TrodAll enc P W 0 (fun _ => true) true f.params.toList args.toList ds p := hA
  rw [hv] at hV
  obtain ⟨_, rfl⟩ := trodVars_none hV
  have hlt : ∀ x ∈ before, x.block < W.heap.size := fun x hx => hW'.lt x hx
  subst hpq
  refine law_below (pa := p) (pv := []) hW' ?_ ?_ ?_ (by simp) hB ?_
  · intro b sp hd
    rw [List.append_nil, hfn, hres]
    exact trodAll_cons_mk (shut_bool hb true) trodAll_mk0
  · intro sp hs
    rw [List.append_nil, hfn]
    exact args_stay hl hB _ _ _ _ hr hA (fun x hx => hlt x (by simp [hx])) (fun x hx => hs x (by simp [hx]))
  · intro sp hs
    rw [List.append_nil, hfn, hv]
    rfl
  · exact ok_one hres rfl (okWide_bool_mk hb true)
end
end Go.Proofs.YtcgdjnmfeibnoaaDoor
/-! SixOpen -/
namespace Go.Proofs.YtcgdjnmfeibnoaaDoor
open Go.RowKit Go.WideShapes
set_option linter.unusedVariables false
set_option linter.unusedSimpArgs false
theorem six_cells : Tryd.prog.cellsOf 24 = 8 := by kernel_rfl
theorem six_types : Tryd.prog.cellTypes Tryd.prog.depth 24 = some (List.replicate 8 22) := by kernel_rfl
set_option maxRecDepth 100000 in
theorem u16_open {w : World} {base : Nat} {v : Value} (h : Cell.okWide Tryd.prog w .any base 22 v) : ∃ x : Int, v = .int .u16 x ∧ 0 ≤ x ∧ x ≤ 65535 := by
  unfold Cell.okWide at h
  rw [Tryd.underlying22] at h
  cases v <;> simp [Cell.ok, Tryd.underlying22] at h
  rename_i k n
  obtain ⟨rfl, h1, h2⟩ := h
  exact ⟨n, rfl, by simpa [IntKind.min, IntKind.signed] using h1, by simpa [IntKind.max, IntKind.signed, IntKind.bits] using h2⟩
set_option maxRecDepth 100000 in
theorem six_open {w : World} {base : Nat} {v : Value} (h : Value.okWide Tryd.prog w .any base 24 v) :
    ∃ x0 x1 x2 x3 x4 x5 x6 x7 : Int, v = A8 x0 x1 x2 x3 x4 x5 x6 x7 ∧ R8 x0 x1 x2 x3 x4 x5 x6 x7 := by
  unfold Value.okWide at h
  rw [Tryd.underlying24] at h
  obtain ⟨cs, rfl, hsz, ts, hts, _, hc⟩ := h
  rw [six_cells] at hsz
  rw [six_types] at hts
  obtain rfl := (Option.some.inj hts).symm
  have key : ∀ i, (hi : i < 8) → ∃ x : Int, cs[i]? = some (.int .u16 x) ∧ 0 ≤ x ∧ x ≤ 65535 := by
    intro i hi
    obtain ⟨u, hu, hok⟩ := hc i cs[i] (Array.getElem?_eq_getElem (by omega))
    obtain rfl : u = 22 := List.eq_of_mem_replicate (List.mem_of_getElem? hu)
    obtain ⟨x, hx, h0, h1⟩ := u16_open hok
    exact ⟨x, by rw [Array.getElem?_eq_getElem (by omega), hx], h0, h1⟩
  obtain ⟨x0, e0, a0, b0⟩ := key 0 (by omega)
  obtain ⟨x1, e1, a1, b1⟩ := key 1 (by omega)
  obtain ⟨x2, e2, a2, b2⟩ := key 2 (by omega)
  obtain ⟨x3, e3, a3, b3⟩ := key 3 (by omega)
  obtain ⟨x4, e4, a4, b4⟩ := key 4 (by omega)
  obtain ⟨x5, e5, a5, b5⟩ := key 5 (by omega)
  obtain ⟨x6, e6, a6, b6⟩ := key 6 (by omega)
  obtain ⟨x7, e7, a7, b7⟩ := key 7 (by omega)
  refine ⟨x0, x1, x2, x3, x4, x5, x6, x7, ?_, ⟨⟨a0, b0⟩, ⟨a1, b1⟩, ⟨a2, b2⟩, ⟨a3, b3⟩, ⟨a4, b4⟩, ⟨a5, b5⟩, ⟨a6, b6⟩, ⟨a7, b7⟩⟩⟩
  congr 1
  apply Array.ext_getElem?
  intro i
  match i with
  | 0 => rw [e0]; rfl
  | 1 => rw [e1]; rfl
  | 2 => rw [e2]; rfl
  | 3 => rw [e3]; rfl
  | 4 => rw [e4]; rfl
  | 5 => rw [e5]; rfl
  | 6 => rw [e6]; rfl
  | 7 => rw [e7]; rfl
  | i + 8 => rw [Array.getElem?_eq_none (by omega)]; rfl
end Go.Proofs.YtcgdjnmfeibnoaaDoor
/-! SixOpenL -/
namespace Go.Proofs.YtcgdjnmfeibnoaaDoor
open Go.RowKit Go.WideShapes Go.ChangeShapes Go.ChangeAt
set_option linter.unusedVariables false
set_option linter.unusedSimpArgs false
theorem pfxCells : Tryd.prog.cellsOf 53 = 9 := by kernel_rfl
theorem pfxCells8 : Tryd.prog.cellsOf 24 = 8 := by kernel_rfl
theorem pfxCells1 : Tryd.prog.cellsOf 22 = 1 := by kernel_rfl
theorem pfxCellsI : Tryd.prog.cellsOf 3 = 1 := by kernel_rfl
section
variable {H : Type} {enc : TypeId × Value → H} {W : World} {base : Nat} {sp : Nat → Bool} {held : Bool}
set_option maxRecDepth 100000 in
theorem pfx_trod {n : Nat} {cs : List Value} {y : DataW H × List MemPlace} (h : DataW.trod enc Tryd.prog W base sp held n 53 cs = some y) :
    ∃ x : Pz, cs = zc x ∧ Wide x.a := by
  obtain ⟨y0, y1, m, rfl, hl, h0, h1⟩ := trod_struct2 Tryd.underlying53 h
  rw [pfxCells] at hl
  match cs, hl with
  | [c0, c1, c2, c3, c4, c5, c6, c7, c8], _ =>
    simp only [pfxCells8, pfxCellsI, List.drop_zero, List.drop_succ_cons, List.take_succ_cons, List.take_zero] at h0 h1
    obtain ⟨b, hb, rfl, wb⟩ := DataW.trod_int Tryd.underlying3 h1
    obtain ⟨xs, m', _, _, _, hxl, hx⟩ := DataW.trod_array Tryd.underlying24 h0
    have key : ∀ (i : Nat) (c : Value), i < 8 → [c0, c1, c2, c3, c4, c5, c6, c7][i]? = some c → ∃ a : Int, c = .int .u16 a ∧ 0 ≤ a ∧ a ≤ 65535 := by
      intro i c hi hc
      have e := hx i hi
      rw [List.getElem?_eq_getElem (by omega), pfxCells1, Nat.mul_one] at e
      obtain ⟨a, ha, _, wa⟩ := DataW.trod_int Tryd.underlying22 e
      have e2 : (([c0, c1, c2, c3, c4, c5, c6, c7].drop i).take 1)[0]? = some c := by
        rw [List.getElem?_take, if_pos (by decide), List.getElem?_drop, Nat.add_zero]
        exact hc
      rw [ha] at e2
      obtain rfl := Option.some.inj e2
      simp only [Lit.wf, Bool.and_eq_true, decide_eq_true_eq] at wa
      exact ⟨a, rfl, wa⟩
    obtain ⟨a0, rfl, r0⟩ := key 0 _ (by decide) rfl
    obtain ⟨a1, rfl, r1⟩ := key 1 _ (by decide) rfl
    obtain ⟨a2, rfl, r2⟩ := key 2 _ (by decide) rfl
    obtain ⟨a3, rfl, r3⟩ := key 3 _ (by decide) rfl
    obtain ⟨a4, rfl, r4⟩ := key 4 _ (by decide) rfl
    obtain ⟨a5, rfl, r5⟩ := key 5 _ (by decide) rfl
    obtain ⟨a6, rfl, r6⟩ := key 6 _ (by decide) rfl
    obtain ⟨a7, rfl, r7⟩ := key 7 _ (by decide) rfl
    obtain rfl := (List.cons.inj hb).1
    have hR : R8 a0 a1 a2 a3 a4 a5 a6 a7 := ⟨r0, r1, r2, r3, r4, r5, r6, r7⟩
    refine ⟨⟨V8 a0 a1 a2 a3 a4 a5 a6 a7, b⟩, ?_, v8_wide hR⟩
    obtain ⟨v, hv⟩ : ∃ v, V8 a0 a1 a2 a3 a4 a5 a6 a7 = v := ⟨_, rfl⟩
    rw [hv]
    obtain ⟨rfl, rfl, rfl, rfl, rfl, rfl, rfl, rfl⟩ := pc_of hR hv
    rfl
set_option maxRecDepth 100000 in
theorem pfx_open {base2 : Nat} {v : Value} {d : DataW H} {ps : List MemPlace} (hval : Value.okWide Tryd.prog W .any base2 53 v) (h : DataW.Trod enc Tryd.prog W base sp held 53 v d ps) :
    ∃ x : Pz, v = .agg (zc x).toArray ∧ Wide x.a := by
  unfold Value.okWide at hval
  rw [Tryd.underlying53] at hval
  obtain ⟨cs, rfl, _⟩ := hval
  obtain ⟨fuel, hf⟩ := h
  obtain ⟨x, hx, hw⟩ := pfx_trod hf
  refine ⟨x, ?_, hw⟩
  have : cs.toList = zc x := by simpa [Value.cells] using hx
  rw [← this]
end
end Go.Proofs.YtcgdjnmfeibnoaaDoor
