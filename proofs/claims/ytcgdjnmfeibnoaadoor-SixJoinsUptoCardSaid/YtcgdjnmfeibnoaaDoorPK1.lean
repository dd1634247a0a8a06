/- Several texts in one (wip/gen/pack.py): SixSo SixRz SixSameZ App AppRow SixGiven JoinV SixJn SixInsV SixJi SixRefJoinB AppZ SixHas SixWide SixWide2 SixCover. -/
import Derived.Test.YtcgdjnmfeibnoaaDoorPK0
import Derived.Deep.AppendLies
import Derived.Test.YtcgdjnmfeibnoaaDoorWWords
import Derived.Lib.Builder
import Derived.Deep.RegionHeld3
import Derived.Laws.AppendOwnNone
import Derived.Laws.OwnMore
import Derived.Deep.LoopGhost
import Derived.Deep.Onto
import Derived.Lib.TrailingZeros
import Derived.Lib.OwnBridge
import Derived.Lib.SlBy
import Derived.Laws.Externs
import Derived.Lib.Hide
import Derived.Shelf.Spec.TrailingZeros
/-! SixSo -/
namespace Go.Proofs.YtcgdjnmfeibnoaaDoor
open Go.RowKit Go.Lib Go.Sort
set_option linter.unusedVariables false
set_option linter.unusedSimpArgs false
/-- A prefix: its address as a number, its bits. -/
structure Pz where
  a : Int
  n : Int
deriving Inhabited
/-- Its cells. -/
def zc (x : Pz) : List Value := [.int .u16 (pc 0 x.a), .int .u16 (pc 1 x.a), .int .u16 (pc 2 x.a), .int .u16 (pc 3 x.a), .int .u16 (pc 4 x.a), .int .u16 (pc 5 x.a), .int .u16 (pc 6 x.a), .int .u16 (pc 7 x.a), .int .i64 x.n]
/-- The number that its pieces say. -/
def Pz.v (x : Pz) : Int := V8 (pc 0 x.a) (pc 1 x.a) (pc 2 x.a) (pc 3 x.a) (pc 4 x.a) (pc 5 x.a) (pc 6 x.a) (pc 7 x.a)
theorem Pz.v_wide {x : Pz} (h : Wide x.a) : x.v = x.a := pc_v8 h
def isZ (x : Pz) : Bool := isPre x.v x.n
set_option maxRecDepth 100000 in
theorem join1_walk (x : Pz) (w : World) : Calls Tryd.prog 51 #[.agg (zc x).toArray] w fun e w' => e = .returned (.bool (!isZ x)) ∧ Below w.heap.size w w' := by
  have HI := Lib.hid (fun w => is_walk _ _ _ _ _ _ _ _ (pc_r8 x.a) x.n w)
  have hr : isPre (V8 (pc 0 x.a) (pc 1 x.a) (pc 2 x.a) (pc 3 x.a) (pc 4 x.a) (pc 5 x.a) (pc 6 x.a) (pc 7 x.a)) x.n = isZ x := rfl
  rw [hr] at HI
  clear hr
  generalize isZ x = r at *
  show Calls _ _ #[.agg #[.int .u16 (pc 0 x.a), .int .u16 (pc 1 x.a), .int .u16 (pc 2 x.a), .int .u16 (pc 3 x.a), .int .u16 (pc 4 x.a), .int .u16 (pc 5 x.a), .int .u16 (pc 6 x.a), .int .u16 (pc 7 x.a), .int .i64 x.n]] _ _
  generalize pc 0 x.a = x0 at *
  generalize pc 1 x.a = x1 at *
  generalize pc 2 x.a = x2 at *
  generalize pc 3 x.a = x3 at *
  generalize pc 4 x.a = x4 at *
  generalize pc 5 x.a = x5 at *
  generalize pc 6 x.a = x6 at *
  generalize pc 7 x.a = x7 at *
  go_enter Tryd.func51, Tryd.ntmps51
  go_wp2_with fail
  have B := Below.alloc (Below.refl w.heap.size w) (Nat.le_refl _) (.cells #[.int .u16 x0, .int .u16 x1, .int .u16 x2, .int .u16 x3, .int .u16 x4, .int .u16 x5, .int .u16 x6, .int .u16 x7, .int .i64 x.n] 53)
  refine (HI.out _).mono ?_
  rintro e w1 ⟨rfl, hb⟩
  replace B := chain B hb
  clear hb
  go_wp2_with fail
  go_returns
  exact ⟨rfl, B⟩
set_option maxHeartbeats 1000000 in
set_option maxRecDepth 100000 in
theorem compare_grow (x0 x1 x2 x3 x4 x5 x6 x7 y0 y1 y2 y3 y4 y5 y6 y7 : Int) (h : R8 x0 x1 x2 x3 x4 x5 x6 x7) (k : R8 y0 y1 y2 y3 y4 y5 y6 y7) (w : World) :
    Calls Tryd.prog 23 #[A8 x0 x1 x2 x3 x4 x5 x6 x7, A8 y0 y1 y2 y3 y4 y5 y6 y7] w fun e w' => e = .returned (.int .i64 (cmpI (V8 x0 x1 x2 x3 x4 x5 x6 x7) (V8 y0 y1 y2 y3 y4 y5 y6 y7))) ∧ Gr w w' := by
  go_enter Tryd.func23, Tryd.ntmps23
  go_wp2
  go_quiet ((go_at_call 63; exact Calls.quiet_of_same ((scmp_walk x0 x1 x2 x3 x4 x5 x6 x7 y0 y1 y2 y3 y4 y5 y6 y7 h k _ _ _ ⟨by go_simp, by go_simp, by go_simp, by go_simp, by go_simp, by go_simp, by go_simp, by go_simp⟩ ⟨by go_simp, by go_simp, by go_simp, by go_simp, by go_simp, by go_simp, by go_simp, by go_simp⟩).mono fun _ _ ⟨he, hw⟩ => ⟨he, hw.symm⟩)))
  go_wp2
  go_returns
  refine ⟨rfl, _, _, by rw [alloc_eq_grow, alloc_eq_grow, grow_grow]; rfl⟩
set_option maxRecDepth 100000 in
theorem nanInt_walk (a : Int) (w : World) : Calls Tryd.prog 100 #[.int .i64 a] w fun e w' => e = .returned (.bool false) ∧ w = w' := by
  go_enter Tryd.func100, Tryd.ntmps100
  go_wp2
  go_returns
  exact ⟨by simp, rfl⟩
set_option maxHeartbeats 400000 in
theorem cmpInt_walk (x y : Int) (w : World) : Calls Tryd.prog 57 #[.int .i64 x, .int .i64 y] w fun e w' => e = .returned (.int .i64 (cmpI x y)) ∧ w = w' := by
  go_enter Tryd.func57, Tryd.ntmps57
  go_wp2_with (go_at_call 100; refine (nanInt_walk _ _).mono ?_; rintro e w' ⟨rfl, rfl⟩)
  all_goals go_returns
  all_goals go_tidy
  all_goals refine ⟨ret_int ?_, rfl⟩
  all_goals unfold cmpI
  all_goals (repeat' split)
  all_goals omega
def orV (a b : Int) : Int := if a = 0 then b else a
set_option maxHeartbeats 1000000 in
set_option maxRecDepth 100000 in
theorem or_walk (a b : Int) (g : Nat) (w : World) (h0 : w.cell? ⟨g, 0, none⟩ = some (.int .i64 a)) (h1 : w.cell? ⟨g, 1, none⟩ = some (.int .i64 b)) (hg : g < w.heap.size) : Calls Tryd.prog 56 #[.slice (some ⟨g, 0, none⟩) 2 2] w fun e w' => e = .returned (.int .i64 (orV a b)) ∧ w = w' := by
  go_enter Tryd.func56, Tryd.ntmps56
  go_wp2
  refine wp_loop_rounds 3 ?_
  repeat any_goals (rw [rounds_succ]; go_wp2)
  all_goals go_returns
  all_goals refine ⟨ret_int ?_, rfl⟩
  all_goals simp only [bne_iff_ne, ne_eq, bne_eq_false_iff_eq] at *
  all_goals unfold orV
  all_goals (repeat' split)
  all_goals omega
/-- By address, then by bits. -/
def cmpZ (x y : Pz) : Int := orV (cmpI x.v y.v) (cmpI x.n y.n)
set_option maxHeartbeats 1000000 in
set_option maxRecDepth 100000 in
theorem join2_walk (x y : Pz) (W : World) : Calls Tryd.prog 55 #[.agg (zc x).toArray, .agg (zc y).toArray] W fun e w' => e = .returned (.int .i64 (cmpZ x y)) ∧ ∃ q os', w' = grow (W.drewN q) os' := by
  have HC := Lib.hid (fun w => compare_grow _ _ _ _ _ _ _ _ _ _ _ _ _ _ _ _ (pc_r8 x.a) (pc_r8 y.a) w)
  have HN := Lib.hid (fun w => cmpInt_walk x.n y.n w)
  have e1 : V8 (pc 0 x.a) (pc 1 x.a) (pc 2 x.a) (pc 3 x.a) (pc 4 x.a) (pc 5 x.a) (pc 6 x.a) (pc 7 x.a) = x.v := rfl
  have e2 : V8 (pc 0 y.a) (pc 1 y.a) (pc 2 y.a) (pc 3 y.a) (pc 4 y.a) (pc 5 y.a) (pc 6 y.a) (pc 7 y.a) = y.v := rfl
  rw [e1, e2] at HC
  clear e1 e2
  unfold cmpZ
  generalize cmpI x.v y.v = r at *
  generalize cmpI x.n y.n = s at *
  show Calls _ _ #[.agg #[.int .u16 (pc 0 x.a), .int .u16 (pc 1 x.a), .int .u16 (pc 2 x.a), .int .u16 (pc 3 x.a), .int .u16 (pc 4 x.a), .int .u16 (pc 5 x.a), .int .u16 (pc 6 x.a), .int .u16 (pc 7 x.a), .int .i64 x.n], .agg #[.int .u16 (pc 0 y.a), .int .u16 (pc 1 y.a), .int .u16 (pc 2 y.a), .int .u16 (pc 3 y.a), .int .u16 (pc 4 y.a), .int .u16 (pc 5 y.a), .int .u16 (pc 6 y.a), .int .u16 (pc 7 y.a), .int .i64 y.n]] _ _
  generalize pc 0 x.a = x0 at *
  generalize pc 1 x.a = x1 at *
  generalize pc 2 x.a = x2 at *
  generalize pc 3 x.a = x3 at *
  generalize pc 4 x.a = x4 at *
  generalize pc 5 x.a = x5 at *
  generalize pc 6 x.a = x6 at *
  generalize pc 7 x.a = x7 at *
  generalize pc 0 y.a = y0 at *
  generalize pc 1 y.a = y1 at *
  generalize pc 2 y.a = y2 at *
  generalize pc 3 y.a = y3 at *
  generalize pc 4 y.a = y4 at *
  generalize pc 5 y.a = y5 at *
  generalize pc 6 y.a = y6 at *
  generalize pc 7 y.a = y7 at *
  go_enter Tryd.func55, Tryd.ntmps55
  go_wp2_with fail
  refine wp_region_gr_tail 10 (by kernel_rfl) (by kernel_rfl) ?_
  dsimp only [List.take, List.drop]
  repeat (go_big_quiet_step (first | (with_reducible exact extG_of (HC.out _)) | (with_reducible exact extG_of_same (HN.out _))))
  refine wpQuiet_nil ?_
  intro w2 hw2
  obtain ⟨y2, e2⟩ := hw2
  have hb2 := y2.gr
  rw [← e2] at hb2
  clear e2
  have G2 : Gr W w2 := (((Gr.refl W).alloc _).alloc _).trans hb2
  clear hb2
  go_wp2_with fail
  refine (or_walk r s w2.heap.size _ (by go_simp) (by go_simp) (by simp)).mono ?_
  rintro e w3 ⟨rfl, rfl⟩
  go_wp2_with fail
  go_returns
  exact ⟨rfl, G2.alloc _⟩
theorem join2_lays (blk off size : Nat) (w : World) : CmpLays Tryd.prog 55 #[] zc 9 cmpZ blk off size w :=
  fun _ _ _ _ x y => join2_walk x y _
theorem cmpZ_lt (x y : Pz) : ltOf cmpZ x y = decide (x.v < y.v ∨ x.v = y.v ∧ x.n < y.n) := by
  unfold ltOf cmpZ orV cmpI
  by_cases h1 : x.v < y.v
  · simp [h1]
  · by_cases h2 : y.v < x.v
    · rw [if_neg h1, if_pos h2]
      have : ¬ (x.v = y.v) := by omega
      simp [h1, this]
    · have h3 : x.v = y.v := by omega
      rw [if_neg h1, if_neg h2]
      by_cases h4 : x.n < y.n
      · simp [h3, h4]
      · by_cases h5 : y.n < x.n <;> simp [h3, h4, h5]
theorem swoZ : SWO (ltOf cmpZ) where
  irrefl x := by rw [cmpZ_lt]; simp
  trans x y z h1 h2 := by rw [cmpZ_lt] at *; simp at *; omega
  ntrans x y z h1 h2 := by rw [cmpZ_lt] at *; simp at *; omega
theorem eg1 : ∀ args w, (callFunc 51 args).run Tryd.prog w = .ok (.enter 51 args) w := enters_of Tryd.func51 (by kernel_rfl) rfl
theorem eg2 : ∀ args w, (callFunc 55 args).run Tryd.prog w = .ok (.enter 55 args) w := enters_of Tryd.func55 (by kernel_rfl) rfl
theorem zc_one (x : Pz) : ∀ v ∈ zc x, v.oneCell' = true := by
  intro v hv
  simp [zc] at hv
  rcases hv with rfl | rfl | rfl | rfl | rfl | rfl | rfl | rfl | rfl <;> rfl
/-- slices.SortFunc: by address, then by bits. -/
theorem c_sort (blk off cap : Nat) (d : Array Pz) (w : World) (hH : HoldsK zc 9 w blk off d) (hblk : blk < w.heap.size) (hsz : d.size < 4611686018427387904) :
    Calls Tryd.prog 54 #[.slice (some ⟨blk, off, none⟩) d.size cap, .func (.func 55) #[] #[]] w fun e w' => e = .returned (.tuple #[]) ∧ ∃ d' n os, PermIn 0 d.size d d' ∧ SortedIn (ltOf cmpZ) 0 d.size d' ∧ w' = sortWorldK zc 9 w blk off n d' os :=
  AnyQ.slices_SortFunc Tryd.soSort 9 Tryd.isAgg53 Tryd.sizeOf53 zc (fun _ => rfl) zc_one cmpZ swoZ 55 #[] blk off cap d w eg2 (join2_lays blk off d.size w) hH hblk hsz
theorem c_sort_none (cap : Nat) (fv : Value) (w : World) : Calls Tryd.prog 54 #[.slice none 0 cap, fv] w fun e w' => e = .returned (.tuple #[]) ∧ w' = w := by
  have h := AnyF.slices_SortFunc_none { Tryd.soSort with } none cap fv w
  exact h
set_option maxRecDepth 100000 in
theorem c_index_zero (A : Option Addr) (c : Nat) (fv : Value) (w : World) : Calls Tryd.prog 50 #[.slice A 0 c, fv] w fun e w' => e = .returned (.int .i64 (-1)) ∧ w' = w := by
  go_enter Tryd.func50, Tryd.ntmps50
  go_wp2_with fail
  refine wp_loop_rounds 1 ?_
  rw [rounds_succ]
  go_wp2_with fail
  go_returns
  exact ⟨rfl, rfl⟩
theorem c_index (b off c : Nat) (zs : List Pz) (w : World) (hbig : zs.length ≤ 9223372036854775807) (hb : b < w.heap.size) (hc : ∀ j, j < zs.length → ∀ i v, (zc zs[j]!)[i]? = some v → w.cell? ⟨b, off + j * 9 + i, none⟩ = some v) :
    Calls Tryd.prog 50 #[.slice (some ⟨b, off, none⟩) zs.length c, .func (.func 51) #[] #[]] w fun e w' => e = .returned (.int .i64 (Lib.idxBy (fun _ y => !isZ y) zs default)) ∧ Below w.heap.size w w' := by
  have h := AnyQ.slices_IndexFunc Tryd.soIndex 9 Tryd.isAgg53 Tryd.sizeOf53 zc (fun _ => rfl) (fun y => !isZ y) 51 #[] eg1 b off zs.length c zs w (fun W x hB => (join1_walk x W).mono fun _ _ ⟨he, hw⟩ => ⟨he, chain hB hw⟩) (Nat.le_refl _) hbig hb hc
  rw [List.take_length] at h
  exact h
theorem flatZ_len (zs : List Pz) : (zs.flatMap zc).length = zs.length * 9 := by
  induction zs with
  | nil => rfl
  | cons x l ih =>
    rw [List.flatMap_cons, List.length_append, List.length_cons, ih]
    show 9 + l.length * 9 = _
    omega
theorem c_clone (b off c : Nat) (zs : List Pz) (w : World) (hbig : zs.length ≤ 1099511627776) (hc : ∀ j u, (zs.flatMap zc)[j]? = some u → w.cell? ⟨b, off + j, none⟩ = some u) :
    Calls Tryd.prog 53 #[.slice (some ⟨b, off, none⟩) zs.length c] w fun e w' => ∃ v', e = .returned v' ∧ w'.ownsRow w.heap.size 53 9 v' zs.length (zs.flatMap zc) ∧ v' ≠ .slice none 0 0 ∧ Below w.heap.size w w' := by
  have hl := flatZ_len zs
  obtain ⟨i0, hi, hz0, hz1, hz2⟩ : ∃ i0 : TypeInfo, Tryd.prog.info? 53 = some i0 ∧ i0.zero = some (.agg #[.int .u16 0, .int .u16 0, .int .u16 0, .int .u16 0, .int .u16 0, .int .u16 0, .int .u16 0, .int .u16 0, .int .i64 0]) ∧ i0.size = 9 ∧ i0.bytes = 24 := by
    have h : (Tryd.prog.info? 53).map (fun i => (i.zero, i.size, i.bytes)) = some (some (.agg #[.int .u16 0, .int .u16 0, .int .u16 0, .int .u16 0, .int .u16 0, .int .u16 0, .int .u16 0, .int .u16 0, .int .i64 0]), 9, 24) := by kernel_rfl
    cases hi : Tryd.prog.info? 53 with
    | none => rw [hi] at h; cases h
    | some i0 =>
      rw [hi] at h
      have h := Option.some.inj h
      exact ⟨i0, rfl, congrArg (·.1) h, congrArg (·.2.1) h, congrArg (·.2.2) h⟩
  exact AnyE.slices_Clone Tryd.soClone i0 _ 9 24 hi hz0 hz1 hz2 rfl (by decide) Tryd.sizeOf53 b off zs.length c (zs.flatMap zc) w hl (by unfold maxLen; omega) (by omega) hc (fun u hu => by
    obtain ⟨x, _, hx⟩ := List.mem_flatMap.1 hu
    exact zc_one x u hx)
theorem c_clone_nil (n c : Nat) (w : World) : Calls Tryd.prog 53 #[.slice none n c] w fun e w' => e = .returned (.slice none 0 0) ∧ w' = w :=
  AnyE.slices_Clone_nil Tryd.soClone n c w
end Go.Proofs.YtcgdjnmfeibnoaaDoor
/-! SixRz -/
namespace Go.Proofs.YtcgdjnmfeibnoaaDoor
open Go.RowKit Go.Lib
set_option linter.unusedVariables false
set_option linter.unusedSimpArgs false
def zcs (l : List Pz) : List Value := l.flatMap zc
theorem zcs_len (l : List Pz) : (zcs l).length = l.length * 9 := by
  induction l with
  | nil => rfl
  | cons x l ih =>
    show (zc x ++ zcs l).length = _
    rw [List.length_append, ih]
    simp [zc]
    omega
theorem zcs_get : ∀ (l : List Pz) (k : Nat) (p : Pz), l[k]? = some p → ∀ j, j < 9 → (zcs l)[k * 9 + j]? = (zc p)[j]?
  | [], k, p, h, j, hj => by simp at h
  | q :: l, 0, p, h, j, hj => by
    obtain rfl : q = p := by simpa using h
    show (zc q ++ zcs l)[0 * 9 + j]? = _
    rw [List.getElem?_append_left (by simp [zc]; omega), Nat.zero_mul, Nat.zero_add]
  | q :: l, k + 1, p, h, j, hj => by
    show (zc q ++ zcs l)[(k + 1) * 9 + j]? = _
    rw [List.getElem?_append_right (by simp [zc]; omega), show (k + 1) * 9 + j - (zc q).length = k * 9 + j from by simp [zc]; omega]
    exact zcs_get l k p (by simpa using h) j hj
/-- The prefixes that stand at an address. -/
def RdZ (W : World) (A : Option Addr) (l : List Pz) : Prop := ∀ k x, l[k]? = some x → ∃ g o, A = some ⟨g, o, none⟩ ∧ g < W.heap.size ∧ ∀ j, j < 9 → W.cell? ⟨g, o + (k * 9 + j), none⟩ = (zc x)[j]?
theorem RdZ.keep {W W' : World} {A : Option Addr} {l : List Pz} (h : RdZ W A l) (hb : Below W.heap.size W W') : RdZ W' A l := by
  intro k x hk
  obtain ⟨g, o, hA, hg, hc⟩ := h k x hk
  exact ⟨g, o, hA, Nat.lt_of_lt_of_le hg hb.size, fun j hj => (hb.cell (p := ⟨g, o + (k * 9 + j), none⟩) hg).trans (hc j hj)⟩
theorem rdz_nil (W : World) (A : Option Addr) : RdZ W A [] := fun k x h => by simp at h
/-- A row of the call's own, read. -/
theorem rdz_own {W : World} {base n : Nat} {e : TypeId} {v : Value} {l : List Pz} (h : W.ownsRow base e 9 v n (zcs l)) (hn : n = l.length) : ∃ A c, v = .slice A l.length c ∧ l.length ≤ c ∧ RdZ W A l := by
  subst hn
  have h' := h
  rcases h.2 with ⟨rfl, h0⟩ | ⟨g, c, cur, rfl, hb, hg, hn, _⟩
  · obtain rfl : l = [] := List.eq_nil_of_length_eq_zero h0
    exact ⟨none, 0, rfl, Nat.le_refl _, rdz_nil _ _⟩
  · refine ⟨_, c, rfl, hn, fun k x hk => ?_⟩
    have hkl : k < l.length := (List.getElem?_eq_some_iff.1 hk).1
    have hlt : g < W.heap.size := by
      rcases Nat.lt_or_ge g W.heap.size with h' | h'
      · exact h'
      · rw [Array.getElem?_eq_none h'] at hg; cases hg
    exact ⟨g, 0, rfl, hlt, fun j hj => by rw [Nat.zero_add, h'.cellAt _ (by omega), zcs_get l k x hk j hj]⟩
/-- The first prefix in which an address lies. -/
def inZ (a : Int) (x : Pz) : Bool := isZ x && decide (maskV a x.n = x.v)
def hasV (l : List Pz) (a : Int) : Int × Bool := match l.findIdx? (inZ a) with
  | some i => ((i : Int), true)
  | none => (0, false)
end Go.Proofs.YtcgdjnmfeibnoaaDoor
/-! SixSameZ -/
namespace Go.Proofs.YtcgdjnmfeibnoaaDoor
open Go.RowKit Go.Lib Go.Proofs.YtcgdjnmfeibnoaaDoorW.PrintWords
set_option linter.unusedVariables false
set_option linter.unusedSimpArgs false
def SameZRel (w : World) (n : Nat) (i : Value) (W : World) : Prop := ∃ k : Nat, k ≤ n ∧ i = .int .i64 k ∧ ∃ m, W = w.drewN m
set_option maxHeartbeats 4000000 in
set_option maxRecDepth 100000 in
theorem sameZ_walk (l : List Pz) (A B : Option Addr) (c1 c2 : Nat) (w : World) (hn : l.length ≤ 9223372036854775807) (h1 : RdZ w A l) (h2 : RdZ w B l) :
    Calls Tryd.prog 13 #[.slice A l.length c1, .slice B l.length c2] w fun e w' => e = .returned (.bool true) ∧ Below w.heap.size w w' := by
  go_enter Tryd.func13, Tryd.ntmps13
  have H1 := Lib.hid h1
  have H2 := Lib.hid h2
  clear h1 h2
  go_wp2_with fail
  go_loopw [5] (fun i W => SameZRel w l.length i W) (fun i _ => l.length - (intOf i).toNat)
  case atStart => exact ⟨0, Nat.zero_le _, rfl, 0, rfl⟩
  case round =>
    obtain ⟨k, hk, rfl, m, rfl⟩ := hrel
    by_cases hlt : k < l.length
    · obtain ⟨x, hp⟩ : ∃ x, l[k]? = some x := ⟨l[k], List.getElem?_eq_getElem hlt⟩
      obtain ⟨g, o, rfl, hg, hc⟩ := H1.out k x hp
      obtain ⟨g2, o2, rfl, hg2, hd⟩ := H2.out k x hp
      have a0 := (hc 0 (by decide)).trans (show (zc x)[0]? = some (.int .u16 (pc 0 x.a)) from rfl)
      have a1 := (hc 1 (by decide)).trans (show (zc x)[1]? = some (.int .u16 (pc 1 x.a)) from rfl)
      have a2 := (hc 2 (by decide)).trans (show (zc x)[2]? = some (.int .u16 (pc 2 x.a)) from rfl)
      have a3 := (hc 3 (by decide)).trans (show (zc x)[3]? = some (.int .u16 (pc 3 x.a)) from rfl)
      have a4 := (hc 4 (by decide)).trans (show (zc x)[4]? = some (.int .u16 (pc 4 x.a)) from rfl)
      have a5 := (hc 5 (by decide)).trans (show (zc x)[5]? = some (.int .u16 (pc 5 x.a)) from rfl)
      have a6 := (hc 6 (by decide)).trans (show (zc x)[6]? = some (.int .u16 (pc 6 x.a)) from rfl)
      have a7 := (hc 7 (by decide)).trans (show (zc x)[7]? = some (.int .u16 (pc 7 x.a)) from rfl)
      have a8 := (hc 8 (by decide)).trans (show (zc x)[8]? = some (.int .i64 x.n) from rfl)
      simp only [Nat.add_zero, ← Nat.add_assoc] at a0 a1 a2 a3 a4 a5 a6 a7 a8
      have b0 := (hd 0 (by decide)).trans (show (zc x)[0]? = some (.int .u16 (pc 0 x.a)) from rfl)
      have b1 := (hd 1 (by decide)).trans (show (zc x)[1]? = some (.int .u16 (pc 1 x.a)) from rfl)
      have b2 := (hd 2 (by decide)).trans (show (zc x)[2]? = some (.int .u16 (pc 2 x.a)) from rfl)
      have b3 := (hd 3 (by decide)).trans (show (zc x)[3]? = some (.int .u16 (pc 3 x.a)) from rfl)
      have b4 := (hd 4 (by decide)).trans (show (zc x)[4]? = some (.int .u16 (pc 4 x.a)) from rfl)
      have b5 := (hd 5 (by decide)).trans (show (zc x)[5]? = some (.int .u16 (pc 5 x.a)) from rfl)
      have b6 := (hd 6 (by decide)).trans (show (zc x)[6]? = some (.int .u16 (pc 6 x.a)) from rfl)
      have b7 := (hd 7 (by decide)).trans (show (zc x)[7]? = some (.int .u16 (pc 7 x.a)) from rfl)
      have b8 := (hd 8 (by decide)).trans (show (zc x)[8]? = some (.int .i64 x.n) from rfl)
      simp only [Nat.add_zero, ← Nat.add_assoc] at b0 b1 b2 b3 b4 b5 b6 b7 b8
      clear hc hd hp hg hg2
      go_wp2_with fail
      go_quiet (fail)
      go_wp2_with fail
      exact ⟨⟨k + 1, by omega, by simp, m + nq, rfl⟩, by simp [intOf]; omega⟩
    · obtain rfl : k = l.length := by omega
      go_wp2_with fail
      go_returns
      exact ⟨rfl, bdn (Below.refl _ _) _⟩
end Go.Proofs.YtcgdjnmfeibnoaaDoor
/-! App -/
namespace Go.Proofs.YtcgdjnmfeibnoaaDoor
open Go.RowKit
set_option linter.unusedVariables false
set_option linter.unusedSimpArgs false
theorem cells_new (w : World) (cs : List Value) (t : TypeId) : ∀ j u, cs[j]? = some u → (w.alloc (.cells cs.toArray t)).cell? ((⟨w.heap.size, 0, none⟩ : Addr).add j) = some u := by
  intro j u hj
  have hb : (w.alloc (.cells cs.toArray t)).heap[w.heap.size]? = some (.cells cs.toArray t (0, 0)) := heap_alloc_new w _
  have ha : ((⟨w.heap.size, 0, none⟩ : Addr).add j) = ⟨w.heap.size, j, none⟩ := by unfold Addr.add; split <;> simp_all
  rw [ha, Lib.cell_of_heap hb]
  simpa using hj
theorem app_one {P : Program} {w : World} {ops : Array Oper} {rest : List Oper} {o : Oper} {a : Act} {Q : Exit → Act → World → Prop} (hgd : o.guard = none) (s x : Operand) (t : TypeId)
    (ho : o.op = .call { callee := .builtin .append, args := #[s, x], argTypes := #[t, t] })
    (base : Nat) (e : TypeId) (i : TypeInfo) (z : Value) (size bytes : Nat) (ht : P.underlying t = some (.slice e)) (hi : P.info? e = some i) (hz : i.zero = some z)
    (hsize : i.size = size) (hby : i.bytes = bytes) (hzs : z.cells.size = size) (hsz : 0 < size)
    (v : Value) (n : Nat) (xs : List Value) (hs : a.eval s = v) (hown : w.ownsRow base e size v n xs)
    (cs : List Value) (hx : a.eval x = .slice (some ⟨w.heap.size, 0, none⟩) 1 1) (hcl : cs.length = size) (h1 : ∀ u ∈ cs, u.oneCell' = true)
    (h63 : n + 1 ≤ maxLen) (hbytes : (n + 1) * bytes ≤ 140737488355328) (hbase : base ≤ w.heap.size)
    (h : ∀ g cap w', base ≤ g → w'.ownsRow base e size (.slice (some ⟨g, 0, none⟩) (n + 1) cap) (n + 1) (xs ++ cs) → (w.alloc (.cells cs.toArray e)).grownBy w' v.ownBlock →
      (∀ B w0, B ≤ base → Below B w0 w → Below B w0 w') → wpList P ops Q rest (a.put o.dst (.slice (some ⟨g, 0, none⟩) (n + 1) cap)) w') :
    wpList P ops Q (o :: rest) a (w.alloc (.cells cs.toArray e)) := by
  refine wpList_append_own _ hgd s x t ho base e i z size bytes ht hi hz hsize hby hzs hsz v n xs hs (hown.alloc _) ⟨w.heap.size, 0, none⟩ 1 1 cs hx (by omega) (cells_new w cs e) h1 h63 hbytes (by simp; omega) ?_
  intro v' w' hown' hgrow _
  have hB : ∀ B w0, B ≤ base → Below B w0 w → Below B w0 w' := fun B w0 hb hw =>
    (hw.alloc (by omega) _).grown hgrow (by simp; omega) (fun k hk => Nat.le_trans hb (hown.lt k hk).1)
  rcases hown'.2 with ⟨_, h0⟩ | ⟨g, cap, cur, hv, hg, _⟩
  · omega
  · subst hv
    exact h g cap w' hg hown' hgrow hB
end Go.Proofs.YtcgdjnmfeibnoaaDoor
/-! AppRow -/
namespace Go.Proofs.YtcgdjnmfeibnoaaDoor
open Go.RowKit
set_option linter.unusedVariables false
set_option linter.unusedSimpArgs false
theorem app_row {P : Program} {w : World} {ops : Array Oper} {rest : List Oper} {o : Oper} {a : Act} {Q : Exit → Act → World → Prop} (hgd : o.guard = none) (s x : Operand) (t : TypeId)
    (ho : o.op = .call { callee := .builtin .append, args := #[s, x], argTypes := #[t, t] })
    (base : Nat) (e : TypeId) (i : TypeInfo) (z : Value) (size bytes : Nat) (ht : P.underlying t = some (.slice e)) (hi : P.info? e = some i) (hz : i.zero = some z)
    (hsize : i.size = size) (hby : i.bytes = bytes) (hzs : z.cells.size = size) (hsz : 0 < size)
    (v : Value) (n : Nat) (xs : List Value) (hs : a.eval s = v) (hown : w.ownsRow base e size v n xs)
    (u : Value) (B m : Nat) (news : List Value) (hx : a.eval x = u) (hu : w.ownsRow B e size u m news) (h1 : ∀ q ∈ news, q.oneCell' = true)
    (h63 : n + m ≤ maxLen) (hbytes : (n + m) * bytes ≤ 140737488355328) (hbase : base ≤ w.heap.size)
    (h : ∀ v' w', w'.ownsRow base e size v' (n + m) (xs ++ news) → (∀ B w0, B ≤ base → Below B w0 w → Below B w0 w') → wpList P ops Q rest (a.put o.dst v') w') : wpList P ops Q (o :: rest) a w := by
  obtain ⟨hl, hu'⟩ := hu
  rcases hu' with ⟨rfl, h0⟩ | ⟨g, cap, cur, rfl, hg, hr⟩
  · subst h0
    obtain rfl : news = [] := List.eq_nil_of_length_eq_zero (by rw [hl]; simp)
    refine wpList_append_own_none hgd s x t ho base e i size ht hi v n xs hs hown hx ?_
    exact h v w (by simpa using hown) (fun _ _ _ hb => hb)
  · have hu2 : w.ownsRow B e size (.slice (some ⟨g, 0, none⟩) m cap) m news := ⟨hl, .inr ⟨g, cap, cur, rfl, hg, hr⟩⟩
    refine wpList_append_own _ hgd s x t ho base e i z size bytes ht hi hz hsize hby hzs hsz v n xs hs hown ⟨g, 0, none⟩ m cap news hx hl (hu2.cells (by simp [Value.ownBlock])) h1 h63 hbytes hbase ?_
    intro v' w' hown' hgrow _
    exact h v' w' hown' (fun B w0 hb hw => hw.grown hgrow (by omega) (fun k hk => Nat.le_trans hb (hown.lt k hk).1))
/-- The same as one step of a region that draws its order. -/
theorem step_app_row {P : Program} {w : World} {ops : Array Oper} {o : Oper} {a : Act} {K : Act → World → Prop} {Q : Exit → Act → World → Prop} {E : Prop} (hgd : o.guard = none) (s x : Operand) (t : TypeId)
    (ho : o.op = .call { callee := .builtin .append, args := #[s, x], argTypes := #[t, t] })
    (base : Nat) (e : TypeId) (i : TypeInfo) (z : Value) (size bytes : Nat) (ht : P.underlying t = some (.slice e)) (hi : P.info? e = some i) (hz : i.zero = some z)
    (hsize : i.size = size) (hby : i.bytes = bytes) (hzs : z.cells.size = size) (hsz : 0 < size)
    (v : Value) (n : Nat) (xs : List Value) (hs : a.eval s = v) (hown : w.ownsRow base e size v n xs)
    (u : Value) (B m : Nat) (news : List Value) (hx : a.eval x = u) (hu : w.ownsRow B e size u m news) (h1 : ∀ q ∈ news, q.oneCell' = true)
    (h63 : n + m ≤ maxLen) (hbytes : (n + m) * bytes ≤ 140737488355328) (hbase : base ≤ w.heap.size)
    (h : ∀ v' w', w'.ownsRow base e size v' (n + m) (xs ++ news) → (∀ B w0, B ≤ base → Below B w0 w → Below B w0 w') → w.grownBy w' v.ownBlock → K (a.put o.dst v') w') :
    if Region.wanted o (yielded ops a.tmps) = true then Oper.wp P o a w K Q else E := by
  have hw : Region.wanted o (yielded ops a.tmps) = true := by simp [Region.wanted, hgd]
  rw [if_pos hw]
  obtain ⟨hl, hu'⟩ := hu
  rcases hu' with ⟨rfl, h0⟩ | ⟨g, cap, cur, rfl, hg, hr⟩
  · subst h0
    obtain rfl : news = [] := List.eq_nil_of_length_eq_zero (by rw [hl]; simp)
    have hrun := run_append_owned_none (P := P) (w := w) base t o.type e i size ht hi v n xs hown
    unfold Oper.wp
    simp [execOp, ho, resolve, invoke, builtin, hs, hx, hrun, Result.andThen]
    exact h v w (by simpa using hown) (fun _ _ _ hb => hb) (World.grownBy.refl w _)
  · have hu2 : w.ownsRow B e size (.slice (some ⟨g, 0, none⟩) m cap) m news := ⟨hl, .inr ⟨g, cap, cur, rfl, hg, hr⟩⟩
    refine wp_append_own w s x t ho base e i z size bytes ht hi hz hsize hby hzs hsz v n xs hs hown ⟨g, 0, none⟩ m cap news hx hl (hu2.cells (by simp [Value.ownBlock])) h1 h63 hbytes hbase ?_
    intro v' w' hown' hgrow _
    exact h v' w' hown' (fun B w0 hb hw => hw.grown hgrow (by omega) (fun k hk => Nat.le_trans hb (hown.lt k hk).1)) hgrow
theorem own_belowS {W W' : World} {base size n : Nat} {e : TypeId} {v : Value} {xs : List Value} (h : W.ownsRow base e size v n xs) (hb : Below W.heap.size W W') : W'.ownsRow base e size v n xs :=
  h.kept (row := none) ⟨hb.os, hb.tape, hb.output, hb.size, fun k hk _ => hb.block k hk⟩ (by cases hv : v.ownBlock <;> simp)
end Go.Proofs.YtcgdjnmfeibnoaaDoor
/-! SixGiven -/
namespace Go.Proofs.YtcgdjnmfeibnoaaDoor
open Go.RowKit Go.Lib Go.Proofs.YtcgdjnmfeibnoaaDoorW.PrintWords
set_option linter.unusedVariables false
set_option linter.unusedSimpArgs false
theorem rpre_info9 : ∃ i0 : TypeInfo, Tryd.prog.info? 61 = some i0 ∧ i0.zero = some (.agg #[.int .u16 0, .int .u16 0, .int .u16 0, .int .u16 0, .int .u16 0, .int .u16 0, .int .u16 0, .int .u16 0, .int .i64 0]) ∧ i0.size = 9 ∧ i0.bytes = 24 := by
  have h : (Tryd.prog.info? 61).map (fun i => (i.zero, i.size, i.bytes)) = some (some (.agg #[.int .u16 0, .int .u16 0, .int .u16 0, .int .u16 0, .int .u16 0, .int .u16 0, .int .u16 0, .int .u16 0, .int .i64 0]), 9, 24) := by kernel_rfl
  cases hi : Tryd.prog.info? 61 with
  | none => rw [hi] at h; cases h
  | some i0 =>
    rw [hi] at h
    have h := Option.some.inj h
    exact ⟨i0, rfl, congrArg (·.1) h, congrArg (·.2.1) h, congrArg (·.2.2) h⟩
theorem zcs_snoc {l : List Pz} {k : Nat} {x : Pz} (h : l[k]? = some x) : zcs (l.take k) ++ zc x = zcs (l.take (k + 1)) := by
  obtain ⟨hlt, e⟩ := List.getElem?_eq_some_iff.1 h
  rw [List.take_add_one, h]
  simp [zcs]
theorem own_none (w : World) (e : TypeId) : (w.alloc (.cells #[] e)).ownsRow w.heap.size e 9 (.slice (some ⟨w.heap.size, 0, none⟩) 0 0) 0 (zcs []) :=
  World.ownsRow_made w #[] 0 (Nat.le_refl _) (by decide) (by simp)
theorem own_one {B : Nat} (w : World) (x : Pz) (e : TypeId) (hB : B ≤ w.heap.size) : (w.alloc (.cells (zc x).toArray e)).ownsRow B e 9 (.slice (some ⟨w.heap.size, 0, none⟩) 1 1) 1 (zc x) :=
  ⟨by simp [zc], .inr ⟨w.heap.size, 1, (zc x).toArray, rfl, hB, heap_alloc_new w _, Nat.le_refl _, by decide, by simp [zc], by simp [zc]⟩⟩
def GivRel (w : World) (l : List Pz) (v i : Value) (W : World) : Prop := ∃ k : Nat, k ≤ l.length ∧ i = .int .i64 k ∧ W.ownsRow w.heap.size 61 9 v k (zcs (l.take k)) ∧ Below w.heap.size w W
set_option maxHeartbeats 4000000 in
set_option maxRecDepth 100000 in
theorem given_walk (l : List Pz) (A : Option Addr) (c : Nat) (w : World) (hn : l.length ≤ 1099511627776) (hr : RdZ w A l) :
    Calls Tryd.prog 18 #[.slice A l.length c] w fun e w' => ∃ v, e = .returned v ∧ w'.ownsRow w.heap.size 61 9 v l.length (zcs l) ∧ Below w.heap.size w w' := by
  go_enter Tryd.func18, Tryd.ntmps18
  have HR := Lib.hid hr
  clear hr
  go_wp2_with fail
  obtain ⟨i0, hi0, hz0, hz1, hz2⟩ := rpre_info9
  have HI := Lib.hid hi0
  have HZ0 := Lib.hid hz0
  have HZ1 := Lib.hid hz1
  have HZ2 := Lib.hid hz2
  clear hi0 hz0 hz1 hz2
  go_loopw [3, 4] (fun v i W => GivRel w l v i W) (fun _ i _ => l.length - (intOf i).toNat)
  case atStart => exact ⟨0, Nat.zero_le _, rfl, own_none _ _, (Below.refl _ _).alloc (Nat.le_refl _) _⟩
  case round =>
    obtain ⟨k, hk, rfl, hown, hb⟩ := hrel
    have HO := Lib.hid hown
    have HB := Lib.hid hb
    by_cases hlt : k < l.length
    · obtain ⟨x, hx⟩ : ∃ x, l[k]? = some x := ⟨l[k], List.getElem?_eq_getElem hlt⟩
      obtain ⟨g, o, rfl, hg, hc⟩ := HR.out k x hx
      clear hown
      have c0 := (hb.cell (p := ⟨g, o + (k * 9 + 0), none⟩) hg).trans ((hc 0 (by decide)).trans (show (zc x)[0]? = some (.int .u16 (pc 0 x.a)) from rfl))
      have c1 := (hb.cell (p := ⟨g, o + (k * 9 + 1), none⟩) hg).trans ((hc 1 (by decide)).trans (show (zc x)[1]? = some (.int .u16 (pc 1 x.a)) from rfl))
      have c2 := (hb.cell (p := ⟨g, o + (k * 9 + 2), none⟩) hg).trans ((hc 2 (by decide)).trans (show (zc x)[2]? = some (.int .u16 (pc 2 x.a)) from rfl))
      have c3 := (hb.cell (p := ⟨g, o + (k * 9 + 3), none⟩) hg).trans ((hc 3 (by decide)).trans (show (zc x)[3]? = some (.int .u16 (pc 3 x.a)) from rfl))
      have c4 := (hb.cell (p := ⟨g, o + (k * 9 + 4), none⟩) hg).trans ((hc 4 (by decide)).trans (show (zc x)[4]? = some (.int .u16 (pc 4 x.a)) from rfl))
      have c5 := (hb.cell (p := ⟨g, o + (k * 9 + 5), none⟩) hg).trans ((hc 5 (by decide)).trans (show (zc x)[5]? = some (.int .u16 (pc 5 x.a)) from rfl))
      have c6 := (hb.cell (p := ⟨g, o + (k * 9 + 6), none⟩) hg).trans ((hc 6 (by decide)).trans (show (zc x)[6]? = some (.int .u16 (pc 6 x.a)) from rfl))
      have c7 := (hb.cell (p := ⟨g, o + (k * 9 + 7), none⟩) hg).trans ((hc 7 (by decide)).trans (show (zc x)[7]? = some (.int .u16 (pc 7 x.a)) from rfl))
      have c8 := (hb.cell (p := ⟨g, o + (k * 9 + 8), none⟩) hg).trans ((hc 8 (by decide)).trans (show (zc x)[8]? = some (.int .i64 x.n) from rfl))
      simp only [Nat.add_zero, ← Nat.add_assoc] at c0 c1 c2 c3 c4 c5 c6 c7 c8
      clear hc
      have HX := Lib.hid hx
      clear hx hb
      have hgW := Nat.lt_of_lt_of_le hg HB.out.size
      go_upto_region 5 with fail
      go_region_held3 (fun w' => w'.cell? ⟨g, o + k * 9, none⟩ = some (.int .u16 (pc 0 x.a)) ∧ w'.cell? ⟨g, o + k * 9 + 1, none⟩ = some (.int .u16 (pc 1 x.a)) ∧ w'.cell? ⟨g, o + k * 9 + 2, none⟩ = some (.int .u16 (pc 2 x.a)) ∧ w'.cell? ⟨g, o + k * 9 + 3, none⟩ = some (.int .u16 (pc 3 x.a)) ∧ w'.cell? ⟨g, o + k * 9 + 4, none⟩ = some (.int .u16 (pc 4 x.a)) ∧ w'.cell? ⟨g, o + k * 9 + 5, none⟩ = some (.int .u16 (pc 5 x.a)) ∧ w'.cell? ⟨g, o + k * 9 + 6, none⟩ = some (.int .u16 (pc 6 x.a)) ∧ w'.cell? ⟨g, o + k * 9 + 7, none⟩ = some (.int .u16 (pc 7 x.a)) ∧ w'.cell? ⟨g, o + k * 9 + 8, none⟩ = some (.int .i64 x.n))
        (first | go_keep | (refine ⟨?_, ?_, ?_, ?_, ?_, ?_, ?_, ?_, ?_⟩ <;> assumption))
        (first
          | (refine step_app_row (by rfl) (.tmp 12) (.tmp 24) 33 (by rfl) w.heap.size 61 i0 (.agg #[.int .u16 0, .int .u16 0, .int .u16 0, .int .u16 0, .int .u16 0, .int .u16 0, .int .u16 0, .int .u16 0, .int .i64 0]) 9 24 Tryd.underlying33 HI.out HZ0.out HZ1.out HZ2.out rfl (by decide) _ k (zcs (l.take k)) (by rfl) (own_belowS HO.out (by first | exact (bdn (Below.refl _ _) 1).alloc (Nat.le_refl _) _ | exact (Below.refl _ _).alloc (Nat.le_refl _) _)) _ w.heap.size 1 (zc x) (by rfl) (own_one _ x _ HB.out.size) (zc_one x) (by unfold maxLen; omega) (by omega) (Nat.le_trans HB.out.size (by simp)) ?_
             intro v4 w4 hown4 hbel4 hgrow
             have hB4 : Below w.heap.size w w4 := hbel4 _ _ (Nat.le_refl _) (by first | exact (bdn HB.out 1).alloc HB.out.size _ | exact HB.out.alloc HB.out.size _)
             have d0 := (hB4.cell (p := ⟨g, o + k * 9, none⟩) hg).trans ((HB.out.cell (p := ⟨g, o + k * 9, none⟩) hg).symm.trans c0)
             have d1 := (hB4.cell (p := ⟨g, o + k * 9 + 1, none⟩) hg).trans ((HB.out.cell (p := ⟨g, o + k * 9 + 1, none⟩) hg).symm.trans c1)
             have d2 := (hB4.cell (p := ⟨g, o + k * 9 + 2, none⟩) hg).trans ((HB.out.cell (p := ⟨g, o + k * 9 + 2, none⟩) hg).symm.trans c2)
             have d3 := (hB4.cell (p := ⟨g, o + k * 9 + 3, none⟩) hg).trans ((HB.out.cell (p := ⟨g, o + k * 9 + 3, none⟩) hg).symm.trans c3)
             have d4 := (hB4.cell (p := ⟨g, o + k * 9 + 4, none⟩) hg).trans ((HB.out.cell (p := ⟨g, o + k * 9 + 4, none⟩) hg).symm.trans c4)
             have d5 := (hB4.cell (p := ⟨g, o + k * 9 + 5, none⟩) hg).trans ((HB.out.cell (p := ⟨g, o + k * 9 + 5, none⟩) hg).symm.trans c5)
             have d6 := (hB4.cell (p := ⟨g, o + k * 9 + 6, none⟩) hg).trans ((HB.out.cell (p := ⟨g, o + k * 9 + 6, none⟩) hg).symm.trans c6)
             have d7 := (hB4.cell (p := ⟨g, o + k * 9 + 7, none⟩) hg).trans ((HB.out.cell (p := ⟨g, o + k * 9 + 7, none⟩) hg).symm.trans c7)
             have d8 := (hB4.cell (p := ⟨g, o + k * 9 + 8, none⟩) hg).trans ((HB.out.cell (p := ⟨g, o + k * 9 + 8, none⟩) hg).symm.trans c8)))
      go_wp2_with fail
      rw [zcs_snoc HX.out] at hown4
      exact ⟨⟨k + 1, by omega, by simp, hown4, hB4⟩, by simp [intOf]; omega⟩
    · obtain rfl : k = l.length := by omega
      clear hown hb
      go_wp2_with fail
      go_returns
      have h := HO.out
      rw [List.take_length] at h
      exact ⟨_, rfl, h, HB.out⟩
end Go.Proofs.YtcgdjnmfeibnoaaDoor
/-! JoinV -/
namespace Go.Proofs.YtcgdjnmfeibnoaaDoor
set_option linter.unusedVariables false
set_option linter.unusedSimpArgs false
/-- Ranges, each behind the one before with room between. -/
def Sep : List (Int × Int) → Prop
  | [] => True
  | [r] => r.1 ≤ r.2
  | r :: s :: l => r.1 ≤ r.2 ∧ r.2 + 1 < s.1 ∧ Sep (s :: l)
/-- Lies a number in one of the ranges? -/
def inR (l : List (Int × Int)) (x : Int) : Prop := ∃ r ∈ l, r.1 ≤ x ∧ x ≤ r.2
theorem inR_nil (x : Int) : ¬ inR [] x := fun ⟨r, h, _⟩ => absurd h (by simp)
theorem inR_cons (r : Int × Int) (l : List (Int × Int)) (x : Int) : inR (r :: l) x ↔ (r.1 ≤ x ∧ x ≤ r.2) ∨ inR l x := by
  constructor
  · rintro ⟨s, hs, h⟩
    rcases List.mem_cons.1 hs with rfl | hs
    · exact .inl h
    · exact .inr ⟨s, hs, h⟩
  · rintro (h | ⟨s, hs, h⟩)
    · exact ⟨r, by simp, h⟩
    · exact ⟨s, by simp [hs], h⟩
theorem Sep.tail {r : Int × Int} {l : List (Int × Int)} (h : Sep (r :: l)) : Sep l := by
  cases l with
  | nil => trivial
  | cons s l => exact h.2.2
theorem Sep.head {r : Int × Int} {l : List (Int × Int)} (h : Sep (r :: l)) : r.1 ≤ r.2 := by
  cases l with
  | nil => exact h
  | cons s l => exact h.1
theorem Sep.above : ∀ {l : List (Int × Int)} {r : Int × Int}, Sep (r :: l) → ∀ s ∈ l, r.2 + 1 < s.1 ∧ s.1 ≤ s.2
  | [], r, h, s, hs => absurd hs (by simp)
  | t :: l, r, h, s, hs => by
    rcases List.mem_cons.1 hs with rfl | hs
    · exact ⟨h.2.1, h.2.2.head⟩
    · have := Sep.above h.2.2 s hs
      have := h.2.2.head
      have := h.2.1
      omega
theorem Sep.cons {r : Int × Int} {l : List (Int × Int)} (h0 : r.1 ≤ r.2) (h1 : ∀ s ∈ l, r.2 + 1 < s.1) (h2 : Sep l) : Sep (r :: l) := by
  cases l with
  | nil => exact h0
  | cons s l => exact ⟨h0, h1 s (by simp), h2⟩
theorem sep_unique : ∀ (l m : List (Int × Int)), Sep l → Sep m → (∀ x, inR l x ↔ inR m x) → l = m
  | [], [], _, _, _ => rfl
  | [], r :: m, _, hm, h => absurd ((h r.1).2 ((inR_cons r m r.1).2 (.inl ⟨Int.le_refl _, hm.head⟩))) (inR_nil _)
  | r :: l, [], hl, _, h => absurd ((h r.1).1 ((inR_cons r l r.1).2 (.inl ⟨Int.le_refl _, hl.head⟩))) (inR_nil _)
  | r :: l, s :: m, hl, hm, h => by
    have lr := hl.head
    have ls := hm.head
    have al := hl.above
    have am := hm.above
    have inl : ∀ x, inR l x → r.2 + 1 < x := fun x ⟨t, ht, h1, h2⟩ => by have := al t ht; omega
    have inm : ∀ x, inR m x → s.2 + 1 < x := fun x ⟨t, ht, h1, h2⟩ => by have := am t ht; omega
    have e1 : r.1 = s.1 := by
      have a := (h r.1).1 ((inR_cons r l r.1).2 (.inl ⟨Int.le_refl _, lr⟩))
      have b := (h s.1).2 ((inR_cons s m s.1).2 (.inl ⟨Int.le_refl _, ls⟩))
      rcases (inR_cons _ _ _).1 a with a | a <;> rcases (inR_cons _ _ _).1 b with b | b
      · omega
      · have := inl _ b; omega
      · have := inm _ a; omega
      · have := inl _ b; have := inm _ a; omega
    have e2 : r.2 = s.2 := by
      rcases Int.lt_trichotomy r.2 s.2 with hlt | heq | hgt
      · have b := (h (r.2 + 1)).2 ((inR_cons s m _).2 (.inl ⟨by omega, by omega⟩))
        rcases (inR_cons _ _ _).1 b with b | b
        · omega
        · have := inl _ b; omega
      · exact heq
      · have b := (h (s.2 + 1)).1 ((inR_cons r l _).2 (.inl ⟨by omega, by omega⟩))
        rcases (inR_cons _ _ _).1 b with b | b
        · omega
        · have := inm _ b; omega
    obtain rfl : r = s := Prod.ext e1 e2
    refine congrArg (r :: ·) (sep_unique l m hl.tail hm.tail fun x => ?_)
    have hx := h x
    rw [inR_cons, inR_cons] at hx
    constructor
    · intro g
      rcases hx.1 (.inr g) with k | k
      · have := inl x g; omega
      · exact k
    · intro g
      rcases hx.2 (.inr g) with k | k
      · have := inm x g; omega
      · exact k
/-- A sweep over ranges in order, one of them at hand. -/
def sweep (a b : Int) : List (Int × Int) → List (Int × Int)
  | [] => [(a, b)]
  | r :: l => if r.1 ≤ b + 1 then sweep a (max b r.2) l else (a, b) :: sweep r.1 r.2 l
/-- In order by their beginnings. -/
def Asc : List (Int × Int) → Prop := List.Pairwise fun r s => r.1 ≤ s.1
theorem sweep_in : ∀ (l : List (Int × Int)) (a b : Int), a ≤ b → (∀ r ∈ l, r.1 ≤ r.2 ∧ a ≤ r.1) → Asc l → ∀ x, inR (sweep a b l) x ↔ (a ≤ x ∧ x ≤ b) ∨ inR l x
  | [], a, b, hab, hl, ho, x => by
    rw [sweep, inR_cons]
  | r :: l, a, b, hab, hl, ho, x => by
    have hr := hl r (by simp)
    have ho' := List.pairwise_cons.1 ho
    rw [sweep, inR_cons r l]
    by_cases h : r.1 ≤ b + 1
    · rw [if_pos h, sweep_in l a (max b r.2) (by omega) (fun s hs => ⟨(hl s (by simp [hs])).1, (hl s (by simp [hs])).2⟩) ho'.2 x]
      constructor
      · rintro (g | g)
        · by_cases hb : x ≤ b
          · exact .inl ⟨g.1, hb⟩
          · exact .inr (.inl (by omega))
        · exact .inr (.inr g)
      · rintro (g | g | g)
        · exact .inl (by omega)
        · exact .inl (by omega)
        · exact .inr g
    · rw [if_neg h, inR_cons, sweep_in l r.1 r.2 hr.1 (fun s hs => ⟨(hl s (by simp [hs])).1, ho'.1 s hs⟩) ho'.2 x]
theorem sweep_head (l : List (Int × Int)) : ∀ (a b : Int), ∃ c m, sweep a b l = (a, c) :: m := by
  induction l with
  | nil => exact fun a b => ⟨b, [], rfl⟩
  | cons r l ih =>
    intro a b
    rw [sweep]
    split
    · exact ih a _
    · exact ⟨b, _, rfl⟩
theorem sweep_sep : ∀ (l : List (Int × Int)) (a b : Int), a ≤ b → (∀ r ∈ l, r.1 ≤ r.2 ∧ a ≤ r.1) → Asc l → Sep (sweep a b l)
  | [], a, b, hab, hl, ho => hab
  | r :: l, a, b, hab, hl, ho => by
    have hr := hl r (by simp)
    have ho' := List.pairwise_cons.1 ho
    rw [sweep]
    by_cases h : r.1 ≤ b + 1
    · rw [if_pos h]
      exact sweep_sep l a (max b r.2) (by omega) (fun s hs => ⟨(hl s (by simp [hs])).1, (hl s (by simp [hs])).2⟩) ho'.2
    · rw [if_neg h]
      have i := sweep_sep l r.1 r.2 hr.1 (fun s hs => ⟨(hl s (by simp [hs])).1, ho'.1 s hs⟩) ho'.2
      obtain ⟨c, m, e⟩ := sweep_head l r.1 r.2
      rw [e] at i ⊢
      exact ⟨hab, by show b + 1 < r.1; omega, i⟩
/-- Do two ranges touch? -/
def touch (a b : Int) (r : Int × Int) : Bool := decide (r.1 ≤ b + 1) && decide (a ≤ r.2 + 1)
/-- A range that takes in those that it touches, one after the other; the others. -/
def absorb : Nat → Int → Int → List (Int × Int) → (Int × Int) × List (Int × Int)
  | 0, a, b, l => ((a, b), l)
  | n + 1, a, b, l => match l.findIdx? (touch a b) with
    | none => ((a, b), l)
    | some i => absorb n (min a (l.getD i (0, 0)).1) (max b (l.getD i (0, 0)).2) (l.eraseIdx i)
theorem inR_erase {l : List (Int × Int)} {i : Nat} (h : i < l.length) (x : Int) : inR l x ↔ ((l.getD i (0, 0)).1 ≤ x ∧ x ≤ (l.getD i (0, 0)).2) ∨ inR (l.eraseIdx i) x := by
  have e : l = l.take i ++ l[i] :: l.drop (i + 1) := by simp
  have hg : l.getD i (0, 0) = l[i] := by simp [List.getD_eq_getElem?_getD, h]
  rw [hg, List.eraseIdx_eq_take_drop_succ]
  unfold inR
  constructor
  · rintro ⟨r, hr, h2⟩
    rw [e] at hr
    rcases List.mem_append.1 hr with hr | hr
    · exact .inr ⟨r, by simp [hr], h2⟩
    · rcases List.mem_cons.1 hr with rfl | hr
      · exact .inl h2
      · exact .inr ⟨r, by simp [hr], h2⟩
  · rintro (h2 | ⟨r, hr, h2⟩)
    · exact ⟨l[i], List.getElem_mem h, h2⟩
    · rcases List.mem_append.1 hr with hr | hr
      · exact ⟨r, List.mem_of_mem_take hr, h2⟩
      · exact ⟨r, List.mem_of_mem_drop hr, h2⟩
theorem Sep.sub {l m : List (Int × Int)} (h : Sep l) (s : m.Sublist l) : Sep m := by
  induction s with
  | slnil => trivial
  | cons a s ih => exact ih h.tail
  | cons_cons a s ih => exact Sep.cons h.head (fun r hr => (h.above r (s.subset hr)).1) (ih h.tail)
theorem absorb_ok : ∀ (n : Nat) (a b : Int) (l : List (Int × Int)), l.length ≤ n → a ≤ b → Sep l →
    let o := absorb n a b l
    o.1.1 ≤ o.1.2 ∧ Sep o.2 ∧ (∀ x, inR (o.1 :: o.2) x ↔ (a ≤ x ∧ x ≤ b) ∨ inR l x) ∧ ∀ r ∈ o.2, touch o.1.1 o.1.2 r = false
  | 0, a, b, l, hn, hab, hl => by
    obtain rfl : l = [] := List.eq_nil_of_length_eq_zero (by omega)
    exact ⟨hab, trivial, fun x => inR_cons _ _ _, fun r hr => absurd hr (by simp [absorb])⟩
  | n + 1, a, b, l, hn, hab, hl => by
    simp only [absorb]
    cases hf : l.findIdx? (touch a b) with
    | none =>
      refine ⟨hab, hl, fun x => inR_cons _ _ _, fun r hr => ?_⟩
      have := List.findIdx?_eq_none_iff.1 hf r hr
      exact this
    | some i =>
      obtain ⟨hi, ht, _⟩ := List.findIdx?_eq_some_iff_getElem.1 hf
      have hg : l.getD i (0, 0) = l[i] := by simp [List.getD_eq_getElem?_getD, hi]
      have hs : Sep [l[i]] := hl.sub (by simp)
      have hle : l[i].1 ≤ l[i].2 := hs
      unfold touch at ht
      simp only [Bool.and_eq_true, decide_eq_true_eq] at ht
      have k := absorb_ok n (min a l[i].1) (max b l[i].2) (l.eraseIdx i) (by rw [List.length_eraseIdx_of_lt hi]; omega) (by omega) (hl.sub (List.eraseIdx_sublist ..))
      simp only [hg]
      refine ⟨k.1, k.2.1, fun x => (k.2.2.1 x).trans ?_, k.2.2.2⟩
      rw [inR_erase hi x, hg]
      constructor
      · rintro (g | g)
        · by_cases h1 : a ≤ x ∧ x ≤ b
          · exact .inl h1
          · exact .inr (.inl (by omega))
        · exact .inr (.inr g)
      · rintro (g | g | g)
        · exact .inl (by omega)
        · exact .inl (by omega)
        · exact .inr g
/-- A range put in its place. -/
def insertR (r : Int × Int) (l : List (Int × Int)) : List (Int × Int) := l.takeWhile (fun s => decide (s.1 < r.1)) ++ r :: l.dropWhile (fun s => decide (s.1 < r.1))
theorem insertR_in (r : Int × Int) (l : List (Int × Int)) (x : Int) : inR (insertR r l) x ↔ inR (r :: l) x := by
  have e : ∀ s, s ∈ insertR r l ↔ s ∈ r :: l := by
    intro s
    unfold insertR
    rw [List.mem_append, List.mem_cons, List.mem_cons]
    have := List.takeWhile_append_dropWhile (p := fun s : Int × Int => decide (s.1 < r.1)) (l := l)
    constructor
    · rintro (h | h | h)
      · exact .inr (by rw [← this]; exact List.mem_append.2 (.inl h))
      · exact .inl h
      · exact .inr (by rw [← this]; exact List.mem_append.2 (.inr h))
    · rintro (h | h)
      · exact .inr (.inl h)
      · rw [← this] at h
        rcases List.mem_append.1 h with h | h
        · exact .inl h
        · exact .inr (.inr h)
  unfold inR
  constructor
  · rintro ⟨s, hs, h⟩
    exact ⟨s, (e s).1 hs, h⟩
  · rintro ⟨s, hs, h⟩
    exact ⟨s, (e s).2 hs, h⟩
theorem insertR_sep : ∀ (l : List (Int × Int)) (r : Int × Int), r.1 ≤ r.2 → Sep l → (∀ s ∈ l, touch r.1 r.2 s = false) → Sep (insertR r l)
  | [], r, hr, hl, ht => hr
  | s :: l, r, hr, hl, ht => by
    have h0 := ht s (by simp)
    have hs := hl.head
    unfold touch at h0
    simp only [Bool.and_eq_false_iff, decide_eq_false_iff_not] at h0
    by_cases h : s.1 < r.1
    · have i := insertR_sep l r hr hl.tail (fun t h => ht t (by simp [h]))
      have e : insertR r (s :: l) = s :: insertR r l := by
        unfold insertR
        rw [List.takeWhile_cons_of_pos (by simpa using h), List.dropWhile_cons_of_pos (by simpa using h)]
        rfl
      rw [e]
      refine Sep.cons hs (fun t h => ?_) i
      unfold insertR at h
      rcases List.mem_append.1 h with h | h
      · exact (hl.above t (List.takeWhile_sublist _ |>.subset h)).1
      · rcases List.mem_cons.1 h with rfl | h
        · omega
        · exact (hl.above t (List.dropWhile_sublist _ |>.subset h)).1
    · have e : insertR r (s :: l) = r :: s :: l := by
        unfold insertR
        rw [List.takeWhile_cons_of_neg (by simpa using h), List.dropWhile_cons_of_neg (by simpa using h)]
        rfl
      rw [e]
      refine Sep.cons hr (fun t h2 => ?_) hl
      rcases List.mem_cons.1 h2 with rfl | h2
      · omega
      · have := (hl.above t h2).1
        omega
/-- The document's ranges. -/
def joinR (acc : List (Int × Int)) : List (Int × Int) → List (Int × Int)
  | [] => acc
  | r :: l => let o := absorb acc.length r.1 r.2 acc
    joinR (insertR o.1 o.2) l
theorem joinR_ok : ∀ (l acc : List (Int × Int)), Sep acc → (∀ r ∈ l, r.1 ≤ r.2) → Sep (joinR acc l) ∧ ∀ x, inR (joinR acc l) x ↔ inR acc x ∨ inR l x
  | [], acc, ha, hl => ⟨ha, fun x => ⟨.inl, fun h => h.elim id fun h => absurd h (inR_nil x)⟩⟩
  | r :: l, acc, ha, hl => by
    have k := absorb_ok acc.length r.1 r.2 acc (Nat.le_refl _) (hl r (by simp)) ha
    have s := insertR_sep _ _ k.1 k.2.1 k.2.2.2
    have i := joinR_ok l (insertR (absorb acc.length r.1 r.2 acc).1 (absorb acc.length r.1 r.2 acc).2) s (fun t h => hl t (by simp [h]))
    refine ⟨i.1, fun x => (i.2 x).trans ?_⟩
    rw [insertR_in, k.2.2.1 x, inR_cons]
    constructor
    · rintro ((h | h) | h)
      · exact .inr (.inl h)
      · exact .inl h
      · exact .inr (.inr h)
    · rintro (h | h | h)
      · exact .inl (.inr h)
      · exact .inl (.inl h)
      · exact .inr h
/-- A sweep of what is sorted is what the document joins. -/
def sweepL : List (Int × Int) → List (Int × Int)
  | [] => []
  | r :: l => sweep r.1 r.2 l
theorem sweepL_ok : ∀ (l : List (Int × Int)), (∀ r ∈ l, r.1 ≤ r.2) → Asc l → Sep (sweepL l) ∧ ∀ x, inR (sweepL l) x ↔ inR l x
  | [], h, ho => ⟨trivial, fun x => Iff.rfl⟩
  | r :: l, h, ho => by
    have ho' := List.pairwise_cons.1 ho
    have hl : ∀ s ∈ l, s.1 ≤ s.2 ∧ r.1 ≤ s.1 := fun s hs => ⟨h s (by simp [hs]), ho'.1 s hs⟩
    refine ⟨sweep_sep l r.1 r.2 (h r (by simp)) hl ho'.2, fun x => ?_⟩
    rw [sweepL, sweep_in l r.1 r.2 (h r (by simp)) hl ho'.2 x, inR_cons]
theorem sweep_join (l m : List (Int × Int)) (h : ∀ r ∈ l, r.1 ≤ r.2) (ho : Asc m) (hp : m.Perm l) : sweepL m = joinR [] l := by
  have a := sweepL_ok m (fun r hr => h r (hp.subset hr)) ho
  have b := joinR_ok l [] trivial h
  refine sep_unique _ _ a.1 b.1 fun x => ?_
  rw [a.2 x, b.2 x]
  constructor
  · rintro ⟨r, hr, g⟩
    exact .inr ⟨r, hp.subset hr, g⟩
  · rintro (g | ⟨r, hr, g⟩)
    · exact absurd g (inR_nil x)
    · exact ⟨r, hp.symm.subset hr, g⟩
end Go.Proofs.YtcgdjnmfeibnoaaDoor
/-! SixJn -/
namespace Go.Proofs.YtcgdjnmfeibnoaaDoor
open Go.RowKit Go.Lib Go.Sort Go.Proofs.YtcgdjnmfeibnoaaDoorW.PrintWords
set_option linter.unusedVariables false
set_option linter.unusedSimpArgs false
theorem flatZ_get : ∀ (zs : List Pz) (t : Nat), t < zs.length * 9 → (zs.flatMap zc)[t]? = some ((zc zs[t / 9]!)[t % 9]!)
  | [], t, h => absurd h (by simp)
  | x :: l, t, h => by
    rw [List.flatMap_cons]
    have hz : (zc x).length = 9 := rfl
    rcases Nat.lt_or_ge t 9 with h2 | h2
    · rw [List.getElem?_append_left (by omega), show t / 9 = 0 by omega, show t % 9 = t by omega]
      rw [List.getElem?_eq_getElem (by omega)]
      show some _ = some ((zc x)[t]!)
      rw [getElem!_pos (zc x) t (by omega)]
    · rw [List.getElem?_append_right (by omega), hz, flatZ_get l (t - 9) (by simp at h; omega)]
      have e1 : t / 9 = (t - 9) / 9 + 1 := by omega
      have e2 : t % 9 = (t - 9) % 9 := by omega
      rw [e1, e2]
      rfl
theorem holdsZ_own {w : World} {base : Nat} {e : TypeId} {v : Value} {n : Nat} {zs : List Pz} (h : w.ownsRow base e 9 v n (zs.flatMap zc)) (hv : v ≠ .slice none 0 0) :
    ∃ g cap, v = .slice (some ⟨g, 0, none⟩) n cap ∧ base ≤ g ∧ g < w.heap.size ∧ n ≤ cap ∧ zs.length = n ∧ HoldsK zc 9 w g 0 zs.toArray := by
  have hl : zs.length = n := by
    have := h.1
    rw [flatZ_len] at this
    omega
  rcases h.2 with ⟨e0, _⟩ | ⟨g, cap, cur, rfl, hb, hg, hn, hm, hs, ht⟩
  · exact absurd e0 hv
  · have hlt : g < w.heap.size := by
      rcases Nat.lt_or_ge g w.heap.size with h' | h'
      · exact h'
      · rw [Array.getElem?_eq_none h'] at hg; cases hg
    refine ⟨g, cap, rfl, hb, hlt, hn, hl, fun j hj => ?_⟩
    have hj' : j < n * 9 := by
      rw [size_flatK] at hj
      simpa [hl] using hj
    refine ⟨?_, by simp [World.frozen?, hg]⟩
    have e1 : (cur.toList.take (n * 9))[j]? = (zs.flatMap zc)[j]? := by rw [ht]
    rw [List.getElem?_take, if_pos (by omega), Array.getElem?_toList, flatZ_get zs j (by omega)] at e1
    rw [get_flatK _ _ _ _ (by simpa [hl] using hj')]
    simp only [World.cell?, hg, Nat.zero_add]
    simp only [Option.isSome_none, Bool.false_eq_true, if_false]
    rw [e1]
    simp
/-- By their first addresses. -/
def AscZ : List Pz → Prop := List.Pairwise fun x y => x.v ≤ y.v
theorem sortedZ_post {w w1 : World} {g n : Nat} {l : List Pz} {d' : Array Pz} {q : Nat} {os : Array Obj} (hB : Below w.heap.size w w1) (hg : w.heap.size ≤ g) (hlt : g < w1.heap.size) (hl : l.length = n) (hH : HoldsK zc 9 w1 g 0 l.toArray)
    (hp : PermIn 0 l.toArray.size l.toArray d') (hs : SortedIn (ltOf cmpZ) 0 l.toArray.size d') :
    RdZ (sortWorldK zc 9 w1 g 0 q d' os) (some ⟨g, 0, none⟩) d'.toList ∧ Below w.heap.size w (sortWorldK zc 9 w1 g 0 q d' os) ∧ d'.toList.Perm l ∧ AscZ d'.toList := by
  obtain ⟨p1, p2, p3⟩ := hp
  have hsz : d'.size = n := by simpa [hl] using p1
  have hK : HoldsK zc 9 (sortWorldK zc 9 w1 g 0 q d' os) g 0 d' := holdsK_sortWorldK zc 9 w1 g 0 q l.toArray d' os hlt hH (by simpa using p1)
  have hBz : Below w.heap.size w (sortWorldK zc 9 w1 g 0 q d' os) ∧ w1.heap.size ≤ (sortWorldK zc 9 w1 g 0 q d' os).heap.size := by
    have h1 := Lib.below_putRow (enc := id) (q := q) (d := flatK zc 9 d') hB hg
    have h2 := Lib.below_putRow (enc := id) (q := q) (d := flatK zc 9 d') (Below.refl 0 w1) (Nat.zero_le g)
    refine ⟨h1.trans ⟨rfl, rfl, rfl, ?_, fun k hk => ?_⟩, ?_⟩
    · show _ ≤ (_ ++ os).size
      rw [Array.size_append]
      exact Nat.le_add_right _ _
    · have hsz2 := h1.size
      exact Array.getElem?_append_left (Nat.lt_of_lt_of_le hk hsz2)
    · refine Nat.le_trans h2.size ?_
      show _ ≤ (_ ++ os).size
      rw [Array.size_append]
      exact Nat.le_add_right _ _
  refine ⟨fun k x hk => ?_, hBz.1, ?_, ?_⟩
  · have hjs : k < d'.size := by
      rcases Nat.lt_or_ge k d'.size with h | h
      · exact h
      · rw [List.getElem?_eq_none (by simpa using h)] at hk; cases hk
    have hp : x = d'[k]! := by
      rw [Array.getElem?_toList, Array.getElem?_eq_getElem hjs] at hk
      rw [getElem!_pos d' k hjs]
      exact (Option.some.inj hk).symm
    subst hp
    refine ⟨g, 0, rfl, Nat.lt_of_lt_of_le hlt hBz.2, fun j hj => ?_⟩
    have := hK.cell (i := k) (c := j) hjs hj
    rw [Nat.zero_add]
    rw [Nat.zero_add] at this
    rw [this.1, List.getElem?_eq_getElem (by show j < 9; exact hj), getElem!_pos (zc d'[k]!) j (by show j < 9; exact hj)]
  · rw [show d' = d'.extract 0 l.toArray.size by rw [← p1, Array.extract_size]]
    refine p3.trans ?_
    rw [Array.extract_size]
  · rw [AscZ, List.pairwise_iff_getElem]
    intro i j hi hj hij
    have hj2 : j < d'.size := by simpa using hj
    have h := hs i j (Nat.zero_le _) hij (by rw [← p1]; exact hj2)
    rw [cmpZ_lt, getElem!_pos d' j hj2, getElem!_pos d' i (by omega)] at h
    have := of_decide_eq_false h
    simp only [Array.getElem_toList]
    omega
theorem sortZ_walk (v : Value) (l : List Pz) (w0 w : World) (ho : w.ownsRow w0.heap.size 53 9 v l.length (zcs l)) (hn : l.length ≤ 1099511627776) (hB : Below w0.heap.size w0 w) :
    Calls Tryd.prog 54 #[v, .func (.func 55) #[] #[]] w fun e w' => e = .returned (.tuple #[]) ∧ ∃ (D : List Pz) (A : Option Addr) (c : Nat), v = .slice A l.length c ∧ l.length ≤ c ∧ RdZ w' A D ∧ Below w0.heap.size w0 w' ∧ D.Perm l ∧ AscZ D := by
  by_cases hv : v = .slice none 0 0
  · subst hv
    have hl : l = [] := by
      rcases ho.2 with ⟨_, h⟩ | ⟨g, cap, cur, e0, _⟩
      · exact List.eq_nil_of_length_eq_zero h
      · cases e0
    subst hl
    refine (c_sort_none 0 _ w).mono ?_
    rintro e w' ⟨rfl, rfl⟩
    exact ⟨rfl, [], none, 0, rfl, Nat.le_refl _, rdz_nil _ _, hB, List.Perm.refl _, List.Pairwise.nil⟩
  · obtain ⟨g, cap, rfl, hg, hlt, hc, hl, hH⟩ := holdsZ_own ho hv
    have hs := c_sort g 0 cap l.toArray w hH hlt (by simp; omega)
    rw [List.size_toArray] at hs
    refine hs.mono ?_
    rintro e w' ⟨rfl, d', q, os, hp, hso, rfl⟩
    obtain ⟨h1, h2, h3, h4⟩ := sortedZ_post (q := q) (os := os) hB hg hlt rfl hH (by rw [List.size_toArray]; exact hp) (by rw [List.size_toArray]; exact hso)
    exact ⟨rfl, d'.toList, _, cap, rfl, hc, h1, h2, h3, h4⟩
end Go.Proofs.YtcgdjnmfeibnoaaDoor
/-! SixInsV -/
namespace Go.Proofs.YtcgdjnmfeibnoaaDoor
open Go.RowKit Go.Lib Go.Sort
set_option linter.unusedVariables false
/-- Put in at a place. -/
def insZ (x : Pz) (S : List Pz) (k : Nat) : List Pz := S.take k ++ x :: S.drop k
theorem insZ_perm (x : Pz) (S : List Pz) (k : Nat) : (insZ x S k).Perm (x :: S) := by
  unfold insZ
  refine List.perm_middle.trans ?_
  rw [List.take_append_drop]
theorem insZ_len (x : Pz) (S : List Pz) (k : Nat) : (insZ x S k).length = S.length + 1 := (insZ_perm x S k).length_eq
theorem insZ_asc {x : Pz} {S : List Pz} {k : Nat} (h : AscZ S) (hl : ∀ y ∈ S.take k, y.v ≤ x.v) (hg : ∀ y ∈ S.drop k, x.v ≤ y.v) : AscZ (insZ x S k) := by
  unfold AscZ insZ at *
  rw [List.pairwise_append]
  refine ⟨h.sublist (List.take_sublist _ _), List.pairwise_cons.2 ⟨hg, h.sublist (List.drop_sublist _ _)⟩, fun a ha b hb => ?_⟩
  rcases List.mem_cons.1 hb with rfl | hb
  · exact hl a ha
  · have h1 := hl a ha
    have h2 := hg b hb
    omega
/-- Where the search for the place ends. -/
theorem insZ_stop {x : Pz} {S : List Pz} {k : Nat} (h : AscZ S) (hk : k ≤ S.length) (hs : k = 0 ∨ ∃ y, S[k - 1]? = some y ∧ y.v ≤ x.v) : ∀ y ∈ S.take k, y.v ≤ x.v := by
  intro y hy
  rcases hs with rfl | ⟨z, hz, hzx⟩
  · simp at hy
  · obtain ⟨i, hi⟩ := List.getElem?_of_mem hy
    have hik : i < k := by
      have := (List.getElem?_eq_some_iff.1 hi).1
      rw [List.length_take] at this
      omega
    rw [List.getElem?_take, if_pos hik] at hi
    obtain ⟨h1, e1⟩ := List.getElem?_eq_some_iff.1 hi
    obtain ⟨h2, e2⟩ := List.getElem?_eq_some_iff.1 hz
    by_cases e : i = k - 1
    · subst e
      rw [e1] at e2
      rw [e2]
      exact hzx
    · have := (List.pairwise_iff_getElem.1 h) i (k - 1) h1 h2 (by omega)
      rw [e1, e2] at this
      omega
end Go.Proofs.YtcgdjnmfeibnoaaDoor
/-! SixJi -/
namespace Go.Proofs.YtcgdjnmfeibnoaaDoor
open Go.RowKit Go.Lib Go.Sort Go.Proofs.YtcgdjnmfeibnoaaDoorW.PrintWords
set_option linter.unusedVariables false
set_option linter.unusedSimpArgs false
/-- The place of the first that is no prefix; -1: all are. -/
def badZ (l : List Pz) : Int := Lib.idxBy (fun _ y => !isZ y) l default
theorem badZ_neg {l : List Pz} (h : ¬ 0 ≤ badZ l) : badZ l = -1 ∧ ∀ x ∈ l, isZ x = true := by
  have e : decide (0 ≤ badZ l) = l.any fun y => !isZ y := Lib.idxBy_nonneg_iff (fun _ y => !isZ y) l default
  rw [decide_eq_false h] at e
  have ha : ∀ x ∈ l, isZ x = true := by
    intro x hx
    have := List.any_eq_false.1 e.symm x hx
    simpa using this
  refine ⟨?_, ha⟩
  unfold badZ
  have := Lib.idxBy_miss (fun _ y => !isZ y) l l.length default (fun j hj => by
    rw [getElem!_pos l j hj, ha _ (List.getElem_mem hj)]
    rfl)
  rwa [List.take_length] at this
theorem c_idxZ (A : Option Addr) (c : Nat) (l : List Pz) (w : World) (hr : RdZ w A l) (hn : l.length ≤ 9223372036854775807) :
    Calls Tryd.prog 50 #[.slice A l.length c, .func (.func 51) #[] #[]] w fun e w' => e = .returned (.int .i64 (badZ l)) ∧ Below w.heap.size w w' := by
  cases l with
  | nil =>
    refine (c_index_zero A c _ w).mono ?_
    rintro e w' ⟨rfl, rfl⟩
    exact ⟨rfl, Below.refl _ _⟩
  | cons y l =>
    obtain ⟨b, off, rfl, hb, _⟩ := hr 0 y rfl
    refine c_index b off c (y :: l) w hn hb ?_
    intro j hj i v hi
    obtain ⟨b', off', e, _, hc⟩ := hr j ((y :: l)[j]'hj) (List.getElem?_eq_getElem hj)
    obtain ⟨rfl, rfl⟩ : b = b' ∧ off = off' := by simpa using e
    rw [getElem!_pos _ j hj] at hi
    have hi9 : i < 9 := by
      have := (List.getElem?_eq_some_iff.1 hi).1
      simpa [zc] using this
    rw [Nat.add_assoc, hc i hi9, hi]
theorem rdz_flat {w : World} {b off : Nat} {l : List Pz} (hr : RdZ w (some ⟨b, off, none⟩) l) : ∀ j u, (l.flatMap zc)[j]? = some u → w.cell? ⟨b, off + j, none⟩ = some u := by
  intro j u hu
  have hj : j < l.length * 9 := by
    have := (List.getElem?_eq_some_iff.1 hu).1
    rwa [flatZ_len] at this
  have hk : j / 9 < l.length := by omega
  obtain ⟨b', off', e, _, hc⟩ := hr (j / 9) (l[j / 9]'hk) (List.getElem?_eq_getElem hk)
  obtain ⟨rfl, rfl⟩ : b = b' ∧ off = off' := by simpa using e
  have h := hc (j % 9) (by omega)
  rw [show j / 9 * 9 + j % 9 = j by omega] at h
  rw [h, ← hu, ← zcs_get l (j / 9) _ (List.getElem?_eq_getElem hk) (j % 9) (by omega), show j / 9 * 9 + j % 9 = j by omega]
  rfl
theorem pre_info9 : ∃ i0 : TypeInfo, Tryd.prog.info? 53 = some i0 ∧ i0.zero = some (.agg #[.int .u16 0, .int .u16 0, .int .u16 0, .int .u16 0, .int .u16 0, .int .u16 0, .int .u16 0, .int .u16 0, .int .i64 0]) ∧ i0.size = 9 ∧ i0.bytes = 24 := by
  have h : (Tryd.prog.info? 53).map (fun i => (i.zero, i.size, i.bytes)) = some (some (.agg #[.int .u16 0, .int .u16 0, .int .u16 0, .int .u16 0, .int .u16 0, .int .u16 0, .int .u16 0, .int .u16 0, .int .i64 0]), 9, 24) := by kernel_rfl
  cases hi : Tryd.prog.info? 53 with
  | none => rw [hi] at h; cases h
  | some i0 =>
    rw [hi] at h
    have h := Option.some.inj h
    exact ⟨i0, rfl, congrArg (·.1) h, congrArg (·.2.1) h, congrArg (·.2.2) h⟩
set_option maxHeartbeats 1000000 in
set_option maxRecDepth 100000 in
theorem cloneZ_empty (ad : Addr) (c : Nat) (w : World) :
    Calls Tryd.prog 53 #[.slice (some ad) 0 c] w fun e w' => ∃ v, e = .returned v ∧ w'.ownsRow w.heap.size 53 9 v 0 [] ∧ Below w.heap.size w w' := by
  obtain ⟨i0, hi0, hz0, hz1, hz2⟩ := pre_info9
  have q68 : ∀ (w : World) (a : Option Addr) (n c n' c' : Nat), (binOp .eql 25 (.slice a n c) (.slice none n' c')).run Tryd.prog w = .ok (.bool a.isNone) w := fun w a n c n' c' => Lib.run_eql_slice_nil w _ _ a n c n' c' Tryd.underlying25
  go_enter Tryd.func53, Tryd.ntmps53
  have B := Below.alloc (Below.refl w.heap.size w) (Nat.le_refl _) (.cells #[] 53)
  have B := Lib.hid B
  go_wp2_with fail
  go_returns
  exact ⟨_, rfl, World.ownsRow_made w #[] 0 (Nat.le_refl _) (by decide) (by simp), B.out⟩
theorem cloneZ_walk (A : Option Addr) (c : Nat) (l : List Pz) (w : World) (hr : RdZ w A l) (hn : l.length ≤ 1099511627776) :
    Calls Tryd.prog 53 #[.slice A l.length c] w fun e w' => ∃ v, e = .returned v ∧ w'.ownsRow w.heap.size 53 9 v l.length (zcs l) ∧ Below w.heap.size w w' := by
  cases l with
  | nil =>
    cases A with
    | none =>
      refine (c_clone_nil 0 c w).mono ?_
      rintro e w' ⟨rfl, rfl⟩
      exact ⟨_, rfl, ⟨by simp [zcs], .inl ⟨rfl, rfl⟩⟩, Below.refl _ _⟩
    | some ad => exact cloneZ_empty ad c w
  | cons y l =>
    obtain ⟨b, off, rfl, hb, _⟩ := hr 0 y rfl
    refine (c_clone b off c (y :: l) w hn (rdz_flat hr)).mono ?_
    rintro e w' ⟨v, rfl, ho, _, hb⟩
    exact ⟨v, rfl, ho, hb⟩
end Go.Proofs.YtcgdjnmfeibnoaaDoor
/-! SixRefJoinB -/
namespace Go.Proofs.YtcgdjnmfeibnoaaDoor
open Go.RowKit Go.Lib Go.Proofs.YtcgdjnmfeibnoaaDoorW.PrintWords
set_option linter.unusedVariables false
set_option linter.unusedSimpArgs false
theorem badZ_at {l : List Pz} {k : Nat} {x : Pz} (h : ∀ j y, j < k → l[j]? = some y → isZ y = true) (hk : l[k]? = some x) (hx : isZ x = false) : badZ l = k := by
  obtain ⟨hlt, e⟩ := List.getElem?_eq_some_iff.1 hk
  have := Lib.idxBy_hit (fun _ y => !isZ y) l l.length k default hlt (Nat.le_refl _) (by rw [getElem!_pos l k hlt, e, hx]; rfl) (fun j hj => by
    rw [getElem!_pos l j (by omega), h j _ hj (List.getElem?_eq_getElem (by omega))]
    rfl)
  rwa [List.take_length] at this
theorem badZ_all {l : List Pz} (h : ∀ j y, j < l.length → l[j]? = some y → isZ y = true) : badZ l = -1 := by
  have := Lib.idxBy_miss (fun _ y => !isZ y) l l.length default (fun j hj => by
    rw [getElem!_pos l j hj, h j _ hj (List.getElem?_eq_getElem hj)]
    rfl)
  rwa [List.take_length] at this
def AllRel (w : World) (l : List Pz) (i : Value) (W : World) : Prop := ∃ k : Nat, k ≤ l.length ∧ i = .int .i64 k ∧ (∀ j y, j < k → l[j]? = some y → isZ y = true) ∧ Below w.heap.size w W
theorem step_all {l : List Pz} {k : Nat} {x : Pz} (h : ∀ j y, j < k → l[j]? = some y → isZ y = true) (hk : l[k]? = some x) (hx : isZ x = true) : ∀ j y, j < k + 1 → l[j]? = some y → isZ y = true := by
  intro j y hj hy
  by_cases e : j = k
  · subst e
    rw [hk] at hy
    obtain rfl := Option.some.inj hy
    exact hx
  · exact h j y (by omega) hy
set_option maxHeartbeats 4000000 in
set_option maxRecDepth 100000 in
theorem refJoinZ_bad (A : Option Addr) (c : Nat) (l : List Pz) (w : World) (hr : RdZ w A l) (hn : l.length ≤ 1048576) (hb : 0 ≤ badZ l) :
    Calls Tryd.prog 20 #[.slice A l.length c] w fun e w' => ∃ v, e = .returned (.tuple #[v, .int .i64 (badZ l), .int .i64 211]) ∧ w'.ownsRow w.heap.size 61 9 v 0 (zcs []) ∧ Below w.heap.size w w' := by
  have HR := Lib.hid hr
  have HBD := Lib.hid hb
  clear hr hb
  go_enter Tryd.func20, Tryd.ntmps20
  go_wp2_with fail
  go_loopw [5] (fun i W => AllRel w l i W) (fun i _ => l.length - (intOf i).toNat)
  case atStart => exact ⟨0, Nat.zero_le _, rfl, fun j y h => absurd h (Nat.not_lt_zero _), Below.refl _ _⟩
  case round =>
    obtain ⟨k, hk, rfl, hall, hb⟩ := hrel
    have HALL := Lib.hid hall
    have HB := Lib.hid hb
    clear hall hb
    by_cases hlt : k < l.length
    · obtain ⟨x, hx⟩ : ∃ x, l[k]? = some x := ⟨l[k], List.getElem?_eq_getElem hlt⟩
      obtain ⟨g, o, rfl, hg, hc⟩ := (HR.out.keep HB.out) k x hx
      have c0 := (hc 0 (by decide)).trans (show (zc x)[0]? = some (.int .u16 (pc 0 x.a)) from rfl)
      have c1 := (hc 1 (by decide)).trans (show (zc x)[1]? = some (.int .u16 (pc 1 x.a)) from rfl)
      have c2 := (hc 2 (by decide)).trans (show (zc x)[2]? = some (.int .u16 (pc 2 x.a)) from rfl)
      have c3 := (hc 3 (by decide)).trans (show (zc x)[3]? = some (.int .u16 (pc 3 x.a)) from rfl)
      have c4 := (hc 4 (by decide)).trans (show (zc x)[4]? = some (.int .u16 (pc 4 x.a)) from rfl)
      have c5 := (hc 5 (by decide)).trans (show (zc x)[5]? = some (.int .u16 (pc 5 x.a)) from rfl)
      have c6 := (hc 6 (by decide)).trans (show (zc x)[6]? = some (.int .u16 (pc 6 x.a)) from rfl)
      have c7 := (hc 7 (by decide)).trans (show (zc x)[7]? = some (.int .u16 (pc 7 x.a)) from rfl)
      have c8 := (hc 8 (by decide)).trans (show (zc x)[8]? = some (.int .i64 x.n) from rfl)
      simp only [Nat.add_zero, ← Nat.add_assoc] at c0 c1 c2 c3 c4 c5 c6 c7 c8
      clear hc
      have HX := Lib.hid hx
      clear hx
      have hIs := fun w => refIsPrefix_walk _ _ _ _ _ _ _ _ (pc_r8 x.a) x.n w
      rw [show isPre (V8 (pc 0 x.a) (pc 1 x.a) (pc 2 x.a) (pc 3 x.a) (pc 4 x.a) (pc 5 x.a) (pc 6 x.a) (pc 7 x.a)) x.n = isZ x from rfl] at hIs
      have HIs := Lib.hid hIs
      clear hIs
      go_wp2_with fail
      refine (HIs.out _).mono ?_
      rintro e w1 ⟨rfl, hb1⟩
      have HB1 := Lib.hid (below_step HB.out hb1)
      clear hb1 c0 c1 c2 c3 c4 c5 c6 c7 c8 hg
      cases hz : isZ x with
      | true =>
        have HZ := Lib.hid hz
        clear hz
        go_wp2_with fail
        exact ⟨⟨k + 1, by omega, by simp, step_all HALL.out HX.out HZ.out, HB1.out⟩, by simp [intOf]; omega⟩
      | false =>
        have HZ := Lib.hid hz
        clear hz
        go_wp2_with fail
        go_returns
        rw [badZ_at HALL.out HX.out HZ.out]
        exact ⟨_, rfl, World.ownsRow.mono (own_none _ _) HB1.out.size, HB1.out.alloc HB1.out.size _⟩
    · obtain rfl : k = l.length := by omega
      have h1 := badZ_all HALL.out
      have h2 := HBD.out
      omega
end Go.Proofs.YtcgdjnmfeibnoaaDoor
/-! AppZ -/
namespace Go.Proofs.YtcgdjnmfeibnoaaDoor
open Go.RowKit
set_option linter.unusedVariables false
set_option linter.unusedSimpArgs false
theorem zcs_one (l : List Pz) : ∀ q ∈ zcs l, q.oneCell' = true := by
  intro q hq
  obtain ⟨x, _, hx⟩ := List.mem_flatMap.1 hq
  exact zc_one x q hx
theorem rdz_news {W : World} {ad : Addr} {l : List Pz} (h : RdZ W (some ad) l) : ∀ j u, (zcs l)[j]? = some u → W.cell? (ad.add j) = some u := by
  intro j u hu
  have hj : j < l.length * 9 := by
    rw [← zcs_len]
    exact (List.getElem?_eq_some_iff.1 hu).1
  have hk : j / 9 < l.length := by omega
  obtain ⟨g, o, hA, hg, hc⟩ := h (j / 9) l[j / 9] (List.getElem?_eq_getElem hk)
  obtain rfl := Option.some.inj hA
  have := hc (j % 9) (by omega)
  rw [← zcs_get l (j / 9) _ (List.getElem?_eq_getElem hk) _ (by omega), show j / 9 * 9 + j % 9 = j by omega, hu] at this
  rw [Addr.add_lit]
  exact this
theorem RdZ.take {W : World} {A : Option Addr} {l : List Pz} (h : RdZ W A l) (k : Nat) : RdZ W A (l.take k) := by
  intro j x hj
  refine h j x ?_
  rw [List.getElem?_take] at hj
  split at hj
  · exact hj
  · cases hj
theorem RdZ.drop {W : World} {A : Option Addr} {l : List Pz} {c : Nat} (h : RdZ W A l) (hc : l.length ≤ c) (k : Nat) : RdZ W (if c = k then A else A.map (·.add (k * 9))) (l.drop k) := by
  intro j x hj
  rw [List.getElem?_drop] at hj
  have hlt := (List.getElem?_eq_some_iff.1 hj).1
  obtain ⟨g, o, hA, hg, hcell⟩ := h (k + j) x hj
  subst hA
  rw [if_neg (by omega)]
  refine ⟨g, o + k * 9, ?_, hg, fun r hr => ?_⟩
  · rw [Option.map_some, Addr.add_lit]
  · rw [show o + k * 9 + (j * 9 + r) = o + ((k + j) * 9 + r) by omega]
    exact hcell r hr
theorem rdz_own2 {W : World} {base n : Nat} {e : TypeId} {v : Value} {l : List Pz} (h : W.ownsRow base e 9 v n (zcs l)) (hn : n = l.length) : ∃ A c, v = .slice A l.length c ∧ l.length ≤ c ∧ RdZ W A l ∧ (A = none → c = 0) := by
  obtain ⟨A, c, rfl, hc, hR⟩ := rdz_own h hn
  refine ⟨A, c, rfl, hc, hR, fun hA => ?_⟩
  subst hA
  rcases h.2 with ⟨e0, _⟩ | ⟨g, cap, cur, e0, _⟩
  · injection e0
  · injection e0 with e1
    cases e1
theorem none_cut {A : Option Addr} {c k s : Nat} (h : A = none → c = 0) : (if c = k then A else A.map (·.add (k * s))) = none → c - k = 0 := by
  intro hn
  have : A = none := by
    split at hn
    · exact hn
    · simpa using hn
  rw [h this]
  omega
/-- An append of prefixes that stand at an address, as one step of a region that draws its order. -/
theorem step_app_rdz {P : Program} {w : World} {ops : Array Oper} {o : Oper} {a : Act} {K : Act → World → Prop} {Q : Exit → Act → World → Prop} {E : Prop} (hgd : o.guard = none) (s x : Operand) (t : TypeId)
    (ho : o.op = .call { callee := .builtin .append, args := #[s, x], argTypes := #[t, t] })
    (base : Nat) (e : TypeId) (i : TypeInfo) (z : Value) (bytes : Nat) (ht : P.underlying t = some (.slice e)) (hi : P.info? e = some i) (hz : i.zero = some z)
    (hsize : i.size = 9) (hby : i.bytes = bytes) (hzs : z.cells.size = 9)
    (v : Value) (n : Nat) (xs : List Value) (hs : a.eval s = v) (hown : w.ownsRow base e 9 v n xs)
    (A : Option Addr) (m c : Nat) (l : List Pz) (hx : a.eval x = .slice A m c) (hm : l.length = m) (hr : RdZ w A l) (hA : A = none → c = 0)
    (h63 : n + m ≤ maxLen) (hbytes : (n + m) * bytes ≤ 140737488355328) (hbase : base ≤ w.heap.size)
    (h : ∀ v' w', w'.ownsRow base e 9 v' (n + m) (xs ++ zcs l) → (∀ B w0, B ≤ base → Below B w0 w → Below B w0 w') → w.grownBy w' v.ownBlock → K (a.put o.dst v') w') :
    if Region.wanted o (yielded ops a.tmps) = true then Oper.wp P o a w K Q else E := by
  have hw : Region.wanted o (yielded ops a.tmps) = true := by simp [Region.wanted, hgd]
  rw [if_pos hw]
  cases A with
  | none =>
    obtain rfl : l = [] := by
      cases l with
      | nil => rfl
      | cons y l =>
        obtain ⟨g, o, hA, _⟩ := hr 0 y rfl
        cases hA
    subst hm
    obtain rfl := hA rfl
    have hrun := run_append_owned_none (P := P) (w := w) base t o.type e i 9 ht hi v n xs hown
    unfold Oper.wp
    simp [execOp, ho, resolve, invoke, builtin, hs, hx, hrun, Result.andThen]
    exact h v w (by simpa [zcs] using hown) (fun _ _ _ hb => hb) (World.grownBy.refl w _)
  | some ad =>
    refine wp_append_own w s x t ho base e i z 9 bytes ht hi hz hsize hby hzs (by decide) v n xs hs hown ad m c (zcs l) hx (by rw [zcs_len, hm]) (rdz_news hr) (zcs_one l) h63 hbytes hbase ?_
    intro v' w' hown' hgrow _
    exact h v' w' hown' (fun B w0 hb hw => hw.grown hgrow (by omega) (fun k hk => Nat.le_trans hb (hown.lt k hk).1)) hgrow
end Go.Proofs.YtcgdjnmfeibnoaaDoor
/-! SixHas -/
namespace Go.Proofs.YtcgdjnmfeibnoaaDoor
open Go.RowKit Go.Lib Go.Proofs.YtcgdjnmfeibnoaaDoorW.PrintWords
set_option linter.unusedVariables false
set_option linter.unusedSimpArgs false
theorem hasV_at {l : List Pz} {a : Int} {k : Nat} {x : Pz} (hl : ∀ j y, j < k → l[j]? = some y → inZ a y = false) (hk : l[k]? = some x) (hx : inZ a x = true) : hasV l a = ((k : Int), true) := by
  unfold hasV
  obtain ⟨hlt, e⟩ := List.getElem?_eq_some_iff.1 hk
  have : l.findIdx? (inZ a) = some k := by
    rw [List.findIdx?_eq_some_iff_getElem]
    refine ⟨hlt, by rw [e]; exact hx, fun j hj => ?_⟩
    have := hl j _ hj (List.getElem?_eq_getElem (by omega))
    simpa using this
  rw [this]
theorem hasV_no {l : List Pz} {a : Int} (hl : ∀ j y, j < l.length → l[j]? = some y → inZ a y = false) : hasV l a = (0, false) := by
  unfold hasV
  have : l.findIdx? (inZ a) = none := by
    rw [List.findIdx?_eq_none_iff]
    intro y hy
    obtain ⟨j, hj⟩ := List.getElem?_of_mem hy
    exact hl j y (List.getElem?_eq_some_iff.1 hj).1 hj
  rw [this]
theorem step_no {l : List Pz} {a : Int} {k : Nat} {x : Pz} (h : ∀ j y, j < k → l[j]? = some y → inZ a y = false) (hk : l[k]? = some x) (hx : inZ a x = false) : ∀ j y, j < k + 1 → l[j]? = some y → inZ a y = false := by
  intro j y hj hy
  by_cases e : j = k
  · subst e
    rw [hk] at hy
    obtain rfl := Option.some.inj hy
    exact hx
  · exact h j y (by omega) hy
theorem eq8_all {x0 x1 x2 x3 x4 x5 x6 x7 y0 y1 y2 y3 y4 y5 y6 y7 : Int} (h : (x0 == y0) = true ∧ (x1 == y1) = true ∧ (x2 == y2) = true ∧ (x3 == y3) = true ∧ (x4 == y4) = true ∧ (x5 == y5) = true ∧ (x6 == y6) = true ∧ (x7 == y7) = true) : V8 x0 x1 x2 x3 x4 x5 x6 x7 = V8 y0 y1 y2 y3 y4 y5 y6 y7 := by
  simp only [beq_iff_eq] at h
  obtain ⟨rfl, rfl, rfl, rfl, rfl, rfl, rfl, rfl⟩ := h
  rfl
theorem eq8_none {x0 x1 x2 x3 x4 x5 x6 x7 y0 y1 y2 y3 y4 y5 y6 y7 : Int} (hx : R8 x0 x1 x2 x3 x4 x5 x6 x7) (hy : R8 y0 y1 y2 y3 y4 y5 y6 y7) (h : (x0 == y0) = false ∨ (x1 == y1) = false ∨ (x2 == y2) = false ∨ (x3 == y3) = false ∨ (x4 == y4) = false ∨ (x5 == y5) = false ∨ (x6 == y6) = false ∨ (x7 == y7) = false) : V8 x0 x1 x2 x3 x4 x5 x6 x7 ≠ V8 y0 y1 y2 y3 y4 y5 y6 y7 := by
  intro e
  have := eq8_dec hx hy
  rw [decide_eq_true e] at this
  simp only [Bool.and_eq_true] at this
  obtain ⟨h0, h1, h2, h3, h4, h5, h6, h7⟩ := this
  simp [h0, h1, h2, h3, h4, h5, h6, h7] at h
theorem inZ_true {a : Int} {x : Pz} {v : Int} (hz : isZ x = true) (hv : v = maskV a x.n) (h : v = x.v) : inZ a x = true := by
  unfold inZ
  rw [hz, ← hv, h]
  simp
theorem inZ_false {a : Int} {x : Pz} {v : Int} (hv : v = maskV a x.n) (h : v ≠ x.v) : inZ a x = false := by
  unfold inZ
  rw [← hv, decide_eq_false h, Bool.and_false]
theorem inZ_not {a : Int} {x : Pz} (hz : isZ x = false) : inZ a x = false := by
  unfold inZ
  rw [hz, Bool.false_and]
def HasRel (w : World) (l : List Pz) (a : Int) (i : Value) (W : World) : Prop := ∃ k : Nat, k ≤ l.length ∧ i = .int .i64 k ∧ (∀ j y, j < k → l[j]? = some y → inZ a y = false) ∧ Below w.heap.size w W
set_option maxHeartbeats 4000000 in
set_option maxRecDepth 100000 in
theorem has_walk (A : Option Addr) (c : Nat) (l : List Pz) (a0 a1 a2 a3 a4 a5 a6 a7 : Int) (ha : R8 a0 a1 a2 a3 a4 a5 a6 a7) (w : World) (hr : RdZ w A l) (hn : l.length ≤ 9223372036854775807) :
    Calls Tryd.prog 21 #[.slice A l.length c, A8 a0 a1 a2 a3 a4 a5 a6 a7] w fun e w' => e = .returned (.tuple #[.int .i64 (hasV l (V8 a0 a1 a2 a3 a4 a5 a6 a7)).1, .bool (hasV l (V8 a0 a1 a2 a3 a4 a5 a6 a7)).2]) ∧ Below w.heap.size w w' := by
  have hk : (w.alloc (.cells #[.int .u16 a0, .int .u16 a1, .int .u16 a2, .int .u16 a3, .int .u16 a4, .int .u16 a5, .int .u16 a6, .int .u16 a7] 24)).heap[w.heap.size]? = some (.cells #[.int .u16 a0, .int .u16 a1, .int .u16 a2, .int .u16 a3, .int .u16 a4, .int .u16 a5, .int .u16 a6, .int .u16 a7] 24 (0, 0)) := blk_new _ _
  have B0 : Below w.heap.size w (w.alloc (.cells #[.int .u16 a0, .int .u16 a1, .int .u16 a2, .int .u16 a3, .int .u16 a4, .int .u16 a5, .int .u16 a6, .int .u16 a7] 24)) := (Below.refl _ _).alloc (Nat.le_refl _) _
  have HR := Lib.hid (hr.keep B0)
  have HA := Lib.hid ha
  have hV : V8 a0 a1 a2 a3 a4 a5 a6 a7 = V8 a0 a1 a2 a3 a4 a5 a6 a7 := rfl
  clear hr ha hV
  go_enter Tryd.func21, Tryd.ntmps21
  go_upto_region 1 with fail
  generalize w.alloc (.cells #[.int .u16 a0, .int .u16 a1, .int .u16 a2, .int .u16 a3, .int .u16 a4, .int .u16 a5, .int .u16 a6, .int .u16 a7] 24) = W0 at *
  have HK := Lib.hid hk
  have HB := Lib.hid B0
  clear hk B0
  go_wp2_with fail
  go_loopw [12] (fun i W => HasRel W0 l (V8 a0 a1 a2 a3 a4 a5 a6 a7) i W) (fun i _ => l.length - (intOf i).toNat)
  case atStart => exact ⟨0, Nat.zero_le _, rfl, fun j y h => absurd h (Nat.not_lt_zero _), Below.refl _ _⟩
  case round =>
    obtain ⟨k, hk, rfl, hno, hb⟩ := hrel
    have HNO := Lib.hid hno
    have HBW := Lib.hid hb
    clear hno hb
    by_cases hlt : k < l.length
    · obtain ⟨x, hx⟩ : ∃ x, l[k]? = some x := ⟨l[k], List.getElem?_eq_getElem hlt⟩
      obtain ⟨g, o, rfl, hg, hc⟩ := (HR.out.keep HBW.out) k x hx
      have c0 := (hc 0 (by decide)).trans (show (zc x)[0]? = some (.int .u16 (pc 0 x.a)) from rfl)
      have c1 := (hc 1 (by decide)).trans (show (zc x)[1]? = some (.int .u16 (pc 1 x.a)) from rfl)
      have c2 := (hc 2 (by decide)).trans (show (zc x)[2]? = some (.int .u16 (pc 2 x.a)) from rfl)
      have c3 := (hc 3 (by decide)).trans (show (zc x)[3]? = some (.int .u16 (pc 3 x.a)) from rfl)
      have c4 := (hc 4 (by decide)).trans (show (zc x)[4]? = some (.int .u16 (pc 4 x.a)) from rfl)
      have c5 := (hc 5 (by decide)).trans (show (zc x)[5]? = some (.int .u16 (pc 5 x.a)) from rfl)
      have c6 := (hc 6 (by decide)).trans (show (zc x)[6]? = some (.int .u16 (pc 6 x.a)) from rfl)
      have c7 := (hc 7 (by decide)).trans (show (zc x)[7]? = some (.int .u16 (pc 7 x.a)) from rfl)
      have c8 := (hc 8 (by decide)).trans (show (zc x)[8]? = some (.int .i64 x.n) from rfl)
      simp only [Nat.add_zero, ← Nat.add_assoc] at c0 c1 c2 c3 c4 c5 c6 c7 c8
      clear hc
      have HX := Lib.hid hx
      clear hx
      have hkW := blk_below HK.out HBW.out
      have a0' := (blk_cell hkW 0).trans (show _ = some (Value.int .u16 a0) from rfl)
      have a1' := (blk_cell hkW 1).trans (show _ = some (Value.int .u16 a1) from rfl)
      have a2' := (blk_cell hkW 2).trans (show _ = some (Value.int .u16 a2) from rfl)
      have a3' := (blk_cell hkW 3).trans (show _ = some (Value.int .u16 a3) from rfl)
      have a4' := (blk_cell hkW 4).trans (show _ = some (Value.int .u16 a4) from rfl)
      have a5' := (blk_cell hkW 5).trans (show _ = some (Value.int .u16 a5) from rfl)
      have a6' := (blk_cell hkW 6).trans (show _ = some (Value.int .u16 a6) from rfl)
      have a7' := (blk_cell hkW 7).trans (show _ = some (Value.int .u16 a7) from rfl)
      have hl := blk_lt hkW
      clear hkW
      go_wp2_with fail
      have hx0 : (wr.alloc (.cells #[.int .u16 (pc 0 x.a), .int .u16 (pc 1 x.a), .int .u16 (pc 2 x.a), .int .u16 (pc 3 x.a), .int .u16 (pc 4 x.a), .int .u16 (pc 5 x.a), .int .u16 (pc 6 x.a), .int .u16 (pc 7 x.a), .int .i64 x.n] 53)).heap[wr.heap.size]? = some (.cells #[.int .u16 (pc 0 x.a), .int .u16 (pc 1 x.a), .int .u16 (pc 2 x.a), .int .u16 (pc 3 x.a), .int .u16 (pc 4 x.a), .int .u16 (pc 5 x.a), .int .u16 (pc 6 x.a), .int .u16 (pc 7 x.a), .int .i64 x.n] 53) := blk_new _ _
      have B2 : Below W0.heap.size W0 (wr.alloc (.cells #[.int .u16 (pc 0 x.a), .int .u16 (pc 1 x.a), .int .u16 (pc 2 x.a), .int .u16 (pc 3 x.a), .int .u16 (pc 4 x.a), .int .u16 (pc 5 x.a), .int .u16 (pc 6 x.a), .int .u16 (pc 7 x.a), .int .i64 x.n] 53)) := HBW.out.alloc HBW.out.size _
      refine (mask_all _ _ _ _ _ _ _ _ HA.out x.n _).mono ?_
      rintro e w1 ⟨y0, y1, y2, y3, y4, y5, y6, y7, rfl, hy, hv, hb1⟩
      have B3 := below_step B2 hb1
      have hkx := blk_below hx0 hb1
      clear hb1 hx0 B2 hl c0 c1 c2 c3 c4 c5 c6 c7 c8 a0' a1' a2' a3' a4' a5' a6' a7'
      have d0 := (blk_cell hkx 0).trans (show _ = some (Value.int .u16 (pc 0 x.a)) from rfl)
      have d1 := (blk_cell hkx 1).trans (show _ = some (Value.int .u16 (pc 1 x.a)) from rfl)
      have d2 := (blk_cell hkx 2).trans (show _ = some (Value.int .u16 (pc 2 x.a)) from rfl)
      have d3 := (blk_cell hkx 3).trans (show _ = some (Value.int .u16 (pc 3 x.a)) from rfl)
      have d4 := (blk_cell hkx 4).trans (show _ = some (Value.int .u16 (pc 4 x.a)) from rfl)
      have d5 := (blk_cell hkx 5).trans (show _ = some (Value.int .u16 (pc 5 x.a)) from rfl)
      have d6 := (blk_cell hkx 6).trans (show _ = some (Value.int .u16 (pc 6 x.a)) from rfl)
      have d7 := (blk_cell hkx 7).trans (show _ = some (Value.int .u16 (pc 7 x.a)) from rfl)
      have d8 := (blk_cell hkx 8).trans (show _ = some (Value.int .i64 x.n) from rfl)
      have hl := blk_lt hkx
      have HY := Lib.hid (And.intro hy hv)
      have HB3 := Lib.hid B3
      have HKX := Lib.hid hkx
      clear hy hv B3 hkx
      go_wp2_with fail
      have hIs := is_walk _ _ _ _ _ _ _ _ (pc_r8 x.a) x.n (w1.alloc (.cells #[.int .u16 y0, .int .u16 y1, .int .u16 y2, .int .u16 y3, .int .u16 y4, .int .u16 y5, .int .u16 y6, .int .u16 y7] 24))
      rw [show isPre (V8 (pc 0 x.a) (pc 1 x.a) (pc 2 x.a) (pc 3 x.a) (pc 4 x.a) (pc 5 x.a) (pc 6 x.a) (pc 7 x.a)) x.n = isZ x from rfl] at hIs
      have hky : (w1.alloc (.cells #[.int .u16 y0, .int .u16 y1, .int .u16 y2, .int .u16 y3, .int .u16 y4, .int .u16 y5, .int .u16 y6, .int .u16 y7] 24)).heap[w1.heap.size]? = some (.cells #[.int .u16 y0, .int .u16 y1, .int .u16 y2, .int .u16 y3, .int .u16 y4, .int .u16 y5, .int .u16 y6, .int .u16 y7] 24) := blk_new _ _
      have hkx := blk_alloc HKX.out (.cells #[.int .u16 y0, .int .u16 y1, .int .u16 y2, .int .u16 y3, .int .u16 y4, .int .u16 y5, .int .u16 y6, .int .u16 y7] 24)
      have B4 := HB3.out.alloc HB3.out.size (.cells #[.int .u16 y0, .int .u16 y1, .int .u16 y2, .int .u16 y3, .int .u16 y4, .int .u16 y5, .int .u16 y6, .int .u16 y7] 24)
      refine hIs.mono ?_
      rintro e w2 ⟨rfl, hb2⟩
      replace hky := blk_below hky hb2
      replace hkx := blk_below hkx hb2
      replace B4 := below_step B4 hb2
      clear hb2 hIs d0 d1 d2 d3 d4 d5 d6 d7 d8 hl
      have HB4 := Lib.hid B4
      clear B4
      cases hz : isZ x with
      | true =>
        have HZ := Lib.hid hz
        clear hz
        have e0 := (blk_cell hkx 0).trans (show _ = some (Value.int .u16 (pc 0 x.a)) from rfl)
        have e1 := (blk_cell hkx 1).trans (show _ = some (Value.int .u16 (pc 1 x.a)) from rfl)
        have e2 := (blk_cell hkx 2).trans (show _ = some (Value.int .u16 (pc 2 x.a)) from rfl)
        have e3 := (blk_cell hkx 3).trans (show _ = some (Value.int .u16 (pc 3 x.a)) from rfl)
        have e4 := (blk_cell hkx 4).trans (show _ = some (Value.int .u16 (pc 4 x.a)) from rfl)
        have e5 := (blk_cell hkx 5).trans (show _ = some (Value.int .u16 (pc 5 x.a)) from rfl)
        have e6 := (blk_cell hkx 6).trans (show _ = some (Value.int .u16 (pc 6 x.a)) from rfl)
        have e7 := (blk_cell hkx 7).trans (show _ = some (Value.int .u16 (pc 7 x.a)) from rfl)
        have f0 := (blk_cell hky 0).trans (show _ = some (Value.int .u16 y0) from rfl)
        have f1 := (blk_cell hky 1).trans (show _ = some (Value.int .u16 y1) from rfl)
        have f2 := (blk_cell hky 2).trans (show _ = some (Value.int .u16 y2) from rfl)
        have f3 := (blk_cell hky 3).trans (show _ = some (Value.int .u16 y3) from rfl)
        have f4 := (blk_cell hky 4).trans (show _ = some (Value.int .u16 y4) from rfl)
        have f5 := (blk_cell hky 5).trans (show _ = some (Value.int .u16 y5) from rfl)
        have f6 := (blk_cell hky 6).trans (show _ = some (Value.int .u16 y6) from rfl)
        have f7 := (blk_cell hky 7).trans (show _ = some (Value.int .u16 y7) from rfl)
        have hl := blk_lt hkx
        have hl2 := blk_lt hky
        clear hkx hky
        go_wp2_with fail
        · rename_i hq
          have ht := inZ_true HZ.out HY.out.2 (eq8_all hq)
          go_returns
          rw [hasV_at HNO.out HX.out ht]
          exact ⟨rfl, below_step HB.out HB4.out⟩
        · rename_i hq
          have hf := inZ_false HY.out.2 (eq8_none HY.out.1 (pc_r8 x.a) hq)
          exact ⟨⟨k + 1, by omega, by simp, step_no HNO.out HX.out hf, HB4.out⟩, by simp [intOf]; omega⟩
      | false =>
        have HZ := Lib.hid hz
        clear hz hkx hky
        go_wp2_with fail
        exact ⟨⟨k + 1, by omega, by simp, step_no HNO.out HX.out (inZ_not HZ.out), HB4.out⟩, by simp [intOf]; omega⟩
    · obtain rfl : k = l.length := by omega
      go_wp2_with fail
      go_returns
      rw [hasV_no HNO.out]
      exact ⟨rfl, below_step HB.out HBW.out⟩
end Go.Proofs.YtcgdjnmfeibnoaaDoor
/-! SixWide -/
namespace Go.Proofs.YtcgdjnmfeibnoaaDoor
open Go.RowKit
set_option linter.unusedVariables false
set_option linter.unusedSimpArgs false
/-- The number of four pieces. -/
def Q4 (x0 x1 x2 x3 : Int) : Int := ((x0 * 65536 + x1) * 65536 + x2) * 65536 + x3
abbrev W2 (h l : Int) : Value := .agg #[.int .u64 h, .int .u64 l]
/-- A word of 64 bits. -/
def Word (x : Int) : Prop := 0 ≤ x ∧ x < 18446744073709551616
/-- The number of two words. -/
def N2 (h l : Int) : Int := h * 18446744073709551616 + l
@[go_sem] theorem at8_0 (x0 x1 x2 x3 x4 x5 x6 x7 : Int) (w : World) : (Instr.index 24 (A8 x0 x1 x2 x3 x4 x5 x6 x7) (.int .i64 0)).run Tryd.prog w = .ok (.int .u16 x0) w := by
  change _ = _
  kernel_rfl
@[go_sem] theorem at8_1 (x0 x1 x2 x3 x4 x5 x6 x7 : Int) (w : World) : (Instr.index 24 (A8 x0 x1 x2 x3 x4 x5 x6 x7) (.int .i64 1)).run Tryd.prog w = .ok (.int .u16 x1) w := by
  change _ = _
  kernel_rfl
@[go_sem] theorem at8_2 (x0 x1 x2 x3 x4 x5 x6 x7 : Int) (w : World) : (Instr.index 24 (A8 x0 x1 x2 x3 x4 x5 x6 x7) (.int .i64 2)).run Tryd.prog w = .ok (.int .u16 x2) w := by
  change _ = _
  kernel_rfl
@[go_sem] theorem at8_3 (x0 x1 x2 x3 x4 x5 x6 x7 : Int) (w : World) : (Instr.index 24 (A8 x0 x1 x2 x3 x4 x5 x6 x7) (.int .i64 3)).run Tryd.prog w = .ok (.int .u16 x3) w := by
  change _ = _
  kernel_rfl
@[go_sem] theorem at8_4 (x0 x1 x2 x3 x4 x5 x6 x7 : Int) (w : World) : (Instr.index 24 (A8 x0 x1 x2 x3 x4 x5 x6 x7) (.int .i64 4)).run Tryd.prog w = .ok (.int .u16 x4) w := by
  change _ = _
  kernel_rfl
@[go_sem] theorem at8_5 (x0 x1 x2 x3 x4 x5 x6 x7 : Int) (w : World) : (Instr.index 24 (A8 x0 x1 x2 x3 x4 x5 x6 x7) (.int .i64 5)).run Tryd.prog w = .ok (.int .u16 x5) w := by
  change _ = _
  kernel_rfl
@[go_sem] theorem at8_6 (x0 x1 x2 x3 x4 x5 x6 x7 : Int) (w : World) : (Instr.index 24 (A8 x0 x1 x2 x3 x4 x5 x6 x7) (.int .i64 6)).run Tryd.prog w = .ok (.int .u16 x6) w := by
  change _ = _
  kernel_rfl
@[go_sem] theorem at8_7 (x0 x1 x2 x3 x4 x5 x6 x7 : Int) (w : World) : (Instr.index 24 (A8 x0 x1 x2 x3 x4 x5 x6 x7) (.int .i64 7)).run Tryd.prog w = .ok (.int .u16 x7) w := by
  change _ = _
  kernel_rfl
theorem nat_or_add (k x y : Nat) (hx : x % 2 ^ k = 0) (hy : y < 2 ^ k) : x ||| y = x + y := nat_join k x y hx hy
theorem or16_64 (h x : Int) (h0 : 0 ≤ h) (h1 : h < 281474976710656) (x0 : 0 ≤ x) (x1 : x ≤ 65535) : bits .or .u64 (IntKind.u64.wrap (h * 65536)) (IntKind.u64.wrap x) = h * 65536 + x := by
  rw [IntKind.wrap_u64, IntKind.wrap_u64, show h * 65536 % 18446744073709551616 = h * 65536 from by omega, show x % 18446744073709551616 = x from by omega, u64_or _ _ (by omega) (by omega) (by omega) (by omega)]
  obtain ⟨a, rfl⟩ := Int.eq_ofNat_of_zero_le h0
  obtain ⟨b, rfl⟩ := Int.eq_ofNat_of_zero_le x0
  rw [show ((a : Int) * 65536).toNat = a * 65536 from by omega, Int.toNat_natCast, nat_join16 _ _ (by omega) (by omega)]
  omega
theorem or0_64 (x : Int) (x0 : 0 ≤ x) (x1 : x ≤ 65535) : bits .or .u64 0 (IntKind.u64.wrap x) = x := by
  have := or16_64 0 x (by omega) (by omega) x0 x1
  simpa [IntKind.wrap_u64] using this
theorem or_q4 (x0 x1 x2 x3 : Int) (h0 : 0 ≤ x0 ∧ x0 ≤ 65535) (h1 : 0 ≤ x1 ∧ x1 ≤ 65535) (h2 : 0 ≤ x2 ∧ x2 ≤ 65535) (h3 : 0 ≤ x3 ∧ x3 ≤ 65535) :
    bits .or .u64 (IntKind.u64.wrap (bits .or .u64 (IntKind.u64.wrap (bits .or .u64 (IntKind.u64.wrap (bits .or .u64 0 (IntKind.u64.wrap x0) * 65536)) (IntKind.u64.wrap x1) * 65536)) (IntKind.u64.wrap x2) * 65536)) (IntKind.u64.wrap x3) = Q4 x0 x1 x2 x3 := by
  rw [or0_64 x0 h0.1 h0.2, or16_64 _ _ (by omega) (by omega) h1.1 h1.2, or16_64 _ _ (by omega) (by omega) h2.1 h2.2, or16_64 _ _ (by omega) (by omega) h3.1 h3.2]
  rfl
theorem q4_word {x0 x1 x2 x3 : Int} (h0 : 0 ≤ x0 ∧ x0 ≤ 65535) (h1 : 0 ≤ x1 ∧ x1 ≤ 65535) (h2 : 0 ≤ x2 ∧ x2 ≤ 65535) (h3 : 0 ≤ x3 ∧ x3 ≤ 65535) : Word (Q4 x0 x1 x2 x3) := by unfold Word Q4; omega
theorem n2_v8 (x0 x1 x2 x3 x4 x5 x6 x7 : Int) : N2 (Q4 x0 x1 x2 x3) (Q4 x4 x5 x6 x7) = V8 x0 x1 x2 x3 x4 x5 x6 x7 := by unfold N2 Q4 V8; omega
theorem ret_two {a b c d : Int} (h1 : a = c) (h2 : b = d) : Ending.returned (W2 a b) = .returned (W2 c d) := by rw [h1, h2]
set_option maxHeartbeats 4000000 in
set_option maxRecDepth 100000 in
theorem wideOf_walk (x0 x1 x2 x3 x4 x5 x6 x7 : Int) (h : R8 x0 x1 x2 x3 x4 x5 x6 x7) (w : World) :
    Calls Tryd.prog 39 #[A8 x0 x1 x2 x3 x4 x5 x6 x7] w fun e w' => e = .returned (W2 (Q4 x0 x1 x2 x3) (Q4 x4 x5 x6 x7)) ∧ Below w.heap.size w w' := by
  go_enter Tryd.func39, Tryd.ntmps39
  go_wp2
  refine wp_loop_rounds 9 ?_
  iterate 8 (rw [rounds_succ]; go_wp2)
  rw [rounds_succ]
  go_wp2
  go_returns
  exact ⟨ret_two (or_q4 _ _ _ _ h.h0 h.h1 h.h2 h.h3) (or_q4 _ _ _ _ h.h4 h.h5 h.h6 h.h7), by go_grown⟩
/-- One piece is taken off at the right. -/
theorem or48 (h l : Int) (hh : Word h) (hl : Word l) : bits .or .u64 (l / 65536) (IntKind.u64.wrap (h * 281474976710656)) = h % 65536 * 281474976710656 + l / 65536 := by
  obtain ⟨h0, h1⟩ := hh
  obtain ⟨l0, l1⟩ := hl
  rw [IntKind.wrap_u64, show h * 281474976710656 % 18446744073709551616 = h % 65536 * 281474976710656 from by omega, u64_or _ _ (by omega) (by omega) (by omega) (by omega)]
  obtain ⟨a, rfl⟩ := Int.eq_ofNat_of_zero_le h0
  obtain ⟨b, rfl⟩ := Int.eq_ofNat_of_zero_le l0
  rw [show ((a : Int) % 65536 * 281474976710656).toNat = a % 65536 * 281474976710656 from by omega, show ((b : Int) / 65536).toNat = b / 65536 from by omega, Nat.or_comm, nat_or_add 48 _ _ (by omega) (by omega)]
  omega
theorem shr_step {h l h' l' : Int} (hh : Word h) (hl : Word l) (e1 : h / 65536 = h') (e2 : h % 65536 * 281474976710656 + l / 65536 = l') : Word h' ∧ Word l' ∧ N2 h l = N2 h' l' * 65536 + l % 65536 := by
  obtain ⟨h0, h1⟩ := hh
  obtain ⟨l0, l1⟩ := hl
  unfold Word N2
  omega
set_option maxHeartbeats 4000000 in
set_option maxRecDepth 100000 in
theorem wsix_walk (h0 l0 : Int) (hh0 : Word h0) (hl0 : Word l0) (w : World) :
    Calls Tryd.prog 64 #[W2 h0 l0] w fun e w' => ∃ y0 y1 y2 y3 y4 y5 y6 y7 : Int, e = .returned (A8 y0 y1 y2 y3 y4 y5 y6 y7) ∧ R8 y0 y1 y2 y3 y4 y5 y6 y7 ∧ V8 y0 y1 y2 y3 y4 y5 y6 y7 = N2 h0 l0 ∧ Below w.heap.size w w' := by
  go_enter Tryd.func64, Tryd.ntmps64
  go_wp2
  refine wp_loop_rounds 9 ?_
  rw [rounds_succ]
  go_wp2
  rw [or48 h0 l0 hh0 hl0]
  generalize e0 : h0 / 65536 = h1
  generalize f0 : h0 % 65536 * 281474976710656 + l0 / 65536 = l1
  obtain ⟨hh1, hl1, g0⟩ := shr_step hh0 hl0 e0 f0
  clear e0 f0
  have G0 := Lib.hid g0
  clear g0
  rw [rounds_succ]
  go_wp2
  rw [or48 h1 l1 hh1 hl1]
  generalize e1 : h1 / 65536 = h2
  generalize f1 : h1 % 65536 * 281474976710656 + l1 / 65536 = l2
  obtain ⟨hh2, hl2, g1⟩ := shr_step hh1 hl1 e1 f1
  clear e1 f1
  have G1 := Lib.hid g1
  clear g1
  rw [rounds_succ]
  go_wp2
  rw [or48 h2 l2 hh2 hl2]
  generalize e2 : h2 / 65536 = h3
  generalize f2 : h2 % 65536 * 281474976710656 + l2 / 65536 = l3
  obtain ⟨hh3, hl3, g2⟩ := shr_step hh2 hl2 e2 f2
  clear e2 f2
  have G2 := Lib.hid g2
  clear g2
  rw [rounds_succ]
  go_wp2
  rw [or48 h3 l3 hh3 hl3]
  generalize e3 : h3 / 65536 = h4
  generalize f3 : h3 % 65536 * 281474976710656 + l3 / 65536 = l4
  obtain ⟨hh4, hl4, g3⟩ := shr_step hh3 hl3 e3 f3
  clear e3 f3
  have G3 := Lib.hid g3
  clear g3
  rw [rounds_succ]
  go_wp2
  rw [or48 h4 l4 hh4 hl4]
  generalize e4 : h4 / 65536 = h5
  generalize f4 : h4 % 65536 * 281474976710656 + l4 / 65536 = l5
  obtain ⟨hh5, hl5, g4⟩ := shr_step hh4 hl4 e4 f4
  clear e4 f4
  have G4 := Lib.hid g4
  clear g4
  rw [rounds_succ]
  go_wp2
  rw [or48 h5 l5 hh5 hl5]
  generalize e5 : h5 / 65536 = h6
  generalize f5 : h5 % 65536 * 281474976710656 + l5 / 65536 = l6
  obtain ⟨hh6, hl6, g5⟩ := shr_step hh5 hl5 e5 f5
  clear e5 f5
  have G5 := Lib.hid g5
  clear g5
  rw [rounds_succ]
  go_wp2
  rw [or48 h6 l6 hh6 hl6]
  generalize e6 : h6 / 65536 = h7
  generalize f6 : h6 % 65536 * 281474976710656 + l6 / 65536 = l7
  obtain ⟨hh7, hl7, g6⟩ := shr_step hh6 hl6 e6 f6
  clear e6 f6
  have G6 := Lib.hid g6
  clear g6
  rw [rounds_succ]
  go_wp2
  rw [or48 h7 l7 hh7 hl7]
  generalize e7 : h7 / 65536 = h8
  generalize f7 : h7 % 65536 * 281474976710656 + l7 / 65536 = l8
  obtain ⟨hh8, hl8, g7⟩ := shr_step hh7 hl7 e7 f7
  clear e7 f7
  have G7 := Lib.hid g7
  clear g7
  rw [rounds_succ]
  go_wp2
  go_returns
  refine ⟨_, _, _, _, _, _, _, _, rfl, ?_, ?_, by go_grown⟩
  · simp only [IntKind.wrap_u16]
    constructor <;> omega
  · simp only [IntKind.wrap_u16]
    have g0 := G0.out
    have g1 := G1.out
    have g2 := G2.out
    have g3 := G3.out
    have g4 := G4.out
    have g5 := G5.out
    have g6 := G6.out
    have g7 := G7.out
    obtain ⟨_, _⟩ := hh0
    obtain ⟨_, _⟩ := hl0
    have z : N2 h8 l8 = 0 := by
      unfold N2 at *
      unfold Word at *
      omega
    rw [z] at g7
    unfold V8
    omega
set_option maxHeartbeats 1000000 in
set_option maxRecDepth 100000 in
theorem less_walk (h l k m : Int) (hh : Word h) (hl : Word l) (hk : Word k) (hm : Word m) (w : World) :
    Calls Tryd.prog 60 #[W2 h l, W2 k m] w fun e w' => e = .returned (.bool (decide (N2 h l < N2 k m))) ∧ Below w.heap.size w w' := by
  obtain ⟨_, _⟩ := hl
  obtain ⟨_, _⟩ := hm
  by_cases c1 : h < k
  · rw [decide_eq_true (show N2 h l < N2 k m by unfold N2; omega)]
    go_enter Tryd.func60, Tryd.ntmps60
    go_wp2
    go_returns
    exact ⟨rfl, by go_grown⟩
  by_cases c2 : h = k
  · subst c2
    rw [show decide (N2 h l < N2 h m) = decide (l < m) from by unfold N2; simp]
    go_enter Tryd.func60, Tryd.ntmps60
    go_wp2
    go_returns
    exact ⟨rfl, by go_grown⟩
  · rw [decide_eq_false (show ¬ N2 h l < N2 k m by unfold N2; omega)]
    go_enter Tryd.func60, Tryd.ntmps60
    go_wp2
    go_returns
    exact ⟨rfl, by go_grown⟩
theorem add64 (x y c : Int) (hx : 0 ≤ x) (hy : 0 ≤ y) (hc0 : 0 ≤ c) (hc : c ≤ 1) (w : World) : (callFunc 102 #[.int .u64 x, .int .u64 y, .int .u64 c]).run Tryd.prog w =
    .ok (.value (.tuple #[.int .u64 ((x + y + c) % 18446744073709551616), .int .u64 ((x + y + c) / 18446744073709551616)])) w := by
  rw [run_callFunc_extern Tryd.func102 (by kernel_rfl) (by kernel_rfl) (by kernel_rfl) (e := add64Entry) (by kernel_rfl), run_add64 x y c hx hy hc0 hc]
  rfl
theorem add64_1 (x : Int) (hx : 0 ≤ x) (w : World) : (callFunc 102 #[.int .u64 x, .int .u64 1, .int .u64 0]).run Tryd.prog w =
    .ok (.value (.tuple #[.int .u64 ((x + 1) % 18446744073709551616), .int .u64 ((x + 1) / 18446744073709551616)])) w := by
  simpa using add64 x 1 0 hx (by decide) (Int.le_refl 0) (by decide) w
theorem add64_c (x c : Int) (hx : 0 ≤ x) (hc0 : 0 ≤ c) (hc : c ≤ 1) (w : World) : (callFunc 102 #[.int .u64 x, .int .u64 0, .int .u64 c]).run Tryd.prog w =
    .ok (.value (.tuple #[.int .u64 ((x + c) % 18446744073709551616), .int .u64 ((x + c) / 18446744073709551616)])) w := by
  simpa using add64 x 0 c hx (by decide) hc0 hc w
/-- What next answers: the number one more, or that there is none. -/
def WNext (h l : Int) (w : World) (e : Ending) (w' : World) : Prop :=
  ∃ k m : Int, e = .returned (.tuple #[W2 k m, .bool (decide (N2 h l < 340282366920938463463374607431768211455))]) ∧ Word k ∧ Word m ∧ (N2 h l < 340282366920938463463374607431768211455 → N2 k m = N2 h l + 1) ∧ Below w.heap.size w w'
set_option maxHeartbeats 1000000 in
set_option maxRecDepth 100000 in
theorem wnext_walk (h l : Int) (hh : Word h) (hl : Word l) (w : World) :
    Calls Tryd.prog 59 #[W2 h l] w (WNext h l w) := by
  obtain ⟨a0, a1⟩ := hh
  obtain ⟨b0, b1⟩ := hl
  have k0 : 0 ≤ (l + 1) / 18446744073709551616 := by omega
  have k1 : (l + 1) / 18446744073709551616 ≤ 1 := by omega
  go_enter Tryd.func59, Tryd.ntmps59
  go_wp2_with (first | simp only [add64_1 l b0] | simp only [add64_c h _ a0 k0 k1])
  go_returns
  refine ⟨(h + (l + 1) / 18446744073709551616) % 18446744073709551616, (l + 1) % 18446744073709551616, ?_, ⟨by omega, by omega⟩, ⟨by omega, by omega⟩, by unfold N2; omega, by go_grown⟩
  rw [show ((h + (l + 1) / 18446744073709551616) / 18446744073709551616 == 0) = decide (N2 h l < 340282366920938463463374607431768211455) from ?_]
  rw [Bool.eq_iff_iff]
  simp only [beq_iff_eq, decide_eq_true_eq]
  unfold N2
  omega
end Go.Proofs.YtcgdjnmfeibnoaaDoor
/-! SixWide2 -/
namespace Go.Proofs.YtcgdjnmfeibnoaaDoor
open Go.RowKit
set_option linter.unusedVariables false
set_option linter.unusedSimpArgs false
set_option maxHeartbeats 1000000 in
set_option maxRecDepth 100000 in
theorem tz64_core (x k idx : Nat) (w : World) (hx0 : ((x : Int) == 0) = false)
    (key : IntKind.u64.wrap (bits BinOp.and IntKind.u64 (x : Int) (IntKind.u64.wrap (-(x : Int))) * 285870213051353865) / 288230376151711744 = (idx : Int))
    (hi : idx < 64) (hk : k < 64) (hcell : w.cell? ⟨0, idx, none⟩ = some (.int .u8 k)) :
    Calls Tryd.prog 116 #[.int .u64 x] w fun e w' => e = .returned (.int .i64 k) ∧ w' = w := by
  go_enter Tryd.func116, Tryd.ntmps116
  go_wp2_with (simp only [key])
  go_returns
  exact ⟨rfl, rfl⟩
set_option maxRecDepth 100000 in
theorem tz64_zero (w : World) :
    Calls Tryd.prog 116 #[.int .u64 0] w fun e w' => e = .returned (.int .i64 64) ∧ w' = w := by
  go_enter Tryd.func116, Tryd.ntmps116
  go_wp2
  go_returns
  exact ⟨rfl, rfl⟩
/-- The library's table stands as it was laid. -/
def Tab (w : World) : Prop := TabAt 0 Lib.deBruijn64tab w
theorem Tab.keep {w W : World} {B : Nat} (h : Tab w) (hg : 0 < B) (hb : Below B w W) : Tab W := fun j hj => (hb.cell (p := ⟨0, j, none⟩) hg).trans (h j hj)
theorem tz64_walk (x : Nat) (hx : x < 18446744073709551616) (w : World) (hT : Tab w) :
    Calls Tryd.prog 116 #[.int .u64 x] w fun e w' => e = .returned (.int .i64 (Lib.ctz 64 x)) ∧ w' = w := by
  by_cases hx0 : x = 0
  · subst hx0
    exact tz64_zero w
  · obtain ⟨hlow, hk⟩ := Lib.lowest_bit 64 x hx0 hx
    obtain ⟨hi, htab⟩ := Lib.deBruijn64_at _ hk
    have hcell := hT _ hi
    rw [htab] at hcell
    exact tz64_core x _ _ w (by simp; omega) (tz64_key x _ hx hx0 hlow) hi hk hcell
/-- The lowest bits that are 0. -/
structure Zeros (n z : Int) : Prop where
  lo : 0 ≤ z
  hi : z ≤ 128
  zero : n % 2 ^ z.toNat = 0
  more : z < 128 → n % 2 ^ (z + 1).toNat ≠ 0
theorem ctz_zeros {x : Nat} (h0 : x ≠ 0) (h : x < 18446744073709551616) : Lib.ctz 64 x < 64 ∧ (x : Int) % 2 ^ (Lib.ctz 64 x) = 0 ∧ (x : Int) % 2 ^ (Lib.ctz 64 x + 1) ≠ 0 := by
  obtain ⟨m, he, hl⟩ := Lib.ctzFrom_spec 64 x (by omega) h
  have e : Lib.ctz 64 x = Lib.ctzFrom 64 x := if_neg h0
  rw [e]
  generalize Lib.ctzFrom 64 x = k at *
  subst he
  have hp := pow_pos2 k
  have e1 : (((2 ^ k * (2 * m + 1) : Nat)) : Int) = 2 ^ k * (2 * m + 1) := by simp
  refine ⟨hl, ?_, ?_⟩
  · rw [e1]; exact Int.mul_emod_right _ _
  · rw [e1, Int.pow_succ, Int.mul_emod_mul_of_pos _ _ hp]
    intro hz
    have h3 : ((2 * (m : Int) + 1) % 2) = 1 := by omega
    rw [h3] at hz
    omega
theorem n2_mod_low {h l : Int} {t : Nat} (ht : t ≤ 64) : N2 h l % 2 ^ t = l % 2 ^ t := by
  unfold N2
  have : (18446744073709551616 : Int) = 2 ^ t * 2 ^ (64 - t) := by
    rw [← Int.pow_add, show t + (64 - t) = 64 from by omega]; rfl
  rw [this, show h * (2 ^ t * 2 ^ (64 - t)) = 2 ^ t * (h * 2 ^ (64 - t)) from by ac_rfl, Int.mul_add_emod_self_left]
theorem n2_mod_high {h l : Int} {t : Nat} (hl : Word l) : N2 h l % 2 ^ (64 + t) = N2 (h % 2 ^ t) l := by
  obtain ⟨l0, l1⟩ := hl
  have hp := pow_pos2 t
  unfold N2
  have e1 : (2 : Int) ^ (64 + t) = 2 ^ t * 18446744073709551616 := by rw [Nat.add_comm, Int.pow_add]; rfl
  have e2 := Int.mul_ediv_add_emod h (2 ^ t)
  have h3 := Int.emod_nonneg h (show (2 : Int) ^ t ≠ 0 by omega)
  have h4 := Int.emod_lt_of_pos h hp
  have e : h * 18446744073709551616 + l = (h % 2 ^ t * 18446744073709551616 + l) + 2 ^ t * 18446744073709551616 * (h / 2 ^ t) := by
    have : h * 18446744073709551616 = (2 ^ t * (h / 2 ^ t) + h % 2 ^ t) * 18446744073709551616 := by rw [e2]
    rw [this, Int.add_mul]
    have : 2 ^ t * (h / 2 ^ t) * 18446744073709551616 = 2 ^ t * 18446744073709551616 * (h / 2 ^ t) := by ac_rfl
    omega
  rw [e1, e, Int.add_mul_emod_self_left]
  apply Int.emod_eq_of_lt
  · omega
  · have : h % 2 ^ t + 1 ≤ 2 ^ t := by omega
    have := Int.mul_le_mul_of_nonneg_right this (show (0 : Int) ≤ 18446744073709551616 by decide)
    rw [Int.add_mul] at this
    omega
set_option maxHeartbeats 1000000 in
set_option maxRecDepth 100000 in
theorem zeros_walk (h l : Int) (hh : Word h) (hl : Word l) (w : World) (hg : 0 < w.heap.size) (hT : Tab w) :
    Calls Tryd.prog 83 #[W2 h l] w fun e w' => ∃ z : Int, e = .returned (.int .i64 z) ∧ Zeros (N2 h l) z ∧ Below w.heap.size w w' := by
  have hh' := hh
  have hl' := hl
  obtain ⟨a0, a1⟩ := hh
  obtain ⟨b0, b1⟩ := hl
  obtain ⟨a, rfl⟩ := Int.eq_ofNat_of_zero_le a0
  obtain ⟨b, rfl⟩ := Int.eq_ofNat_of_zero_le b0
  have hT2 : Tab (w.alloc (.cells #[.int .u64 a, .int .u64 b] 74)) := hT.keep hg ((Below.refl _ w).alloc (Nat.le_refl _) _)
  by_cases hb : b = 0
  · subst hb
    go_enter Tryd.func83, Tryd.ntmps83
    go_wp2_with fail
    have hcle : Lib.ctz 64 a ≤ 64 := by
      by_cases ha : a = 0
      · subst ha; decide
      · have := (ctz_zeros ha (by omega)).1; omega
    have hspec : a ≠ 0 → Lib.ctz 64 a < 64 ∧ (a : Int) % 2 ^ (Lib.ctz 64 a) = 0 ∧ (a : Int) % 2 ^ (Lib.ctz 64 a + 1) ≠ 0 := fun ha => ctz_zeros ha (by omega)
    have hzero : a = 0 → Lib.ctz 64 a = 64 := fun ha => by subst ha; rfl
    refine (tz64_walk a (by omega) _ hT2).mono ?_
    rintro e w1 ⟨rfl, rfl⟩
    generalize Lib.ctz 64 a = c at *
    have HS := Lib.hid hspec
    have HZ := Lib.hid hzero
    clear hspec hzero
    go_wp2_with fail
    go_returns
    refine ⟨_, rfl, ?_, by go_grown⟩
    have hW0 : Word 0 := ⟨by decide, by decide⟩
    by_cases ha : a = 0
    · obtain rfl := HZ.out ha
      subst ha
      exact ⟨by decide, by decide, by decide, fun h => absurd h (by decide)⟩
    · obtain ⟨c1, c2, c3⟩ := HS.out ha
      refine ⟨by omega, by omega, ?_, fun _ => ?_⟩
      · rw [show (64 + (c : Int)).toNat = 64 + c from by omega]
        have := n2_mod_high (h := (a : Int)) (t := c) hW0
        rw [show (((0 : Nat) : Int)) = 0 from rfl, this, c2]
        rfl
      · rw [show (64 + (c : Int) + 1).toNat = 64 + (c + 1) from by omega]
        have := n2_mod_high (h := (a : Int)) (t := c + 1) hW0
        rw [show (((0 : Nat) : Int)) = 0 from rfl, this]
        unfold N2
        omega
  · have hb' : ((b : Int) != 0) = true := by simp; omega
    go_enter Tryd.func83, Tryd.ntmps83
    go_wp2_with fail
    refine (tz64_walk b (by omega) _ hT2).mono ?_
    rintro e w1 ⟨rfl, rfl⟩
    go_wp2_with fail
    go_returns
    obtain ⟨c1, c2, c3⟩ := ctz_zeros hb (by omega)
    refine ⟨_, rfl, ⟨by omega, by omega, ?_, fun _ => ?_⟩, by go_grown⟩
    · rw [Int.toNat_natCast, n2_mod_low (by omega)]; exact c2
    · rw [show ((Lib.ctz 64 b : Int) + 1).toNat = Lib.ctz 64 b + 1 from by omega, n2_mod_low (by omega)]; exact c3
theorem pow_lt64 {t : Nat} (h : t < 64) : (2 : Int) ^ t ≤ 9223372036854775808 := by
  have := Nat.pow_le_pow_right (n := 2) (by omega) (show t ≤ 63 by omega)
  have h : ((2 ^ t : Nat) : Int) ≤ ((2 ^ 63 : Nat) : Int) := by exact_mod_cast this
  simpa using h
theorem or_tail (x : Int) (t : Nat) (hx : Word x) (ht : t ≤ 64) (hz : x % 2 ^ t = 0) : bits .or .u64 x (2 ^ t - 1) = x + (2 ^ t - 1) := by
  obtain ⟨x0, x1⟩ := hx
  have hp := pow_pos2 t
  have hl : (2 : Int) ^ t ≤ 18446744073709551616 := by
    have := Nat.pow_le_pow_right (n := 2) (by omega) ht
    have h : ((2 ^ t : Nat) : Int) ≤ ((2 ^ 64 : Nat) : Int) := by exact_mod_cast this
    simpa using h
  obtain ⟨a, rfl⟩ := Int.eq_ofNat_of_zero_le x0
  have e : (2 : Int) ^ t = ((2 ^ t : Nat) : Int) := by simp
  rw [e] at hz hl hp ⊢
  have hz' : a % 2 ^ t = 0 := by exact_mod_cast hz
  rw [u64_or _ _ x0 x1 (by omega) (by omega), show (((2 ^ t : Nat) : Int) - 1).toNat = 2 ^ t - 1 from by omega, Int.toNat_natCast, nat_or_add t _ _ hz' (by omega)]
  omega
theorem wrap_tail {t : Nat} (ht : t ≤ 64) : IntKind.u64.wrap (IntKind.u64.wrap (2 ^ t) - 1) = 2 ^ t - 1 := by
  have hp := pow_pos2 t
  rw [IntKind.wrap_u64, IntKind.wrap_u64]
  by_cases h : t = 64
  · subst h; decide
  · have := pow_lt64 (t := t) (by omega)
    omega
/-- The lowest n bits set. -/
def TailPost (n : Int) (w : World) (e : Ending) (w' : World) : Prop :=
  e = .returned (if 64 ≤ n then W2 (2 ^ (n - 64).toNat - 1) 18446744073709551615 else W2 0 (2 ^ n.toNat - 1)) ∧ Below w.heap.size w w'
set_option maxHeartbeats 1000000 in
set_option maxRecDepth 100000 in
theorem tail_walk (n : Int) (n0 : 0 ≤ n) (n1 : n ≤ 128) (w : World) : Calls Tryd.prog 101 #[.int .i64 n] w (TailPost n w) := by
  by_cases h : 64 ≤ n
  · unfold TailPost
    rw [if_pos h]
    go_enter Tryd.func101, Tryd.ntmps101
    go_wp2
    go_returns
    refine ⟨ret_two (wrap_tail (by omega)) rfl, by go_grown⟩
  · unfold TailPost
    rw [if_neg h]
    go_enter Tryd.func101, Tryd.ntmps101
    go_wp2
    go_returns
    refine ⟨ret_two rfl (wrap_tail (by omega)), by go_grown⟩
/-- What last answers: the last of the addresses of a prefix. -/
def LastPost (v n : Int) (w : World) (e : Ending) (w' : World) : Prop :=
  ∃ k m : Int, e = .returned (W2 k m) ∧ Word k ∧ Word m ∧ N2 k m = v + 2 ^ (128 - n).toNat - 1 ∧ Below w.heap.size w w'
theorem n2_zero {h l : Int} {t : Nat} (hl : Word l) (hz : N2 (h % 2 ^ t) l = 0) : h % 2 ^ t = 0 ∧ l = 0 := by
  obtain ⟨l0, l1⟩ := hl
  have hp := pow_pos2 t
  have h3 := Int.emod_nonneg h (show (2 : Int) ^ t ≠ 0 by omega)
  unfold N2 at hz
  omega
theorem tail_room {x : Int} {t : Nat} (hx : Word x) (ht : t ≤ 64) (hz : x % 2 ^ t = 0) : x + 2 ^ t ≤ 18446744073709551616 ∧ Word (x + (2 ^ t - 1)) := by
  obtain ⟨x0, x1⟩ := hx
  have hp := pow_pos2 t
  have hq := pow_pos2 (64 - t)
  have e : (18446744073709551616 : Int) = 2 ^ t * 2 ^ (64 - t) := by
    rw [← Int.pow_add, show t + (64 - t) = 64 from by omega]; rfl
  have e2 := Int.mul_ediv_add_emod x (2 ^ t)
  rw [hz, Int.add_zero] at e2
  have e3 : x / 2 ^ t < 2 ^ (64 - t) := by
    apply Int.lt_of_mul_lt_mul_left (a := 2 ^ t) _ (Int.le_of_lt hp)
    rw [e2, ← e]; exact x1
  have e4 := Int.mul_le_mul_of_nonneg_left (show x / 2 ^ t + 1 ≤ 2 ^ (64 - t) by omega) (Int.le_of_lt hp)
  rw [Int.mul_add, e2, ← e, Int.mul_one] at e4
  exact ⟨e4, by omega, by omega⟩
theorem or_all : bits .or .u64 0 18446744073709551615 = 18446744073709551615 := by decide
theorem or_none (x : Int) (hx : Word x) : bits .or .u64 x 0 = x := by
  have := or_tail x 0 hx (by omega) (by simp)
  simpa using this
theorem two_at0 {w : World} {b : Nat} {x y : Value} (h0 : w.cell? ⟨b, 0, none⟩ = some x) (h1 : w.cell? ⟨b, 1, none⟩ = some y) (hb : b < w.heap.size) (u v : Value) (o : Obj) :
    (((w.setCell ⟨b, 0, none⟩ u).setCell ⟨b, 1, none⟩ v).alloc o).cell? ⟨b, 0, none⟩ = some u := by
  have hB : Below (w.setCell ⟨b, 0, none⟩ u |>.setCell ⟨b, 1, none⟩ v).heap.size (w.setCell ⟨b, 0, none⟩ u |>.setCell ⟨b, 1, none⟩ v) (((w.setCell ⟨b, 0, none⟩ u).setCell ⟨b, 1, none⟩ v).alloc o) := (Below.refl _ _).alloc (Nat.le_refl _) _
  rw [hB.cell (p := ⟨b, 0, none⟩) (by simp only [World.size_setCell]; exact hb), World.cell?_setCell_other _ _ _ _ (by simp), World.cell?_setCell_same _ _ _ h0]
theorem two_at1 {w : World} {b : Nat} {x y : Value} (h0 : w.cell? ⟨b, 0, none⟩ = some x) (h1 : w.cell? ⟨b, 1, none⟩ = some y) (hb : b < w.heap.size) (u v : Value) (o : Obj) :
    (((w.setCell ⟨b, 0, none⟩ u).setCell ⟨b, 1, none⟩ v).alloc o).cell? ⟨b, 1, none⟩ = some v := by
  have hB : Below (w.setCell ⟨b, 0, none⟩ u |>.setCell ⟨b, 1, none⟩ v).heap.size (w.setCell ⟨b, 0, none⟩ u |>.setCell ⟨b, 1, none⟩ v) (((w.setCell ⟨b, 0, none⟩ u).setCell ⟨b, 1, none⟩ v).alloc o) := (Below.refl _ _).alloc (Nat.le_refl _) _
  rw [hB.cell (p := ⟨b, 1, none⟩) (by simp only [World.size_setCell]; exact hb)]
  exact World.cell?_setCell_same (u := y) _ _ _ ((World.cell?_setCell_other _ _ _ _ (by simp)).trans h1)
set_option maxHeartbeats 1000000 in
set_option maxRecDepth 100000 in
theorem wlast_walk (h l n : Int) (hh : Word h) (hl : Word l) (n0 : 0 ≤ n) (n1 : n ≤ 128) (hz : N2 h l % 2 ^ (128 - n).toNat = 0) (w : World) :
    Calls Tryd.prog 58 #[W2 h l, .int .i64 n] w (LastPost (N2 h l) n w) := by
  have hT := tail_walk (128 - n) (by omega) (by omega)
  by_cases h64 : 64 ≤ 128 - n
  · unfold TailPost at hT
    rw [if_pos h64] at hT
    have HT := Lib.hid hT
    clear hT
    go_enter Tryd.func58, Tryd.ntmps58
    go_wp2_with fail
    refine (HT.out _).mono ?_
    rintro e w1 ⟨rfl, hb⟩
    have B1 : Below w.heap.size w w1 := chain (by go_grown) hb
    obtain ⟨hc, hf, hs⟩ := after hb
    simp only [World.size_alloc] at hs
    have l0 : w.heap.size < w1.heap.size := by omega
    have l1 : w.heap.size + 1 < w1.heap.size := by omega
    have z0 : w1.cell? ⟨w.heap.size + 1, 0, none⟩ = some (.int .u64 0) := (hc _ _ (by simp only [World.size_alloc]; omega)).trans (by go_simp)
    have z1 : w1.cell? ⟨w.heap.size + 1, 1, none⟩ = some (.int .u64 0) := (hc _ _ (by simp only [World.size_alloc]; omega)).trans (by go_simp)
    clear hs hb
    go_wp2_with fail
    refine bodyPost_ret (by simp [results, Tryd.results58, go_sem, two_at0 z0 z1 l1, two_at1 z0 z1 l1]; try rfl) rfl ?_
    have ht : (128 - n).toNat = 64 + (128 - n - 64).toNat := by omega
    rw [ht] at hz
    unfold LastPost
    rw [ht]
    generalize (128 - n - 64).toNat = t at *
    have ht2 : t ≤ 64 := by omega
    obtain ⟨e1, e2⟩ := n2_zero hl (by rw [← n2_mod_high hl]; exact hz)
    subst e2
    obtain ⟨q1, q2⟩ := tail_room hh ht2 e1
    refine ⟨_, _, rfl, ?_, ?_, ?_, by go_grown⟩
    · rw [or_tail h t hh ht2 e1]; exact q2
    · rw [or_all]; exact ⟨by decide, by decide⟩
    · rw [or_tail h t hh ht2 e1, or_all, Int.pow_add]
      unfold N2
      rw [show (2 : Int) ^ 64 = 18446744073709551616 from by decide]
      omega
  · unfold TailPost at hT
    rw [if_neg h64] at hT
    have HT := Lib.hid hT
    clear hT
    go_enter Tryd.func58, Tryd.ntmps58
    go_wp2_with fail
    refine (HT.out _).mono ?_
    rintro e w1 ⟨rfl, hb⟩
    have B1 : Below w.heap.size w w1 := chain (by go_grown) hb
    obtain ⟨hc, hf, hs⟩ := after hb
    simp only [World.size_alloc] at hs
    have l0 : w.heap.size < w1.heap.size := by omega
    have l1 : w.heap.size + 1 < w1.heap.size := by omega
    have z0 : w1.cell? ⟨w.heap.size + 1, 0, none⟩ = some (.int .u64 0) := (hc _ _ (by simp only [World.size_alloc]; omega)).trans (by go_simp)
    have z1 : w1.cell? ⟨w.heap.size + 1, 1, none⟩ = some (.int .u64 0) := (hc _ _ (by simp only [World.size_alloc]; omega)).trans (by go_simp)
    clear hs hb
    go_wp2_with fail
    refine bodyPost_ret (by simp [results, Tryd.results58, go_sem, two_at0 z0 z1 l1, two_at1 z0 z1 l1]; try rfl) rfl ?_
    have ht : (128 - n).toNat ≤ 64 := by omega
    unfold LastPost
    generalize (128 - n).toNat = t at *
    have e1 : l % 2 ^ t = 0 := by rw [← n2_mod_low (h := h) ht]; exact hz
    obtain ⟨q1, q2⟩ := tail_room hl ht e1
    refine ⟨_, _, rfl, ?_, ?_, ?_, by go_grown⟩
    · rw [or_none h hh]; exact hh
    · rw [or_tail l t hl ht e1]; exact q2
    · rw [or_none h hh, or_tail l t hl ht e1]
      unfold N2
      omega
end Go.Proofs.YtcgdjnmfeibnoaaDoor
/-! SixCover -/
namespace Go.Proofs.YtcgdjnmfeibnoaaDoor
open Go.RowKit
set_option linter.unusedVariables false
set_option linter.unusedSimpArgs false
/-- The cells of a prefix. -/
def pcell (p : Int × Nat) : List Value := [.int .u16 (pc 0 p.1), .int .u16 (pc 1 p.1), .int .u16 (pc 2 p.1), .int .u16 (pc 3 p.1), .int .u16 (pc 4 p.1), .int .u16 (pc 5 p.1), .int .u16 (pc 6 p.1), .int .u16 (pc 7 p.1), .int .i64 p.2]
def pcells (l : List (Int × Nat)) : List Value := l.flatMap pcell
theorem pcells_snoc (l : List (Int × Nat)) (p : Int × Nat) : pcells (l ++ [p]) = pcells l ++ pcell p := by simp [pcells]
theorem pre_info : (Tryd.prog.info? 53).map (fun i => (i.zero, i.size, i.bytes)) = some (some (.agg #[.int .u16 0, .int .u16 0, .int .u16 0, .int .u16 0, .int .u16 0, .int .u16 0, .int .u16 0, .int .u16 0, .int .i64 0]), 9, 24) := by kernel_rfl
theorem n2_split {v : Int} : N2 (v / 18446744073709551616) (v % 18446744073709551616) = v := by unfold N2; omega
theorem wide_words {v : Int} (h : Wide v) : Word (v / 18446744073709551616) ∧ Word (v % 18446744073709551616) := by
  obtain ⟨_, _⟩ := h
  unfold Word; omega
theorem n2_halves {k m v : Int} (hm : Word m) (e : N2 k m = v) : k = v / 18446744073709551616 ∧ m = v % 18446744073709551616 := by
  obtain ⟨_, _⟩ := hm
  unfold N2 at e; omega
/-- A number as the program has it. -/
abbrev WV (v : Int) : Value := W2 (v / 18446744073709551616) (v % 18446744073709551616)
theorem last_wide {v : Int} {n : Nat} (hv : Wide v) (hn : n ≤ 128) (hz : v % 2 ^ (128 - n) = 0) : Wide (v + 2 ^ (128 - n) - 1) := by
  obtain ⟨v0, v1⟩ := hv
  have hp := pow_pos2 (128 - n)
  have e : (340282366920938463463374607431768211456 : Int) = 2 ^ (128 - n) * 2 ^ n := by
    rw [← pow_add2, show 128 - n + n = 128 from by omega]; rfl
  have e2 := Int.mul_ediv_add_emod v (2 ^ (128 - n))
  rw [hz, Int.add_zero] at e2
  have e3 : v / 2 ^ (128 - n) < 2 ^ n := by
    apply Int.lt_of_mul_lt_mul_left (a := 2 ^ (128 - n)) _ (Int.le_of_lt hp)
    rw [e2, ← e]; exact v1
  have e4 := Int.mul_le_mul_of_nonneg_left (show v / 2 ^ (128 - n) + 1 ≤ 2 ^ n by omega) (Int.le_of_lt hp)
  rw [Int.mul_add, e2, ← e, Int.mul_one] at e4
  exact ⟨by omega, by omega⟩
theorem wlast_at {v : Int} {n : Nat} (hv : Wide v) (hn : n ≤ 128) (hz : v % 2 ^ (128 - n) = 0) (w : World) :
    Calls Tryd.prog 58 #[WV v, .int .i64 n] w fun e w' => e = .returned (WV (v + 2 ^ (128 - n) - 1)) ∧ Below w.heap.size w w' := by
  obtain ⟨hh, hl⟩ := wide_words hv
  have e : (128 - (n : Int)).toNat = 128 - n := by omega
  refine (wlast_walk _ _ n hh hl (by omega) (by omega) (by rw [n2_split, e]; exact hz) w).mono ?_
  rintro e1 w' ⟨k, m, rfl, hk, hm, h, hb⟩
  rw [n2_split, e] at h
  obtain ⟨rfl, rfl⟩ := n2_halves hm h
  exact ⟨rfl, hb⟩
theorem less_at {v u : Int} (hv : Wide v) (hu : Wide u) (w : World) :
    Calls Tryd.prog 60 #[WV v, WV u] w fun e w' => e = .returned (.bool (decide (v < u))) ∧ Below w.heap.size w w' := by
  obtain ⟨hh, hl⟩ := wide_words hv
  obtain ⟨hk, hm⟩ := wide_words hu
  have h := less_walk _ _ _ _ hh hl hk hm w
  rw [n2_split, n2_split] at h
  exact h
theorem wsix_at {v : Int} (hv : Wide v) (w : World) :
    Calls Tryd.prog 64 #[WV v] w fun e w' => e = .returned (A8 (pc 0 v) (pc 1 v) (pc 2 v) (pc 3 v) (pc 4 v) (pc 5 v) (pc 6 v) (pc 7 v)) ∧ Below w.heap.size w w' := by
  obtain ⟨hh, hl⟩ := wide_words hv
  refine (wsix_walk _ _ hh hl w).mono ?_
  rintro e w' ⟨y0, y1, y2, y3, y4, y5, y6, y7, rfl, hr, h, hb⟩
  rw [n2_split] at h
  obtain ⟨rfl, rfl, rfl, rfl, rfl, rfl, rfl, rfl⟩ := pc_of hr h
  exact ⟨rfl, hb⟩
/-- What next answers of a number that is not the last. -/
theorem wnext_more {v : Int} (hv : Wide v) (h : v < 340282366920938463463374607431768211455) (w : World) :
    Calls Tryd.prog 59 #[WV v] w fun e w' => e = .returned (.tuple #[WV (v + 1), .bool true]) ∧ Below w.heap.size w w' := by
  obtain ⟨hh, hl⟩ := wide_words hv
  refine (wnext_walk _ _ hh hl w).mono ?_
  rintro e w' ⟨k, m, rfl, hk, hm, hn, hb⟩
  rw [n2_split] at hn
  obtain ⟨rfl, rfl⟩ := n2_halves hm (hn h)
  exact ⟨by rw [n2_split, decide_eq_true h], hb⟩
theorem wnext_none {v : Int} (hv : Wide v) (h : ¬ v < 340282366920938463463374607431768211455) (w : World) :
    Calls Tryd.prog 59 #[WV v] w fun e w' => (∃ k m : Int, e = .returned (.tuple #[W2 k m, .bool false])) ∧ Below w.heap.size w w' := by
  obtain ⟨hh, hl⟩ := wide_words hv
  refine (wnext_walk _ _ hh hl w).mono ?_
  rintro e w' ⟨k, m, rfl, hk, hm, hn, hb⟩
  exact ⟨⟨k, m, by rw [n2_split, decide_eq_false h]⟩, hb⟩
theorem wideOf_at (x0 x1 x2 x3 x4 x5 x6 x7 : Int) (h : R8 x0 x1 x2 x3 x4 x5 x6 x7) (w : World) :
    Calls Tryd.prog 39 #[A8 x0 x1 x2 x3 x4 x5 x6 x7] w fun e w' => e = .returned (WV (V8 x0 x1 x2 x3 x4 x5 x6 x7)) ∧ Below w.heap.size w w' := by
  refine (wideOf_walk _ _ _ _ _ _ _ _ h w).mono ?_
  rintro e w' ⟨rfl, hb⟩
  obtain ⟨e1, e2⟩ := n2_halves (q4_word h.h4 h.h5 h.h6 h.h7) (n2_v8 x0 x1 x2 x3 x4 x5 x6 x7)
  exact ⟨by rw [e1, e2], hb⟩
theorem zeros_at {v : Int} (hv : Wide v) (w : World) (hg : 0 < w.heap.size) (hT : Tab w) :
    Calls Tryd.prog 83 #[WV v] w fun e w' => ∃ z : Int, e = .returned (.int .i64 z) ∧ Zeros v z ∧ Below w.heap.size w w' := by
  obtain ⟨hh, hl⟩ := wide_words hv
  have h := zeros_walk _ _ hh hl w hg hT
  rw [n2_split] at h
  exact h
/-- Two cells: a number. -/
def CW (w : World) (b : Nat) (v : Int) : Prop := w.cell? ⟨b, 0, none⟩ = some (.int .u64 (v / 18446744073709551616)) ∧ w.cell? ⟨b, 1, none⟩ = some (.int .u64 (v % 18446744073709551616))
theorem CW.keep {w W : World} {b B : Nat} {v : Int} (h : CW w b v) (hb : b < B) (hB : Below B w W) : CW W b v :=
  ⟨(hB.cell (p := ⟨b, 0, none⟩) hb).trans h.1, (hB.cell (p := ⟨b, 1, none⟩) hb).trans h.2⟩
def sliceLen : Value → Nat
  | .slice _ n _ => n
  | _ => 0
theorem own_below {W W' : World} {base size n : Nat} {e : TypeId} {v : Value} {xs : List Value} (h : W.ownsRow base e size v n xs) (hb : Below W.heap.size W W') : W'.ownsRow base e size v n xs :=
  h.kept (row := none) ⟨hb.os, hb.tape, hb.output, hb.size, fun k hk _ => hb.block k hk⟩ (by cases hv : v.ownBlock <;> simp)
theorem own_set {W : World} {base size n : Nat} {e : TypeId} {v : Value} {xs : List Value} (h : W.ownsRow base e size v n xs) (a : Addr) (u : Value) (ha : a.block < base) : (W.setCell a u).ownsRow base e size v n xs :=
  h.kept (row := some a.block) ⟨rfl, rfl, rfl, by simp, fun k _ hk => Below.heap_setCell _ _ _ _ (by simpa using hk)⟩ (by
    cases hv : v.ownBlock with
    | none => exact Or.inl rfl
    | some k => exact Or.inr (by have := (h.lt k hv).1; simp; omega))
/-- What stands at the head of a round of the search for the widest prefix. -/
def KeepRel (w1 : World) (g t z : Int) (s : Value) (W : World) : Prop :=
  ∃ k : Nat, 128 - z ≤ k ∧ k ≤ 128 ∧ s = .int .i64 k ∧ (∀ j, j < k → ¬ OkKeep g t j) ∧ Below w1.heap.size w1 W
theorem zeros_ok {g t z : Int} (hz : Zeros g z) {j : Nat} (hj : (j : Int) < 128 - z) : ¬ OkKeep g t j := by
  intro h
  have h1 := mod_less (show (z + 1).toNat ≤ 128 - j by omega) h.1
  exact hz.more (by omega) h1
theorem zeros_mod {g z : Int} (hz : Zeros g z) {j : Nat} (hj : 128 - z ≤ (j : Int)) : g % 2 ^ (128 - j) = 0 := mod_less (show 128 - j ≤ z.toNat by omega) hz.zero
theorem own_len {W : World} {base size n : Nat} {e : TypeId} {v : Value} {xs : List Value} (h : W.ownsRow base e size v n xs) : sliceLen v = n := by
  rcases h.2 with ⟨rfl, rfl⟩ | ⟨g, cap, cur, rfl, _⟩ <;> rfl
/-- What is kept: the two numbers in their boxes, the row so far. -/
structure CB (w : World) (g t : Int) (s : Value) (done : List (Int × Nat)) (W : World) : Prop where
  c0 : CW W w.heap.size g
  c1 : CW W (w.heap.size + 1) t
  own : W.ownsRow (w.heap.size + 2) 53 9 s done.length (pcells done)
  below : Below w.heap.size w W
  size : w.heap.size + 2 ≤ W.heap.size
  z0 : W.frozen? ⟨w.heap.size, 0, none⟩ = false
  z1 : W.frozen? ⟨w.heap.size, 1, none⟩ = false
theorem CB.keep {w W W' : World} {g t : Int} {s : Value} {done : List (Int × Nat)} (h : CB w g t s done W) (hb : Below W.heap.size W W') : CB w g t s done W' :=
  ⟨h.c0.keep (by have := h.size; omega) hb, h.c1.keep (by have := h.size; omega) hb, own_below h.own hb, chain h.below hb, Nat.le_trans h.size hb.size,
    (hb.frozen (p := ⟨w.heap.size, 0, none⟩) (by have := h.size; simp; omega)).trans h.z0, (hb.frozen (p := ⟨w.heap.size, 1, none⟩) (by have := h.size; simp; omega)).trans h.z1⟩
theorem CB.moved {w W : World} {g g' t : Int} {s : Value} {done : List (Int × Nat)} (h : CB w g t s done W) {x y : Value} (h0 : W.cell? ⟨w.heap.size, 0, none⟩ = some x) (h1 : W.cell? ⟨w.heap.size, 1, none⟩ = some y) :
    CB w g' t s done ((W.setCell ⟨w.heap.size, 0, none⟩ (.int .u64 (g' / 18446744073709551616))).setCell ⟨w.heap.size, 1, none⟩ (.int .u64 (g' % 18446744073709551616))) := by
  refine ⟨⟨?_, ?_⟩, ⟨?_, ?_⟩, own_set (own_set h.own _ _ (by simp)) _ _ (by simp), (h.below.setCell (by simp) _).setCell (by simp) _, by simpa using h.size, by simpa using h.z0, by simpa using h.z1⟩
  · rw [World.cell?_setCell_other _ _ _ _ (by simp), World.cell?_setCell_same _ _ _ h0]
  · exact World.cell?_setCell_same (u := y) _ _ _ ((World.cell?_setCell_other _ _ _ _ (by simp)).trans h1)
  · rw [World.cell?_setCell_other _ _ _ _ (by simp), World.cell?_setCell_other _ _ _ _ (by simp)]; exact h.c1.1
  · rw [World.cell?_setCell_other _ _ _ _ (by simp), World.cell?_setCell_other _ _ _ _ (by simp)]; exact h.c1.2
/-- What stands at the head of a round of cover. -/
def CoverRel (w : World) (f t : Int) (s : Value) (W : World) : Prop :=
  ∃ (g : Int) (done : List (Int × Nat)), Wide g ∧ coverL f t = done ++ coverL g t ∧ g ≤ t ∧ Phase done.length g t ∧ CB w g t s done W
set_option maxHeartbeats 4000000 in
set_option maxRecDepth 100000 in
theorem cover_walk (f t : Int) (hf : Wide f) (ht : Wide t) (hft : f ≤ t) (w : World) (hg : 0 < w.heap.size) (hT : Tab w) :
    Calls Tryd.prog 38 #[WV f, WV t] w fun e w' => ∃ v, e = .returned v ∧ w'.ownsRow w.heap.size 53 9 v (coverL f t).length (pcells (coverL f t)) ∧ Below w.heap.size w w' := by
  obtain ⟨i0, hi, hz0, hz1, hz2⟩ := info_parts pre_info
  go_enter Tryd.func38, Tryd.ntmps38
  go_wp2_with fail
  go_loopw [5] (fun s W => CoverRel w f t s W) (fun s _ => 258 - sliceLen s)
  case atStart => exact ⟨f, [], hf, rfl, hft, Or.inl ⟨by simp, by simp⟩, ⟨⟨by go_simp, by go_simp⟩, ⟨by go_simp, by go_simp⟩, World.ownsRow_nil _ _ _ _, by go_grown, by go_size, by go_simp, by go_simp⟩⟩
  case round =>
    obtain ⟨g, done, hgw, hcov, hgt, hph, hcb⟩ := hrel
    have hT1 : Tab wr := hT.keep hg hcb.below
    have hg1 : 0 < wr.heap.size := Nat.lt_of_lt_of_le hg hcb.below.size
    have c00 := hcb.c0.1
    have c01 := hcb.c0.2
    have HCOV := Lib.hid hcov
    have HI := Lib.hid hi
    have HZ0 := Lib.hid hz0
    have HZ1 := Lib.hid hz1
    have HZ2 := Lib.hid hz2
    have HHT := Lib.hid hT
    have HSL := Lib.hid (own_len hcb.own)
    clear hcov hi hz0 hz1 hz2 hT
    go_wp2_with fail
    refine (zeros_at hgw _ hg1 hT1).mono ?_
    rintro e w1 ⟨z, rfl, hz, hb1⟩
    have z0 := hz.lo
    have z1 := hz.hi
    replace hcb := hcb.keep hb1
    clear hb1 c00 c01 hT1 hg1
    have c00 := hcb.c0.1
    have c01 := hcb.c0.2
    go_wp2_with fail
    obtain ⟨wo, ho⟩ : ∃ wo : World, wo = w1 := ⟨_, rfl⟩
    go_loopw [6] (fun s W => KeepRel w1 g t z s W) (fun s _ => 128 - (intOf s).toNat)
    case atStart => exact ⟨(128 - z).toNat, by omega, by omega, by rw [Int.toNat_of_nonneg (by omega)], fun j hj => zeros_ok hz (by omega), Below.refl _ _⟩
    case round =>
      obtain ⟨k, hk0, hk1, rfl, hl, hbk⟩ := hrel
      clear c00 c01 ho wo
      have hcb1 := hcb.keep hbk
      have c00 := hcb1.c0.1
      have c01 := hcb1.c0.2
      have c10 := hcb1.c1.1
      have c11 := hcb1.c1.2
      have l0 : w.heap.size < wr.heap.size := by have := hcb1.size; omega
      have l1 : w.heap.size + 1 < wr.heap.size := by have := hcb1.size; omega
      have hzk := zeros_mod hz hk0
      have hlw := last_wide hgw hk1 hzk
      have HZK := Lib.hid hzk
      clear hzk
      go_wp2_with fail
      refine wp_region_ext (by kernel_rfl) (by kernel_rfl) ?_
      repeat (go_big_quiet_step (first | (with_reducible exact ext_of (wlast_at hgw hk1 HZK.out _)) | (with_reducible exact ext_of (less_at ht hlw _))))
      refine wpQuiet_nil ?_
      rintro _ ⟨⟨w2, hb2⟩, rfl⟩
      have hcb2 := hcb1.keep hb2
      clear c00 c01 c10 c11 l0 l1
      by_cases hlt : t < g + 2 ^ (128 - k) - 1
      · rw [decide_eq_true hlt]
        have hk2 : k < 128 := by
          rcases Nat.lt_or_ge k 128 with c | c
          · exact c
          · obtain rfl : k = 128 := by omega
            rw [show (2 : Int) ^ (128 - 128) = 1 from by decide] at hlt
            omega
        have HL := Lib.hid hl
        have HLT := Lib.hid hlt
        clear hl hlt hlw
        go_wp2_with fail
        refine ⟨⟨k + 1, by omega, by omega, by simp, fun j hj => ?_, chain hbk hb2⟩, by simp [intOf]; omega⟩
        by_cases hjk : j = k
        · subst hjk
          intro ho
          have := ho.2
          have := HLT.out
          omega
        · exact HL.out j (by omega)
      · rw [decide_eq_false hlt]
        have hK : Keep g t k := ⟨hk1, ⟨HZK.out, by omega⟩, hl⟩
        have HK := Lib.hid hK
        have hnt : g + 2 ^ (128 - k) - 1 ≤ t := by omega
        clear hl hlt hK
        have c00 := hcb2.c0.1
        have c01 := hcb2.c0.2
        go_wp2_with fail
        refine (wsix_at hgw _).mono ?_
        rintro e w3 ⟨rfl, hb3⟩
        have hcb3 := hcb2.keep hb3
        clear c00 c01 hb2 hb3 hcb1 hbk hcb hcb2
        have hlen := hph.le
        have hown := hcb3.own
        have hsz := hcb3.size
        clear hlen
        have hn : done.length ≤ 257 := hph.le
        go_wp2_with (at_builtin; refine app_one rfl _ _ 25 rfl (w.heap.size + 2) 53 i0 (.agg #[.int .u16 0, .int .u16 0, .int .u16 0, .int .u16 0, .int .u16 0, .int .u16 0, .int .u16 0, .int .u16 0, .int .i64 0]) 9 24 Tryd.underlying25 HI.out HZ0.out HZ1.out HZ2.out rfl (by decide) _ _ _ rfl hown [.int .u16 (pc 0 g), .int .u16 (pc 1 g), .int .u16 (pc 2 g), .int .u16 (pc 3 g), .int .u16 (pc 4 g), .int .u16 (pc 5 g), .int .u16 (pc 6 g), .int .u16 (pc 7 g), .int .i64 k] rfl rfl (by simp [Value.oneCell']) (by unfold maxLen; omega) (by omega) hsz ?_; intro G cap w4 hG hown' hgrow hbel; have c00 := (hcb3.c0.keep (B := w.heap.size + 2) (by omega) (hbel _ _ (Nat.le_refl _) (Below.refl _ _))).1; have c01 := (hcb3.c0.keep (B := w.heap.size + 2) (by omega) (hbel _ _ (Nat.le_refl _) (Below.refl _ _))).2)
        have hcb4 : CB w g t (.slice (some ⟨G, 0, none⟩) (done.length + 1) cap) (done ++ [(g, k)]) w4 :=
          ⟨hcb3.c0.keep (B := w.heap.size + 2) (by omega) (hbel _ _ (Nat.le_refl _) (Below.refl _ _)), hcb3.c1.keep (B := w.heap.size + 2) (by omega) (hbel _ _ (Nat.le_refl _) (Below.refl _ _)), by rw [List.length_append, pcells_snoc]; exact hown', hbel _ _ (by omega) hcb3.below, Nat.le_trans hsz (by have := hgrow.size; simp only [World.size_alloc] at this; omega),
            ((hbel (w.heap.size + 2) w3 (Nat.le_refl _) (Below.refl _ _)).frozen (p := ⟨w.heap.size, 0, none⟩) (by simp)).trans hcb3.z0, ((hbel (w.heap.size + 2) w3 (Nat.le_refl _) (Below.refl _ _)).frozen (p := ⟨w.heap.size, 1, none⟩) (by simp)).trans hcb3.z1⟩
        clear hown' hgrow hbel hcb3 hown hsz
        refine (wlast_at hgw hk1 HZK.out _).mono ?_
        rintro e w5 ⟨rfl, hb5⟩
        have hcb5 := hcb4.keep hb5
        clear c00 c01 hb5 hcb4
        go_wp2_with fail
        by_cases hmax : g + 2 ^ (128 - k) - 1 < 340282366920938463463374607431768211455
        · refine (wnext_more hlw hmax _).mono ?_
          rintro e w6 ⟨rfl, hb6⟩
          rw [show g + 2 ^ (128 - k) - 1 + 1 = g + 2 ^ (128 - k) from by omega]
          have hcb6 := hcb5.keep hb6
          have hnw : Wide (g + 2 ^ (128 - k)) := ⟨by have := hlw.1; omega, by omega⟩
          have c10 := hcb6.c1.1
          have c11 := hcb6.c1.2
          have l0 : w.heap.size < w6.heap.size := by have := hcb6.size; omega
          have l1 : w.heap.size + 1 < w6.heap.size := by have := hcb6.size; omega
          clear hb6 hcb5
          go_wp2_with fail
          refine (less_at ht hnw _).mono ?_
          rintro e w7 ⟨rfl, hb7⟩
          have hal : Below w6.heap.size w6 (w6.alloc (.cells #[.int .u64 ((g + 2 ^ (128 - k)) / 18446744073709551616), .int .u64 ((g + 2 ^ (128 - k)) % 18446744073709551616)] 74)) := (Below.refl _ _).alloc (Nat.le_refl _) _
          have hcb7 := (hcb6.keep hal).keep hb7
          have n0 : w7.cell? ⟨w6.heap.size, 0, none⟩ = some (.int .u64 ((g + 2 ^ (128 - k)) / 18446744073709551616)) := (hb7.cell (p := ⟨w6.heap.size, 0, none⟩) (by simp only [World.size_alloc]; omega)).trans (by go_simp)
          have n1 : w7.cell? ⟨w6.heap.size, 1, none⟩ = some (.int .u64 ((g + 2 ^ (128 - k)) % 18446744073709551616)) := (hb7.cell (p := ⟨w6.heap.size, 1, none⟩) (by simp only [World.size_alloc]; omega)).trans (by go_simp)
          have m2 : w6.heap.size < w7.heap.size := Nat.lt_of_lt_of_le (by simp only [World.size_alloc]; omega) hb7.size
          clear hal hb7 c10 c11 l0 l1 hcb6
          have c00 := hcb7.c0.1
          have c01 := hcb7.c0.2
          have l0 : w.heap.size < w7.heap.size := by have := hcb7.size; omega
          have f0 := hcb7.z0
          have f1 := hcb7.z1
          by_cases hlt : t < g + 2 ^ (128 - k)
          · rw [decide_eq_true hlt]
            go_wp2_with fail
            go_returns
            rw [HCOV.out, coverL_last hgt HK.out (by omega)]
            exact ⟨_, rfl, World.ownsRow.mono hcb7.own (by omega), hcb7.below⟩
          · rw [decide_eq_false hlt]
            go_wp2_with fail
            refine ⟨⟨g + 2 ^ (128 - k), done ++ [(g, k)], hnw, ?_, by omega, ?_, ?_⟩, by rw [HSL.out]; show 258 - (done.length + 1) < _; omega⟩
            · rw [HCOV.out, coverL_more hgt HK.out (by omega)]
              simp
            · rw [List.length_append]
              exact hph.step hgw.1 ht.2 HK.out (by omega)
            · exact hcb7.moved c00 c01
        · refine (wnext_none hlw hmax _).mono ?_
          rintro e w6 ⟨⟨k', m', rfl⟩, hb6⟩
          have hcb6 := hcb5.keep hb6
          clear hb6 hcb5
          go_wp2_with fail
          go_returns
          rw [HCOV.out, coverL_last hgt HK.out (by have := ht.2; omega)]
          exact ⟨_, rfl, own_below (World.ownsRow.mono hcb6.own (by omega)) ((Below.refl _ _).alloc (Nat.le_refl _) _), hcb6.below.alloc (by have := hcb6.size; omega) _⟩
end Go.Proofs.YtcgdjnmfeibnoaaDoor
