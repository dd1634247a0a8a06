/- Several texts in one (wip/gen/pack.py): SixScan SixStep SixWhole SixOk SixRefParse StShelf SixSt SixNext2 SixAny SixRow SixCut SixWr SixStOk SixShort. -/
import Derived.IntWalk
import Derived.Test.YtcgdjnmfeibnoaaDoorPSO0
import Derived.Shelf.SlicesQ.IndexFunc
import Derived.Test.YtcgdjnmfeibnoaaDoorProg
import Derived.Deep.AppendLies
import Derived.Laws.AppendOwnNone
import Derived.Lib.SlBy
import Derived.Lib.IndexMore
/-! SixScan -/
namespace Go.Proofs.YtcgdjnmfeibnoaaDoor
open Go.RowKit Go.Proofs.YtcgdjnmfeibnoaaDoorW.PrintWords Go.Proofs.YtcgdjnmfeibnoaaDoor.X
set_option linter.unusedVariables false
set_option linter.unusedSimpArgs false
abbrev sv (l0 l1 l2 l3 l4 l5 l6 l7 N k st dg va te pa fo : Int) : Value := .agg #[.int .u16 l0, .int .u16 l1, .int .u16 l2, .int .u16 l3, .int .u16 l4, .int .u16 l5, .int .u16 l6, .int .u16 l7, .int .i64 N, .int .i64 k, .int .i64 st, .int .i64 dg, .int .i64 va, .int .i64 te, .int .i64 pa, .int .i64 fo]
abbrev scV (x : Sc) : Value := sv (x.L 0) (x.L 1) (x.L 2) (x.L 3) (x.L 4) (x.L 5) (x.L 6) (x.L 7) x.N x.skip x.st x.digs x.val x.ten x.parts x.four
theorem ref_digit_all : ∀ n : Fin 256, posternref21_digit.f 40 (n.val : Int) = some (digV (n.val : Int) 16) := by decide +kernel
theorem refDigit_walk (c : Int) (h0 : 0 ≤ c) (h1 : c < 256) (w : World) : Calls Tryd.prog 92 #[.int .u8 c] w fun e w' => e = .returned (.int .i64 (digV c 16)) ∧ Drawn0 w w' := by
  obtain ⟨n, rfl⟩ := Int.eq_ofNat_of_zero_le h0
  exact posternref21_digit.calls 40 (n : Int) _ w (ref_digit_all ⟨n, by omega⟩)
theorem refDigit_drew (c : Int) (h0 : 0 ≤ c) (h1 : c < 256) (w : World) : Calls Tryd.prog 92 #[.int .u8 c] w fun e w' => e = .returned (.int .i64 (digV c 16)) ∧ ∃ m, w' = w.drewN m :=
  (refDigit_walk c h0 h1 w).mono fun e w' q => ⟨q.1, by obtain ⟨⟨n, rfl⟩⟩ := q.2; exact ⟨n, rfl⟩⟩
/-- What was made or drawn behind a world: nothing else. -/
def Grw (w w' : World) : Prop := ∃ (m : Nat) (l : List Obj), w' = GA l (w.drewN m)
theorem Grw.refl (w : World) : Grw w w := ⟨0, [], by rw [GA_nil]; rfl⟩
theorem Grw.alloc {w W : World} (h : Grw w W) (o : Obj) : Grw w (W.alloc o) := by
  obtain ⟨m, l, rfl⟩ := h
  exact ⟨m, l ++ [o], by rw [GA_one, GA_GA]⟩
theorem Grw.ga {w W : World} (h : Grw w W) (l : List Obj) : Grw w (GA l W) := by
  obtain ⟨m, k, rfl⟩ := h
  exact ⟨m, k ++ l, by rw [GA_GA]⟩
theorem Grw.drewN {w W : World} (h : Grw w W) (n : Nat) : Grw w (W.drewN n) := by
  obtain ⟨m, k, rfl⟩ := h
  exact ⟨m + n, k, by rw [GA_drewN, World.drewN_drewN]⟩
theorem Grw.below {w W : World} (h : Grw w W) : Below w.heap.size w W := by
  obtain ⟨m, l, rfl⟩ := h
  exact GA_below_drew l w m
theorem drewN_grw (w : World) (m : Nat) : ∃ w', w' = w.drewN m ∧ w'.heap.size = w.heap.size ∧ Grw w w' := ⟨_, rfl, rfl, (Grw.refl w).drewN m⟩
theorem Grw.trans {w W X : World} (h : Grw w W) (k : Grw W X) : Grw w X := by
  obtain ⟨m, l, rfl⟩ := k
  exact (h.drewN m).ga l
set_option maxHeartbeats 1000000 in
set_option maxRecDepth 100000 in
theorem room_walk (l0 l1 l2 l3 l4 l5 l6 l7 N k st dg va te pa fo : Int) (n0 : 0 ≤ N) (n1 : N ≤ 8) (w : World) :
    Calls Tryd.prog 123 #[sv l0 l1 l2 l3 l4 l5 l6 l7 N k st dg va te pa fo] w fun e w' => e = .returned (.int .i64 (if 0 ≤ k then 7 - N else 8 - N)) ∧ Grw w w' := by
  by_cases hk : 0 ≤ k
  · rw [if_pos hk]
    go_enter Tryd.func123, Tryd.ntmps123
    go_wp2
    go_returns
    exact ⟨rfl, (Grw.refl w).alloc _⟩
  · rw [if_neg hk]
    have hk' : k < 0 := by omega
    clear hk
    go_enter Tryd.func123, Tryd.ntmps123
    go_wp2
    go_returns
    exact ⟨rfl, (Grw.refl w).alloc _⟩
set_option maxHeartbeats 2000000 in
set_option maxRecDepth 100000 in
theorem more_a (l0 l1 l2 l3 l4 l5 l6 l7 N k st dg va te pa fo c : Int) (h0 : 0 ≤ c) (h1 : c < 256) (d0 : 0 ≤ dg) (d1 : dg ≤ 100) (v0 : 0 ≤ va) (v1 : va ≤ 65535) (x0 : -1 ≤ digV c 16) (x1 : digV c 16 ≤ 15) (t0 : -1 ≤ te) (t1 : te ≤ 255) (hc : c < 48) (w : World) :
    Calls Tryd.prog 94 #[sv l0 l1 l2 l3 l4 l5 l6 l7 N k st dg va te pa fo, .int .u8 c] w fun e w' => e = .returned (sv l0 l1 l2 l3 l4 l5 l6 l7 N k st (dg + 1) (16 * va + digV c 16) (-1) pa fo) ∧ Grw w w' := by
  go_enter Tryd.func94, Tryd.ntmps94
  go_upto_region 5 with fail
  all_goals
    have w0_ : IntKind.i64.wrap (16 * va) = 16 * va := IntWalk.i64_in _ (by omega)
    have w1_ : IntKind.i64.wrap (16 * va + digV c 16) = 16 * va + digV c 16 := IntWalk.i64_in _ (by omega)
    refine wp_region_drew_tail 7 (by kernel_rfl) (by kernel_rfl) ?_
    dsimp only [List.take, List.drop]
    repeat (go_big_quiet_step (first | (with_reducible exact Calls.quiet_of (refDigit_drew c h0 h1 _))))
    refine wpQuiet_nil ?_
    rintro _ ⟨m1, rfl⟩
    clear w0_ w1_
    simp only [drewN_alloc, GA_drewN, GA_GA]
    obtain ⟨u1, hu, hz, hG1⟩ := drewN_grw w m1
    rw [← hu, ← hz]
    clear hu hz
    go_wp2_with fail
    try simp only [Exit.inBlock, Exit.then]
    refine bodyPost_ret (results_cell rfl rfl (by first | (refine scan_ld0 _ _ _ _ _ _ _ _ _ _ _ _ _ _ _ _ _ ?_; simp; done) | (refine scan_gld0 _ _ _ _ _ _ _ _ _ _ _ _ _ _ _ _ _ _ ?_; simp; done) | (refine scan_ld1 _ _ _ _ _ _ _ _ _ _ _ _ _ _ _ _ _ _ ?_; simp; done) | (refine scan_gld1 _ _ _ _ _ _ _ _ _ _ _ _ _ _ _ _ _ _ _ ?_; simp; done) | (refine scan_ld2 _ _ _ _ _ _ _ _ _ _ _ _ _ _ _ _ _ _ _ ?_; simp; done) | (refine scan_gld2 _ _ _ _ _ _ _ _ _ _ _ _ _ _ _ _ _ _ _ _ ?_; simp; done) | (refine scan_ld3 _ _ _ _ _ _ _ _ _ _ _ _ _ _ _ _ _ _ _ _ ?_; simp; done) | (refine scan_gld3 _ _ _ _ _ _ _ _ _ _ _ _ _ _ _ _ _ _ _ _ _ ?_; simp; done))) rfl ?_
    exact ⟨rfl, by repeat (first | exact hG1 | refine Grw.alloc ?_ _ | refine Grw.ga ?_ _)⟩
set_option maxHeartbeats 2000000 in
set_option maxRecDepth 100000 in
theorem more_b (l0 l1 l2 l3 l4 l5 l6 l7 N k st dg va te pa fo c : Int) (h0 : 0 ≤ c) (h1 : c < 256) (d0 : 0 ≤ dg) (d1 : dg ≤ 100) (v0 : 0 ≤ va) (v1 : va ≤ 65535) (x0 : -1 ≤ digV c 16) (x1 : digV c 16 ≤ 15) (t0 : -1 ≤ te) (t1 : te ≤ 255) (hc : 57 < c) (w : World) :
    Calls Tryd.prog 94 #[sv l0 l1 l2 l3 l4 l5 l6 l7 N k st dg va te pa fo, .int .u8 c] w fun e w' => e = .returned (sv l0 l1 l2 l3 l4 l5 l6 l7 N k st (dg + 1) (16 * va + digV c 16) (-1) pa fo) ∧ Grw w w' := by
  go_enter Tryd.func94, Tryd.ntmps94
  go_upto_region 5 with fail
  all_goals
    have w0_ : IntKind.i64.wrap (16 * va) = 16 * va := IntWalk.i64_in _ (by omega)
    have w1_ : IntKind.i64.wrap (16 * va + digV c 16) = 16 * va + digV c 16 := IntWalk.i64_in _ (by omega)
    refine wp_region_drew_tail 7 (by kernel_rfl) (by kernel_rfl) ?_
    dsimp only [List.take, List.drop]
    repeat (go_big_quiet_step (first | (with_reducible exact Calls.quiet_of (refDigit_drew c h0 h1 _))))
    refine wpQuiet_nil ?_
    rintro _ ⟨m1, rfl⟩
    clear w0_ w1_
    simp only [drewN_alloc, GA_drewN, GA_GA]
    obtain ⟨u1, hu, hz, hG1⟩ := drewN_grw w m1
    rw [← hu, ← hz]
    clear hu hz
    go_wp2_with fail
    try simp only [Exit.inBlock, Exit.then]
    refine bodyPost_ret (results_cell rfl rfl (by first | (refine scan_ld0 _ _ _ _ _ _ _ _ _ _ _ _ _ _ _ _ _ ?_; simp; done) | (refine scan_gld0 _ _ _ _ _ _ _ _ _ _ _ _ _ _ _ _ _ _ ?_; simp; done) | (refine scan_ld1 _ _ _ _ _ _ _ _ _ _ _ _ _ _ _ _ _ _ ?_; simp; done) | (refine scan_gld1 _ _ _ _ _ _ _ _ _ _ _ _ _ _ _ _ _ _ _ ?_; simp; done) | (refine scan_ld2 _ _ _ _ _ _ _ _ _ _ _ _ _ _ _ _ _ _ _ ?_; simp; done) | (refine scan_gld2 _ _ _ _ _ _ _ _ _ _ _ _ _ _ _ _ _ _ _ _ ?_; simp; done) | (refine scan_ld3 _ _ _ _ _ _ _ _ _ _ _ _ _ _ _ _ _ _ _ _ ?_; simp; done) | (refine scan_gld3 _ _ _ _ _ _ _ _ _ _ _ _ _ _ _ _ _ _ _ _ _ ?_; simp; done))) rfl ?_
    exact ⟨rfl, by repeat (first | exact hG1 | refine Grw.alloc ?_ _ | refine Grw.ga ?_ _)⟩
set_option maxHeartbeats 2000000 in
set_option maxRecDepth 100000 in
theorem more_c (l0 l1 l2 l3 l4 l5 l6 l7 N k st dg va te pa fo c : Int) (h0 : 0 ≤ c) (h1 : c < 256) (d0 : 0 ≤ dg) (d1 : dg ≤ 100) (v0 : 0 ≤ va) (v1 : va ≤ 65535) (x0 : -1 ≤ digV c 16) (x1 : digV c 16 ≤ 15) (t0 : -1 ≤ te) (t1 : te ≤ 255) (a : 48 ≤ c) (b : c ≤ 57) (hd : 0 < dg) (ht : te = 0) (w : World) :
    Calls Tryd.prog 94 #[sv l0 l1 l2 l3 l4 l5 l6 l7 N k st dg va te pa fo, .int .u8 c] w fun e w' => e = .returned (sv l0 l1 l2 l3 l4 l5 l6 l7 N k st (dg + 1) (16 * va + digV c 16) (-1) pa fo) ∧ Grw w w' := by
  subst ht
  go_enter Tryd.func94, Tryd.ntmps94
  go_upto_region 5 with fail
  all_goals
    have w0_ : IntKind.i64.wrap (16 * va) = 16 * va := IntWalk.i64_in _ (by omega)
    have w1_ : IntKind.i64.wrap (16 * va + digV c 16) = 16 * va + digV c 16 := IntWalk.i64_in _ (by omega)
    refine wp_region_drew_tail 7 (by kernel_rfl) (by kernel_rfl) ?_
    dsimp only [List.take, List.drop]
    repeat (go_big_quiet_step (first | (with_reducible exact Calls.quiet_of (refDigit_drew c h0 h1 _))))
    refine wpQuiet_nil ?_
    rintro _ ⟨m1, rfl⟩
    clear w0_ w1_
    simp only [drewN_alloc, GA_drewN, GA_GA]
    obtain ⟨u1, hu, hz, hG1⟩ := drewN_grw w m1
    rw [← hu, ← hz]
    clear hu hz
    go_wp2_with fail
    try simp only [Exit.inBlock, Exit.then]
    refine bodyPost_ret (results_cell rfl rfl (by first | (refine scan_ld0 _ _ _ _ _ _ _ _ _ _ _ _ _ _ _ _ _ ?_; simp; done) | (refine scan_gld0 _ _ _ _ _ _ _ _ _ _ _ _ _ _ _ _ _ _ ?_; simp; done) | (refine scan_ld1 _ _ _ _ _ _ _ _ _ _ _ _ _ _ _ _ _ _ ?_; simp; done) | (refine scan_gld1 _ _ _ _ _ _ _ _ _ _ _ _ _ _ _ _ _ _ _ ?_; simp; done) | (refine scan_ld2 _ _ _ _ _ _ _ _ _ _ _ _ _ _ _ _ _ _ _ ?_; simp; done) | (refine scan_gld2 _ _ _ _ _ _ _ _ _ _ _ _ _ _ _ _ _ _ _ _ ?_; simp; done) | (refine scan_ld3 _ _ _ _ _ _ _ _ _ _ _ _ _ _ _ _ _ _ _ _ ?_; simp; done) | (refine scan_gld3 _ _ _ _ _ _ _ _ _ _ _ _ _ _ _ _ _ _ _ _ _ ?_; simp; done))) rfl ?_
    exact ⟨rfl, by repeat (first | exact hG1 | refine Grw.alloc ?_ _ | refine Grw.ga ?_ _)⟩
set_option maxHeartbeats 2000000 in
set_option maxRecDepth 100000 in
theorem more_d (l0 l1 l2 l3 l4 l5 l6 l7 N k st dg va te pa fo c : Int) (h0 : 0 ≤ c) (h1 : c < 256) (d0 : 0 ≤ dg) (d1 : dg ≤ 100) (v0 : 0 ≤ va) (v1 : va ≤ 65535) (x0 : -1 ≤ digV c 16) (x1 : digV c 16 ≤ 15) (t0 : -1 ≤ te) (t1 : te ≤ 255) (a : 48 ≤ c) (b : c ≤ 57) (ht : te < 0) (w : World) :
    Calls Tryd.prog 94 #[sv l0 l1 l2 l3 l4 l5 l6 l7 N k st dg va te pa fo, .int .u8 c] w fun e w' => e = .returned (sv l0 l1 l2 l3 l4 l5 l6 l7 N k st (dg + 1) (16 * va + digV c 16) (-1) pa fo) ∧ Grw w w' := by
  go_enter Tryd.func94, Tryd.ntmps94
  go_upto_region 5 with fail
  all_goals
    have w0_ : IntKind.i64.wrap (16 * va) = 16 * va := IntWalk.i64_in _ (by omega)
    have w1_ : IntKind.i64.wrap (16 * va + digV c 16) = 16 * va + digV c 16 := IntWalk.i64_in _ (by omega)
    refine wp_region_drew_tail 7 (by kernel_rfl) (by kernel_rfl) ?_
    dsimp only [List.take, List.drop]
    repeat (go_big_quiet_step (first | (with_reducible exact Calls.quiet_of (refDigit_drew c h0 h1 _))))
    refine wpQuiet_nil ?_
    rintro _ ⟨m1, rfl⟩
    clear w0_ w1_
    simp only [drewN_alloc, GA_drewN, GA_GA]
    obtain ⟨u1, hu, hz, hG1⟩ := drewN_grw w m1
    rw [← hu, ← hz]
    clear hu hz
    go_wp2_with fail
    try simp only [Exit.inBlock, Exit.then]
    refine bodyPost_ret (results_cell rfl rfl (by first | (refine scan_ld0 _ _ _ _ _ _ _ _ _ _ _ _ _ _ _ _ _ ?_; simp; done) | (refine scan_gld0 _ _ _ _ _ _ _ _ _ _ _ _ _ _ _ _ _ _ ?_; simp; done) | (refine scan_ld1 _ _ _ _ _ _ _ _ _ _ _ _ _ _ _ _ _ _ ?_; simp; done) | (refine scan_gld1 _ _ _ _ _ _ _ _ _ _ _ _ _ _ _ _ _ _ _ ?_; simp; done) | (refine scan_ld2 _ _ _ _ _ _ _ _ _ _ _ _ _ _ _ _ _ _ _ ?_; simp; done) | (refine scan_gld2 _ _ _ _ _ _ _ _ _ _ _ _ _ _ _ _ _ _ _ _ ?_; simp; done) | (refine scan_ld3 _ _ _ _ _ _ _ _ _ _ _ _ _ _ _ _ _ _ _ _ ?_; simp; done) | (refine scan_gld3 _ _ _ _ _ _ _ _ _ _ _ _ _ _ _ _ _ _ _ _ _ ?_; simp; done))) rfl ?_
    exact ⟨rfl, by repeat (first | exact hG1 | refine Grw.alloc ?_ _ | refine Grw.ga ?_ _)⟩
set_option maxHeartbeats 2000000 in
set_option maxRecDepth 100000 in
theorem more_e (l0 l1 l2 l3 l4 l5 l6 l7 N k st dg va te pa fo c : Int) (h0 : 0 ≤ c) (h1 : c < 256) (d0 : 0 ≤ dg) (d1 : dg ≤ 100) (v0 : 0 ≤ va) (v1 : va ≤ 65535) (x0 : -1 ≤ digV c 16) (x1 : digV c 16 ≤ 15) (t0 : -1 ≤ te) (t1 : te ≤ 255) (a : 48 ≤ c) (b : c ≤ 57) (ht : 0 < te) (hm : 255 < 10 * te + (c - 48)) (w : World) :
    Calls Tryd.prog 94 #[sv l0 l1 l2 l3 l4 l5 l6 l7 N k st dg va te pa fo, .int .u8 c] w fun e w' => e = .returned (sv l0 l1 l2 l3 l4 l5 l6 l7 N k st (dg + 1) (16 * va + digV c 16) (-1) pa fo) ∧ Grw w w' := by
  go_enter Tryd.func94, Tryd.ntmps94
  go_upto_region 5 with fail
  all_goals
    have w0_ : IntKind.i64.wrap (16 * va) = 16 * va := IntWalk.i64_in _ (by omega)
    have w1_ : IntKind.i64.wrap (16 * va + digV c 16) = 16 * va + digV c 16 := IntWalk.i64_in _ (by omega)
    refine wp_region_drew_tail 7 (by kernel_rfl) (by kernel_rfl) ?_
    dsimp only [List.take, List.drop]
    repeat (go_big_quiet_step (first | (with_reducible exact Calls.quiet_of (refDigit_drew c h0 h1 _))))
    refine wpQuiet_nil ?_
    rintro _ ⟨m1, rfl⟩
    clear w0_ w1_
    simp only [drewN_alloc, GA_drewN, GA_GA]
    obtain ⟨u1, hu, hz, hG1⟩ := drewN_grw w m1
    rw [← hu, ← hz]
    clear hu hz
    go_wp2_with fail
    try simp only [Exit.inBlock, Exit.then]
    refine bodyPost_ret (results_cell rfl rfl (by first | (refine scan_ld0 _ _ _ _ _ _ _ _ _ _ _ _ _ _ _ _ _ ?_; simp; done) | (refine scan_gld0 _ _ _ _ _ _ _ _ _ _ _ _ _ _ _ _ _ _ ?_; simp; done) | (refine scan_ld1 _ _ _ _ _ _ _ _ _ _ _ _ _ _ _ _ _ _ ?_; simp; done) | (refine scan_gld1 _ _ _ _ _ _ _ _ _ _ _ _ _ _ _ _ _ _ _ ?_; simp; done) | (refine scan_ld2 _ _ _ _ _ _ _ _ _ _ _ _ _ _ _ _ _ _ _ ?_; simp; done) | (refine scan_gld2 _ _ _ _ _ _ _ _ _ _ _ _ _ _ _ _ _ _ _ _ ?_; simp; done) | (refine scan_ld3 _ _ _ _ _ _ _ _ _ _ _ _ _ _ _ _ _ _ _ _ ?_; simp; done) | (refine scan_gld3 _ _ _ _ _ _ _ _ _ _ _ _ _ _ _ _ _ _ _ _ _ ?_; simp; done))) rfl ?_
    exact ⟨rfl, by repeat (first | exact hG1 | refine Grw.alloc ?_ _ | refine Grw.ga ?_ _)⟩
set_option maxHeartbeats 2000000 in
set_option maxRecDepth 100000 in
theorem more_f (l0 l1 l2 l3 l4 l5 l6 l7 N k st dg va te pa fo c : Int) (h0 : 0 ≤ c) (h1 : c < 256) (d0 : 0 ≤ dg) (d1 : dg ≤ 100) (v0 : 0 ≤ va) (v1 : va ≤ 65535) (x0 : -1 ≤ digV c 16) (x1 : digV c 16 ≤ 15) (t0 : -1 ≤ te) (t1 : te ≤ 255) (a : 48 ≤ c) (b : c ≤ 57) (ht : 0 < te) (hm : 10 * te + (c - 48) ≤ 255) (hmb : decide (255 < 10 * te + (c - 48)) = false) (hzb : (te == 0) = false) (w : World) :
    Calls Tryd.prog 94 #[sv l0 l1 l2 l3 l4 l5 l6 l7 N k st dg va te pa fo, .int .u8 c] w fun e w' => e = .returned (sv l0 l1 l2 l3 l4 l5 l6 l7 N k st (dg + 1) (16 * va + digV c 16) (10 * te + (c - 48)) pa fo) ∧ Grw w w' := by
  go_enter Tryd.func94, Tryd.ntmps94
  go_upto_region 5 with fail
  all_goals
    have w0_ : IntKind.i64.wrap (16 * va) = 16 * va := IntWalk.i64_in _ (by omega)
    have w1_ : IntKind.i64.wrap (16 * va + digV c 16) = 16 * va + digV c 16 := IntWalk.i64_in _ (by omega)
    refine wp_region_drew_tail 7 (by kernel_rfl) (by kernel_rfl) ?_
    dsimp only [List.take, List.drop]
    repeat (go_big_quiet_step (first | (with_reducible exact Calls.quiet_of (refDigit_drew c h0 h1 _))))
    refine wpQuiet_nil ?_
    rintro _ ⟨m1, rfl⟩
    clear w0_ w1_
    simp only [drewN_alloc, GA_drewN, GA_GA]
    obtain ⟨u1, hu, hz, hG1⟩ := drewN_grw w m1
    rw [← hu, ← hz]
    clear hu hz
    go_wp2_with fail
    try simp only [Exit.inBlock, Exit.then]
    refine bodyPost_ret (results_cell rfl rfl (by first | (refine scan_ld0 _ _ _ _ _ _ _ _ _ _ _ _ _ _ _ _ _ ?_; simp; done) | (refine scan_gld0 _ _ _ _ _ _ _ _ _ _ _ _ _ _ _ _ _ _ ?_; simp; done) | (refine scan_ld1 _ _ _ _ _ _ _ _ _ _ _ _ _ _ _ _ _ _ ?_; simp; done) | (refine scan_gld1 _ _ _ _ _ _ _ _ _ _ _ _ _ _ _ _ _ _ _ ?_; simp; done) | (refine scan_ld2 _ _ _ _ _ _ _ _ _ _ _ _ _ _ _ _ _ _ _ ?_; simp; done) | (refine scan_gld2 _ _ _ _ _ _ _ _ _ _ _ _ _ _ _ _ _ _ _ _ ?_; simp; done) | (refine scan_ld3 _ _ _ _ _ _ _ _ _ _ _ _ _ _ _ _ _ _ _ _ ?_; simp; done) | (refine scan_gld3 _ _ _ _ _ _ _ _ _ _ _ _ _ _ _ _ _ _ _ _ _ ?_; simp; done))) rfl ?_
    exact ⟨rfl, by repeat (first | exact hG1 | refine Grw.alloc ?_ _ | refine Grw.ga ?_ _)⟩
set_option maxHeartbeats 2000000 in
set_option maxRecDepth 100000 in
theorem more_g (l0 l1 l2 l3 l4 l5 l6 l7 N k st dg va te pa fo c : Int) (h0 : 0 ≤ c) (h1 : c < 256) (d0 : 0 ≤ dg) (d1 : dg ≤ 100) (v0 : 0 ≤ va) (v1 : va ≤ 65535) (x0 : -1 ≤ digV c 16) (x1 : digV c 16 ≤ 15) (t0 : -1 ≤ te) (t1 : te ≤ 255) (a : 48 ≤ c) (b : c ≤ 57) (hd : dg = 0) (ht : te = 0) (w : World) :
    Calls Tryd.prog 94 #[sv l0 l1 l2 l3 l4 l5 l6 l7 N k st dg va te pa fo, .int .u8 c] w fun e w' => e = .returned (sv l0 l1 l2 l3 l4 l5 l6 l7 N k st 1 (16 * va + digV c 16) (c - 48) pa fo) ∧ Grw w w' := by
  subst hd ht
  go_enter Tryd.func94, Tryd.ntmps94
  go_upto_region 5 with fail
  all_goals
    have w0_ : IntKind.i64.wrap (16 * va) = 16 * va := IntWalk.i64_in _ (by omega)
    have w1_ : IntKind.i64.wrap (16 * va + digV c 16) = 16 * va + digV c 16 := IntWalk.i64_in _ (by omega)
    refine wp_region_drew_tail 7 (by kernel_rfl) (by kernel_rfl) ?_
    dsimp only [List.take, List.drop]
    repeat (go_big_quiet_step (first | (with_reducible exact Calls.quiet_of (refDigit_drew c h0 h1 _))))
    refine wpQuiet_nil ?_
    rintro _ ⟨m1, rfl⟩
    clear w0_ w1_
    simp only [drewN_alloc, GA_drewN, GA_GA]
    obtain ⟨u1, hu, hz, hG1⟩ := drewN_grw w m1
    rw [← hu, ← hz]
    clear hu hz
    go_wp2_with fail
    try simp only [Exit.inBlock, Exit.then]
    refine bodyPost_ret (results_cell rfl rfl (by first | (refine scan_ld0 _ _ _ _ _ _ _ _ _ _ _ _ _ _ _ _ _ ?_; simp; done) | (refine scan_gld0 _ _ _ _ _ _ _ _ _ _ _ _ _ _ _ _ _ _ ?_; simp; done) | (refine scan_ld1 _ _ _ _ _ _ _ _ _ _ _ _ _ _ _ _ _ _ ?_; simp; done) | (refine scan_gld1 _ _ _ _ _ _ _ _ _ _ _ _ _ _ _ _ _ _ _ ?_; simp; done) | (refine scan_ld2 _ _ _ _ _ _ _ _ _ _ _ _ _ _ _ _ _ _ _ ?_; simp; done) | (refine scan_gld2 _ _ _ _ _ _ _ _ _ _ _ _ _ _ _ _ _ _ _ _ ?_; simp; done) | (refine scan_ld3 _ _ _ _ _ _ _ _ _ _ _ _ _ _ _ _ _ _ _ _ ?_; simp; done) | (refine scan_gld3 _ _ _ _ _ _ _ _ _ _ _ _ _ _ _ _ _ _ _ _ _ ?_; simp; done))) rfl ?_
    exact ⟨rfl, by repeat (first | exact hG1 | refine Grw.alloc ?_ _ | refine Grw.ga ?_ _)⟩
set_option maxHeartbeats 2000000 in
set_option maxRecDepth 100000 in
theorem dotted_a (l0 l1 l2 l3 l4 l5 l6 l7 N k st dg va te pa fo : Int) (h : te < 0) (hN : N < 6) (hk : 0 ≤ k) (w : World) :
    Calls Tryd.prog 96 #[sv l0 l1 l2 l3 l4 l5 l6 l7 N k st dg va te pa fo] w fun e w' => e = .returned (sv l0 l1 l2 l3 l4 l5 l6 l7 N k 7 dg va te pa fo) ∧ Grw w w' := by
  go_enter Tryd.func96, Tryd.ntmps96
  go_wp2_with fail
  try simp only [Exit.inBlock, Exit.then]
  refine bodyPost_ret (results_cell rfl rfl (by first | (refine scan_ld0 _ _ _ _ _ _ _ _ _ _ _ _ _ _ _ _ _ ?_; simp; done) | (refine scan_gld0 _ _ _ _ _ _ _ _ _ _ _ _ _ _ _ _ _ _ ?_; simp; done) | (refine scan_ld1 _ _ _ _ _ _ _ _ _ _ _ _ _ _ _ _ _ _ ?_; simp; done) | (refine scan_gld1 _ _ _ _ _ _ _ _ _ _ _ _ _ _ _ _ _ _ _ ?_; simp; done) | (refine scan_ld2 _ _ _ _ _ _ _ _ _ _ _ _ _ _ _ _ _ _ _ ?_; simp; done) | (refine scan_gld2 _ _ _ _ _ _ _ _ _ _ _ _ _ _ _ _ _ _ _ _ ?_; simp; done) | (refine scan_ld3 _ _ _ _ _ _ _ _ _ _ _ _ _ _ _ _ _ _ _ _ ?_; simp; done) | (refine scan_gld3 _ _ _ _ _ _ _ _ _ _ _ _ _ _ _ _ _ _ _ _ _ ?_; simp; done))) rfl ?_
  exact ⟨rfl, by repeat (first | exact (Grw.refl w) | refine Grw.alloc ?_ _ | refine Grw.ga ?_ _)⟩
set_option maxHeartbeats 2000000 in
set_option maxRecDepth 100000 in
theorem dotted_b (l0 l1 l2 l3 l4 l5 l6 l7 N k st dg va te pa fo : Int) (h : te < 0) (hN : N < 6) (hk : k < 0) (w : World) :
    Calls Tryd.prog 96 #[sv l0 l1 l2 l3 l4 l5 l6 l7 N k st dg va te pa fo] w fun e w' => e = .returned (sv l0 l1 l2 l3 l4 l5 l6 l7 N k 7 dg va te pa fo) ∧ Grw w w' := by
  go_enter Tryd.func96, Tryd.ntmps96
  go_wp2_with fail
  try simp only [Exit.inBlock, Exit.then]
  refine bodyPost_ret (results_cell rfl rfl (by first | (refine scan_ld0 _ _ _ _ _ _ _ _ _ _ _ _ _ _ _ _ _ ?_; simp; done) | (refine scan_gld0 _ _ _ _ _ _ _ _ _ _ _ _ _ _ _ _ _ _ ?_; simp; done) | (refine scan_ld1 _ _ _ _ _ _ _ _ _ _ _ _ _ _ _ _ _ _ ?_; simp; done) | (refine scan_gld1 _ _ _ _ _ _ _ _ _ _ _ _ _ _ _ _ _ _ _ ?_; simp; done) | (refine scan_ld2 _ _ _ _ _ _ _ _ _ _ _ _ _ _ _ _ _ _ _ ?_; simp; done) | (refine scan_gld2 _ _ _ _ _ _ _ _ _ _ _ _ _ _ _ _ _ _ _ _ ?_; simp; done) | (refine scan_ld3 _ _ _ _ _ _ _ _ _ _ _ _ _ _ _ _ _ _ _ _ ?_; simp; done) | (refine scan_gld3 _ _ _ _ _ _ _ _ _ _ _ _ _ _ _ _ _ _ _ _ _ ?_; simp; done))) rfl ?_
  exact ⟨rfl, by repeat (first | exact (Grw.refl w) | refine Grw.alloc ?_ _ | refine Grw.ga ?_ _)⟩
set_option maxHeartbeats 2000000 in
set_option maxRecDepth 100000 in
theorem dotted_c (l0 l1 l2 l3 l4 l5 l6 l7 N k st dg va te pa fo : Int) (h : te < 0) (hN : N = 6) (hk : 0 ≤ k) (w : World) :
    Calls Tryd.prog 96 #[sv l0 l1 l2 l3 l4 l5 l6 l7 N k st dg va te pa fo] w fun e w' => e = .returned (sv l0 l1 l2 l3 l4 l5 l6 l7 6 k 7 dg va te pa fo) ∧ Grw w w' := by
  subst hN
  go_enter Tryd.func96, Tryd.ntmps96
  go_wp2_with fail
  try simp only [Exit.inBlock, Exit.then]
  refine bodyPost_ret (results_cell rfl rfl (by first | (refine scan_ld0 _ _ _ _ _ _ _ _ _ _ _ _ _ _ _ _ _ ?_; simp; done) | (refine scan_gld0 _ _ _ _ _ _ _ _ _ _ _ _ _ _ _ _ _ _ ?_; simp; done) | (refine scan_ld1 _ _ _ _ _ _ _ _ _ _ _ _ _ _ _ _ _ _ ?_; simp; done) | (refine scan_gld1 _ _ _ _ _ _ _ _ _ _ _ _ _ _ _ _ _ _ _ ?_; simp; done) | (refine scan_ld2 _ _ _ _ _ _ _ _ _ _ _ _ _ _ _ _ _ _ _ ?_; simp; done) | (refine scan_gld2 _ _ _ _ _ _ _ _ _ _ _ _ _ _ _ _ _ _ _ _ ?_; simp; done) | (refine scan_ld3 _ _ _ _ _ _ _ _ _ _ _ _ _ _ _ _ _ _ _ _ ?_; simp; done) | (refine scan_gld3 _ _ _ _ _ _ _ _ _ _ _ _ _ _ _ _ _ _ _ _ _ ?_; simp; done))) rfl ?_
  exact ⟨rfl, by repeat (first | exact (Grw.refl w) | refine Grw.alloc ?_ _ | refine Grw.ga ?_ _)⟩
set_option maxHeartbeats 2000000 in
set_option maxRecDepth 100000 in
theorem dotted_d (l0 l1 l2 l3 l4 l5 l6 l7 N k st dg va te pa fo : Int) (h : te < 0) (hN : N = 6) (hk : k < 0) (w : World) :
    Calls Tryd.prog 96 #[sv l0 l1 l2 l3 l4 l5 l6 l7 N k st dg va te pa fo] w fun e w' => e = .returned (sv l0 l1 l2 l3 l4 l5 l6 l7 6 k 7 dg va te pa fo) ∧ Grw w w' := by
  subst hN
  go_enter Tryd.func96, Tryd.ntmps96
  go_wp2_with fail
  try simp only [Exit.inBlock, Exit.then]
  refine bodyPost_ret (results_cell rfl rfl (by first | (refine scan_ld0 _ _ _ _ _ _ _ _ _ _ _ _ _ _ _ _ _ ?_; simp; done) | (refine scan_gld0 _ _ _ _ _ _ _ _ _ _ _ _ _ _ _ _ _ _ ?_; simp; done) | (refine scan_ld1 _ _ _ _ _ _ _ _ _ _ _ _ _ _ _ _ _ _ ?_; simp; done) | (refine scan_gld1 _ _ _ _ _ _ _ _ _ _ _ _ _ _ _ _ _ _ _ ?_; simp; done) | (refine scan_ld2 _ _ _ _ _ _ _ _ _ _ _ _ _ _ _ _ _ _ _ ?_; simp; done) | (refine scan_gld2 _ _ _ _ _ _ _ _ _ _ _ _ _ _ _ _ _ _ _ _ ?_; simp; done) | (refine scan_ld3 _ _ _ _ _ _ _ _ _ _ _ _ _ _ _ _ _ _ _ _ ?_; simp; done) | (refine scan_gld3 _ _ _ _ _ _ _ _ _ _ _ _ _ _ _ _ _ _ _ _ _ ?_; simp; done))) rfl ?_
  exact ⟨rfl, by repeat (first | exact (Grw.refl w) | refine Grw.alloc ?_ _ | refine Grw.ga ?_ _)⟩
set_option maxHeartbeats 2000000 in
set_option maxRecDepth 100000 in
theorem dotted_e (l0 l1 l2 l3 l4 l5 l6 l7 N k st dg va te pa fo : Int) (h : te < 0) (hN : 6 < N) (w : World) :
    Calls Tryd.prog 96 #[sv l0 l1 l2 l3 l4 l5 l6 l7 N k st dg va te pa fo] w fun e w' => e = .returned (sv l0 l1 l2 l3 l4 l5 l6 l7 N k 7 dg va te pa fo) ∧ Grw w w' := by
  go_enter Tryd.func96, Tryd.ntmps96
  go_wp2_with fail
  try simp only [Exit.inBlock, Exit.then]
  refine bodyPost_ret (results_cell rfl rfl (by first | (refine scan_ld0 _ _ _ _ _ _ _ _ _ _ _ _ _ _ _ _ _ ?_; simp; done) | (refine scan_gld0 _ _ _ _ _ _ _ _ _ _ _ _ _ _ _ _ _ _ ?_; simp; done) | (refine scan_ld1 _ _ _ _ _ _ _ _ _ _ _ _ _ _ _ _ _ _ ?_; simp; done) | (refine scan_gld1 _ _ _ _ _ _ _ _ _ _ _ _ _ _ _ _ _ _ _ ?_; simp; done) | (refine scan_ld2 _ _ _ _ _ _ _ _ _ _ _ _ _ _ _ _ _ _ _ ?_; simp; done) | (refine scan_gld2 _ _ _ _ _ _ _ _ _ _ _ _ _ _ _ _ _ _ _ _ ?_; simp; done) | (refine scan_ld3 _ _ _ _ _ _ _ _ _ _ _ _ _ _ _ _ _ _ _ _ ?_; simp; done) | (refine scan_gld3 _ _ _ _ _ _ _ _ _ _ _ _ _ _ _ _ _ _ _ _ _ ?_; simp; done))) rfl ?_
  exact ⟨rfl, by repeat (first | exact (Grw.refl w) | refine Grw.alloc ?_ _ | refine Grw.ga ?_ _)⟩
set_option maxHeartbeats 2000000 in
set_option maxRecDepth 100000 in
theorem dotted_f (l0 l1 l2 l3 l4 l5 l6 l7 N k st dg va te pa fo : Int) (h : 0 ≤ te) (hN : N < 6) (hk : 0 ≤ k) (w : World) :
    Calls Tryd.prog 96 #[sv l0 l1 l2 l3 l4 l5 l6 l7 N k st dg va te pa fo] w fun e w' => e = .returned (sv l0 l1 l2 l3 l4 l5 l6 l7 N k 5 dg va te 1 te) ∧ Grw w w' := by
  go_enter Tryd.func96, Tryd.ntmps96
  go_wp2_with fail
  try simp only [Exit.inBlock, Exit.then]
  refine bodyPost_ret (results_cell rfl rfl (by first | (refine scan_ld0 _ _ _ _ _ _ _ _ _ _ _ _ _ _ _ _ _ ?_; simp; done) | (refine scan_gld0 _ _ _ _ _ _ _ _ _ _ _ _ _ _ _ _ _ _ ?_; simp; done) | (refine scan_ld1 _ _ _ _ _ _ _ _ _ _ _ _ _ _ _ _ _ _ ?_; simp; done) | (refine scan_gld1 _ _ _ _ _ _ _ _ _ _ _ _ _ _ _ _ _ _ _ ?_; simp; done) | (refine scan_ld2 _ _ _ _ _ _ _ _ _ _ _ _ _ _ _ _ _ _ _ ?_; simp; done) | (refine scan_gld2 _ _ _ _ _ _ _ _ _ _ _ _ _ _ _ _ _ _ _ _ ?_; simp; done) | (refine scan_ld3 _ _ _ _ _ _ _ _ _ _ _ _ _ _ _ _ _ _ _ _ ?_; simp; done) | (refine scan_gld3 _ _ _ _ _ _ _ _ _ _ _ _ _ _ _ _ _ _ _ _ _ ?_; simp; done))) rfl ?_
  exact ⟨rfl, by repeat (first | exact (Grw.refl w) | refine Grw.alloc ?_ _ | refine Grw.ga ?_ _)⟩
set_option maxHeartbeats 2000000 in
set_option maxRecDepth 100000 in
theorem dotted_g (l0 l1 l2 l3 l4 l5 l6 l7 N k st dg va te pa fo : Int) (h : 0 ≤ te) (hN : N < 6) (hk : k < 0) (hkb : decide (0 ≤ k) = false) (w : World) :
    Calls Tryd.prog 96 #[sv l0 l1 l2 l3 l4 l5 l6 l7 N k st dg va te pa fo] w fun e w' => e = .returned (sv l0 l1 l2 l3 l4 l5 l6 l7 N k 7 dg va te pa fo) ∧ Grw w w' := by
  go_enter Tryd.func96, Tryd.ntmps96
  go_wp2_with fail
  try simp only [Exit.inBlock, Exit.then]
  refine bodyPost_ret (results_cell rfl rfl (by first | (refine scan_ld0 _ _ _ _ _ _ _ _ _ _ _ _ _ _ _ _ _ ?_; simp; done) | (refine scan_gld0 _ _ _ _ _ _ _ _ _ _ _ _ _ _ _ _ _ _ ?_; simp; done) | (refine scan_ld1 _ _ _ _ _ _ _ _ _ _ _ _ _ _ _ _ _ _ ?_; simp; done) | (refine scan_gld1 _ _ _ _ _ _ _ _ _ _ _ _ _ _ _ _ _ _ _ ?_; simp; done) | (refine scan_ld2 _ _ _ _ _ _ _ _ _ _ _ _ _ _ _ _ _ _ _ ?_; simp; done) | (refine scan_gld2 _ _ _ _ _ _ _ _ _ _ _ _ _ _ _ _ _ _ _ _ ?_; simp; done) | (refine scan_ld3 _ _ _ _ _ _ _ _ _ _ _ _ _ _ _ _ _ _ _ _ ?_; simp; done) | (refine scan_gld3 _ _ _ _ _ _ _ _ _ _ _ _ _ _ _ _ _ _ _ _ _ ?_; simp; done))) rfl ?_
  exact ⟨rfl, by repeat (first | exact (Grw.refl w) | refine Grw.alloc ?_ _ | refine Grw.ga ?_ _)⟩
set_option maxHeartbeats 2000000 in
set_option maxRecDepth 100000 in
theorem dotted_h (l0 l1 l2 l3 l4 l5 l6 l7 N k st dg va te pa fo : Int) (h : 0 ≤ te) (hN : N = 6) (hk : 0 ≤ k) (hkb : decide (k < 0) = false) (w : World) :
    Calls Tryd.prog 96 #[sv l0 l1 l2 l3 l4 l5 l6 l7 N k st dg va te pa fo] w fun e w' => e = .returned (sv l0 l1 l2 l3 l4 l5 l6 l7 6 k 7 dg va te pa fo) ∧ Grw w w' := by
  subst hN
  go_enter Tryd.func96, Tryd.ntmps96
  go_wp2_with fail
  try simp only [Exit.inBlock, Exit.then]
  refine bodyPost_ret (results_cell rfl rfl (by first | (refine scan_ld0 _ _ _ _ _ _ _ _ _ _ _ _ _ _ _ _ _ ?_; simp; done) | (refine scan_gld0 _ _ _ _ _ _ _ _ _ _ _ _ _ _ _ _ _ _ ?_; simp; done) | (refine scan_ld1 _ _ _ _ _ _ _ _ _ _ _ _ _ _ _ _ _ _ ?_; simp; done) | (refine scan_gld1 _ _ _ _ _ _ _ _ _ _ _ _ _ _ _ _ _ _ _ ?_; simp; done) | (refine scan_ld2 _ _ _ _ _ _ _ _ _ _ _ _ _ _ _ _ _ _ _ ?_; simp; done) | (refine scan_gld2 _ _ _ _ _ _ _ _ _ _ _ _ _ _ _ _ _ _ _ _ ?_; simp; done) | (refine scan_ld3 _ _ _ _ _ _ _ _ _ _ _ _ _ _ _ _ _ _ _ _ ?_; simp; done) | (refine scan_gld3 _ _ _ _ _ _ _ _ _ _ _ _ _ _ _ _ _ _ _ _ _ ?_; simp; done))) rfl ?_
  exact ⟨rfl, by repeat (first | exact (Grw.refl w) | refine Grw.alloc ?_ _ | refine Grw.ga ?_ _)⟩
set_option maxHeartbeats 2000000 in
set_option maxRecDepth 100000 in
theorem dotted_i (l0 l1 l2 l3 l4 l5 l6 l7 N k st dg va te pa fo : Int) (h : 0 ≤ te) (hN : N = 6) (hk : k < 0) (w : World) :
    Calls Tryd.prog 96 #[sv l0 l1 l2 l3 l4 l5 l6 l7 N k st dg va te pa fo] w fun e w' => e = .returned (sv l0 l1 l2 l3 l4 l5 l6 l7 6 k 5 dg va te 1 te) ∧ Grw w w' := by
  subst hN
  go_enter Tryd.func96, Tryd.ntmps96
  go_wp2_with fail
  try simp only [Exit.inBlock, Exit.then]
  refine bodyPost_ret (results_cell rfl rfl (by first | (refine scan_ld0 _ _ _ _ _ _ _ _ _ _ _ _ _ _ _ _ _ ?_; simp; done) | (refine scan_gld0 _ _ _ _ _ _ _ _ _ _ _ _ _ _ _ _ _ _ ?_; simp; done) | (refine scan_ld1 _ _ _ _ _ _ _ _ _ _ _ _ _ _ _ _ _ _ ?_; simp; done) | (refine scan_gld1 _ _ _ _ _ _ _ _ _ _ _ _ _ _ _ _ _ _ _ ?_; simp; done) | (refine scan_ld2 _ _ _ _ _ _ _ _ _ _ _ _ _ _ _ _ _ _ _ ?_; simp; done) | (refine scan_gld2 _ _ _ _ _ _ _ _ _ _ _ _ _ _ _ _ _ _ _ _ ?_; simp; done) | (refine scan_ld3 _ _ _ _ _ _ _ _ _ _ _ _ _ _ _ _ _ _ _ _ ?_; simp; done) | (refine scan_gld3 _ _ _ _ _ _ _ _ _ _ _ _ _ _ _ _ _ _ _ _ _ ?_; simp; done))) rfl ?_
  exact ⟨rfl, by repeat (first | exact (Grw.refl w) | refine Grw.alloc ?_ _ | refine Grw.ga ?_ _)⟩
set_option maxHeartbeats 2000000 in
set_option maxRecDepth 100000 in
theorem dotted_j (l0 l1 l2 l3 l4 l5 l6 l7 N k st dg va te pa fo : Int) (h : 0 ≤ te) (hN : 6 < N) (w : World) :
    Calls Tryd.prog 96 #[sv l0 l1 l2 l3 l4 l5 l6 l7 N k st dg va te pa fo] w fun e w' => e = .returned (sv l0 l1 l2 l3 l4 l5 l6 l7 N k 7 dg va te pa fo) ∧ Grw w w' := by
  go_enter Tryd.func96, Tryd.ntmps96
  go_wp2_with fail
  try simp only [Exit.inBlock, Exit.then]
  refine bodyPost_ret (results_cell rfl rfl (by first | (refine scan_ld0 _ _ _ _ _ _ _ _ _ _ _ _ _ _ _ _ _ ?_; simp; done) | (refine scan_gld0 _ _ _ _ _ _ _ _ _ _ _ _ _ _ _ _ _ _ ?_; simp; done) | (refine scan_ld1 _ _ _ _ _ _ _ _ _ _ _ _ _ _ _ _ _ _ ?_; simp; done) | (refine scan_gld1 _ _ _ _ _ _ _ _ _ _ _ _ _ _ _ _ _ _ _ ?_; simp; done) | (refine scan_ld2 _ _ _ _ _ _ _ _ _ _ _ _ _ _ _ _ _ _ _ ?_; simp; done) | (refine scan_gld2 _ _ _ _ _ _ _ _ _ _ _ _ _ _ _ _ _ _ _ _ ?_; simp; done) | (refine scan_ld3 _ _ _ _ _ _ _ _ _ _ _ _ _ _ _ _ _ _ _ _ ?_; simp; done) | (refine scan_gld3 _ _ _ _ _ _ _ _ _ _ _ _ _ _ _ _ _ _ _ _ _ ?_; simp; done))) rfl ?_
  exact ⟨rfl, by repeat (first | exact (Grw.refl w) | refine Grw.alloc ?_ _ | refine Grw.ga ?_ _)⟩
set_option maxHeartbeats 2000000 in
set_option maxRecDepth 100000 in
theorem closed_0 (l0 l1 l2 l3 l4 l5 l6 l7 k st dg va te pa fo : Int) (v0 : 0 ≤ va) (v1 : va ≤ 65535) (w : World) :
    Calls Tryd.prog 95 #[sv l0 l1 l2 l3 l4 l5 l6 l7 0 k st dg va te pa fo] w fun e w' => e = .returned (sv va l1 l2 l3 l4 l5 l6 l7 1 k st dg va te pa fo) ∧ Grw w w' := by
  go_enter Tryd.func95, Tryd.ntmps95
  go_wp2_with fail
  try simp only [Exit.inBlock, Exit.then]
  refine bodyPost_ret (results_cell rfl rfl (by first | (refine scan_ld0 _ _ _ _ _ _ _ _ _ _ _ _ _ _ _ _ _ ?_; simp; done) | (refine scan_gld0 _ _ _ _ _ _ _ _ _ _ _ _ _ _ _ _ _ _ ?_; simp; done) | (refine scan_ld1 _ _ _ _ _ _ _ _ _ _ _ _ _ _ _ _ _ _ ?_; simp; done) | (refine scan_gld1 _ _ _ _ _ _ _ _ _ _ _ _ _ _ _ _ _ _ _ ?_; simp; done) | (refine scan_ld2 _ _ _ _ _ _ _ _ _ _ _ _ _ _ _ _ _ _ _ ?_; simp; done) | (refine scan_gld2 _ _ _ _ _ _ _ _ _ _ _ _ _ _ _ _ _ _ _ _ ?_; simp; done) | (refine scan_ld3 _ _ _ _ _ _ _ _ _ _ _ _ _ _ _ _ _ _ _ _ ?_; simp; done) | (refine scan_gld3 _ _ _ _ _ _ _ _ _ _ _ _ _ _ _ _ _ _ _ _ _ ?_; simp; done))) rfl ?_
  exact ⟨rfl, by repeat (first | exact (Grw.refl w) | refine Grw.alloc ?_ _ | refine Grw.ga ?_ _)⟩
set_option maxHeartbeats 2000000 in
set_option maxRecDepth 100000 in
theorem closed_1 (l0 l1 l2 l3 l4 l5 l6 l7 k st dg va te pa fo : Int) (v0 : 0 ≤ va) (v1 : va ≤ 65535) (w : World) :
    Calls Tryd.prog 95 #[sv l0 l1 l2 l3 l4 l5 l6 l7 1 k st dg va te pa fo] w fun e w' => e = .returned (sv l0 va l2 l3 l4 l5 l6 l7 2 k st dg va te pa fo) ∧ Grw w w' := by
  go_enter Tryd.func95, Tryd.ntmps95
  go_wp2_with fail
  try simp only [Exit.inBlock, Exit.then]
  refine bodyPost_ret (results_cell rfl rfl (by first | (refine scan_ld0 _ _ _ _ _ _ _ _ _ _ _ _ _ _ _ _ _ ?_; simp; done) | (refine scan_gld0 _ _ _ _ _ _ _ _ _ _ _ _ _ _ _ _ _ _ ?_; simp; done) | (refine scan_ld1 _ _ _ _ _ _ _ _ _ _ _ _ _ _ _ _ _ _ ?_; simp; done) | (refine scan_gld1 _ _ _ _ _ _ _ _ _ _ _ _ _ _ _ _ _ _ _ ?_; simp; done) | (refine scan_ld2 _ _ _ _ _ _ _ _ _ _ _ _ _ _ _ _ _ _ _ ?_; simp; done) | (refine scan_gld2 _ _ _ _ _ _ _ _ _ _ _ _ _ _ _ _ _ _ _ _ ?_; simp; done) | (refine scan_ld3 _ _ _ _ _ _ _ _ _ _ _ _ _ _ _ _ _ _ _ _ ?_; simp; done) | (refine scan_gld3 _ _ _ _ _ _ _ _ _ _ _ _ _ _ _ _ _ _ _ _ _ ?_; simp; done))) rfl ?_
  exact ⟨rfl, by repeat (first | exact (Grw.refl w) | refine Grw.alloc ?_ _ | refine Grw.ga ?_ _)⟩
set_option maxHeartbeats 2000000 in
set_option maxRecDepth 100000 in
theorem closed_2 (l0 l1 l2 l3 l4 l5 l6 l7 k st dg va te pa fo : Int) (v0 : 0 ≤ va) (v1 : va ≤ 65535) (w : World) :
    Calls Tryd.prog 95 #[sv l0 l1 l2 l3 l4 l5 l6 l7 2 k st dg va te pa fo] w fun e w' => e = .returned (sv l0 l1 va l3 l4 l5 l6 l7 3 k st dg va te pa fo) ∧ Grw w w' := by
  go_enter Tryd.func95, Tryd.ntmps95
  go_wp2_with fail
  try simp only [Exit.inBlock, Exit.then]
  refine bodyPost_ret (results_cell rfl rfl (by first | (refine scan_ld0 _ _ _ _ _ _ _ _ _ _ _ _ _ _ _ _ _ ?_; simp; done) | (refine scan_gld0 _ _ _ _ _ _ _ _ _ _ _ _ _ _ _ _ _ _ ?_; simp; done) | (refine scan_ld1 _ _ _ _ _ _ _ _ _ _ _ _ _ _ _ _ _ _ ?_; simp; done) | (refine scan_gld1 _ _ _ _ _ _ _ _ _ _ _ _ _ _ _ _ _ _ _ ?_; simp; done) | (refine scan_ld2 _ _ _ _ _ _ _ _ _ _ _ _ _ _ _ _ _ _ _ ?_; simp; done) | (refine scan_gld2 _ _ _ _ _ _ _ _ _ _ _ _ _ _ _ _ _ _ _ _ ?_; simp; done) | (refine scan_ld3 _ _ _ _ _ _ _ _ _ _ _ _ _ _ _ _ _ _ _ _ ?_; simp; done) | (refine scan_gld3 _ _ _ _ _ _ _ _ _ _ _ _ _ _ _ _ _ _ _ _ _ ?_; simp; done))) rfl ?_
  exact ⟨rfl, by repeat (first | exact (Grw.refl w) | refine Grw.alloc ?_ _ | refine Grw.ga ?_ _)⟩
set_option maxHeartbeats 2000000 in
set_option maxRecDepth 100000 in
theorem closed_3 (l0 l1 l2 l3 l4 l5 l6 l7 k st dg va te pa fo : Int) (v0 : 0 ≤ va) (v1 : va ≤ 65535) (w : World) :
    Calls Tryd.prog 95 #[sv l0 l1 l2 l3 l4 l5 l6 l7 3 k st dg va te pa fo] w fun e w' => e = .returned (sv l0 l1 l2 va l4 l5 l6 l7 4 k st dg va te pa fo) ∧ Grw w w' := by
  go_enter Tryd.func95, Tryd.ntmps95
  go_wp2_with fail
  try simp only [Exit.inBlock, Exit.then]
  refine bodyPost_ret (results_cell rfl rfl (by first | (refine scan_ld0 _ _ _ _ _ _ _ _ _ _ _ _ _ _ _ _ _ ?_; simp; done) | (refine scan_gld0 _ _ _ _ _ _ _ _ _ _ _ _ _ _ _ _ _ _ ?_; simp; done) | (refine scan_ld1 _ _ _ _ _ _ _ _ _ _ _ _ _ _ _ _ _ _ ?_; simp; done) | (refine scan_gld1 _ _ _ _ _ _ _ _ _ _ _ _ _ _ _ _ _ _ _ ?_; simp; done) | (refine scan_ld2 _ _ _ _ _ _ _ _ _ _ _ _ _ _ _ _ _ _ _ ?_; simp; done) | (refine scan_gld2 _ _ _ _ _ _ _ _ _ _ _ _ _ _ _ _ _ _ _ _ ?_; simp; done) | (refine scan_ld3 _ _ _ _ _ _ _ _ _ _ _ _ _ _ _ _ _ _ _ _ ?_; simp; done) | (refine scan_gld3 _ _ _ _ _ _ _ _ _ _ _ _ _ _ _ _ _ _ _ _ _ ?_; simp; done))) rfl ?_
  exact ⟨rfl, by repeat (first | exact (Grw.refl w) | refine Grw.alloc ?_ _ | refine Grw.ga ?_ _)⟩
set_option maxHeartbeats 2000000 in
set_option maxRecDepth 100000 in
theorem closed_4 (l0 l1 l2 l3 l4 l5 l6 l7 k st dg va te pa fo : Int) (v0 : 0 ≤ va) (v1 : va ≤ 65535) (w : World) :
    Calls Tryd.prog 95 #[sv l0 l1 l2 l3 l4 l5 l6 l7 4 k st dg va te pa fo] w fun e w' => e = .returned (sv l0 l1 l2 l3 va l5 l6 l7 5 k st dg va te pa fo) ∧ Grw w w' := by
  go_enter Tryd.func95, Tryd.ntmps95
  go_wp2_with fail
  try simp only [Exit.inBlock, Exit.then]
  refine bodyPost_ret (results_cell rfl rfl (by first | (refine scan_ld0 _ _ _ _ _ _ _ _ _ _ _ _ _ _ _ _ _ ?_; simp; done) | (refine scan_gld0 _ _ _ _ _ _ _ _ _ _ _ _ _ _ _ _ _ _ ?_; simp; done) | (refine scan_ld1 _ _ _ _ _ _ _ _ _ _ _ _ _ _ _ _ _ _ ?_; simp; done) | (refine scan_gld1 _ _ _ _ _ _ _ _ _ _ _ _ _ _ _ _ _ _ _ ?_; simp; done) | (refine scan_ld2 _ _ _ _ _ _ _ _ _ _ _ _ _ _ _ _ _ _ _ ?_; simp; done) | (refine scan_gld2 _ _ _ _ _ _ _ _ _ _ _ _ _ _ _ _ _ _ _ _ ?_; simp; done) | (refine scan_ld3 _ _ _ _ _ _ _ _ _ _ _ _ _ _ _ _ _ _ _ _ ?_; simp; done) | (refine scan_gld3 _ _ _ _ _ _ _ _ _ _ _ _ _ _ _ _ _ _ _ _ _ ?_; simp; done))) rfl ?_
  exact ⟨rfl, by repeat (first | exact (Grw.refl w) | refine Grw.alloc ?_ _ | refine Grw.ga ?_ _)⟩
set_option maxHeartbeats 2000000 in
set_option maxRecDepth 100000 in
theorem closed_5 (l0 l1 l2 l3 l4 l5 l6 l7 k st dg va te pa fo : Int) (v0 : 0 ≤ va) (v1 : va ≤ 65535) (w : World) :
    Calls Tryd.prog 95 #[sv l0 l1 l2 l3 l4 l5 l6 l7 5 k st dg va te pa fo] w fun e w' => e = .returned (sv l0 l1 l2 l3 l4 va l6 l7 6 k st dg va te pa fo) ∧ Grw w w' := by
  go_enter Tryd.func95, Tryd.ntmps95
  go_wp2_with fail
  try simp only [Exit.inBlock, Exit.then]
  refine bodyPost_ret (results_cell rfl rfl (by first | (refine scan_ld0 _ _ _ _ _ _ _ _ _ _ _ _ _ _ _ _ _ ?_; simp; done) | (refine scan_gld0 _ _ _ _ _ _ _ _ _ _ _ _ _ _ _ _ _ _ ?_; simp; done) | (refine scan_ld1 _ _ _ _ _ _ _ _ _ _ _ _ _ _ _ _ _ _ ?_; simp; done) | (refine scan_gld1 _ _ _ _ _ _ _ _ _ _ _ _ _ _ _ _ _ _ _ ?_; simp; done) | (refine scan_ld2 _ _ _ _ _ _ _ _ _ _ _ _ _ _ _ _ _ _ _ ?_; simp; done) | (refine scan_gld2 _ _ _ _ _ _ _ _ _ _ _ _ _ _ _ _ _ _ _ _ ?_; simp; done) | (refine scan_ld3 _ _ _ _ _ _ _ _ _ _ _ _ _ _ _ _ _ _ _ _ ?_; simp; done) | (refine scan_gld3 _ _ _ _ _ _ _ _ _ _ _ _ _ _ _ _ _ _ _ _ _ ?_; simp; done))) rfl ?_
  exact ⟨rfl, by repeat (first | exact (Grw.refl w) | refine Grw.alloc ?_ _ | refine Grw.ga ?_ _)⟩
set_option maxHeartbeats 2000000 in
set_option maxRecDepth 100000 in
theorem closed_6 (l0 l1 l2 l3 l4 l5 l6 l7 k st dg va te pa fo : Int) (v0 : 0 ≤ va) (v1 : va ≤ 65535) (w : World) :
    Calls Tryd.prog 95 #[sv l0 l1 l2 l3 l4 l5 l6 l7 6 k st dg va te pa fo] w fun e w' => e = .returned (sv l0 l1 l2 l3 l4 l5 va l7 7 k st dg va te pa fo) ∧ Grw w w' := by
  go_enter Tryd.func95, Tryd.ntmps95
  go_wp2_with fail
  try simp only [Exit.inBlock, Exit.then]
  refine bodyPost_ret (results_cell rfl rfl (by first | (refine scan_ld0 _ _ _ _ _ _ _ _ _ _ _ _ _ _ _ _ _ ?_; simp; done) | (refine scan_gld0 _ _ _ _ _ _ _ _ _ _ _ _ _ _ _ _ _ _ ?_; simp; done) | (refine scan_ld1 _ _ _ _ _ _ _ _ _ _ _ _ _ _ _ _ _ _ ?_; simp; done) | (refine scan_gld1 _ _ _ _ _ _ _ _ _ _ _ _ _ _ _ _ _ _ _ ?_; simp; done) | (refine scan_ld2 _ _ _ _ _ _ _ _ _ _ _ _ _ _ _ _ _ _ _ ?_; simp; done) | (refine scan_gld2 _ _ _ _ _ _ _ _ _ _ _ _ _ _ _ _ _ _ _ _ ?_; simp; done) | (refine scan_ld3 _ _ _ _ _ _ _ _ _ _ _ _ _ _ _ _ _ _ _ _ ?_; simp; done) | (refine scan_gld3 _ _ _ _ _ _ _ _ _ _ _ _ _ _ _ _ _ _ _ _ _ ?_; simp; done))) rfl ?_
  exact ⟨rfl, by repeat (first | exact (Grw.refl w) | refine Grw.alloc ?_ _ | refine Grw.ga ?_ _)⟩
set_option maxHeartbeats 2000000 in
set_option maxRecDepth 100000 in
theorem closed_7 (l0 l1 l2 l3 l4 l5 l6 l7 k st dg va te pa fo : Int) (v0 : 0 ≤ va) (v1 : va ≤ 65535) (w : World) :
    Calls Tryd.prog 95 #[sv l0 l1 l2 l3 l4 l5 l6 l7 7 k st dg va te pa fo] w fun e w' => e = .returned (sv l0 l1 l2 l3 l4 l5 l6 va 8 k st dg va te pa fo) ∧ Grw w w' := by
  go_enter Tryd.func95, Tryd.ntmps95
  go_wp2_with fail
  try simp only [Exit.inBlock, Exit.then]
  refine bodyPost_ret (results_cell rfl rfl (by first | (refine scan_ld0 _ _ _ _ _ _ _ _ _ _ _ _ _ _ _ _ _ ?_; simp; done) | (refine scan_gld0 _ _ _ _ _ _ _ _ _ _ _ _ _ _ _ _ _ _ ?_; simp; done) | (refine scan_ld1 _ _ _ _ _ _ _ _ _ _ _ _ _ _ _ _ _ _ ?_; simp; done) | (refine scan_gld1 _ _ _ _ _ _ _ _ _ _ _ _ _ _ _ _ _ _ _ ?_; simp; done) | (refine scan_ld2 _ _ _ _ _ _ _ _ _ _ _ _ _ _ _ _ _ _ _ ?_; simp; done) | (refine scan_gld2 _ _ _ _ _ _ _ _ _ _ _ _ _ _ _ _ _ _ _ _ ?_; simp; done) | (refine scan_ld3 _ _ _ _ _ _ _ _ _ _ _ _ _ _ _ _ _ _ _ _ ?_; simp; done) | (refine scan_gld3 _ _ _ _ _ _ _ _ _ _ _ _ _ _ _ _ _ _ _ _ _ ?_; simp; done))) rfl ?_
  exact ⟨rfl, by repeat (first | exact (Grw.refl w) | refine Grw.alloc ?_ _ | refine Grw.ga ?_ _)⟩
set_option maxHeartbeats 2000000 in
set_option maxRecDepth 100000 in
theorem first_a (l0 l1 l2 l3 l4 l5 l6 l7 N k st dg va te pa fo c : Int) (h0 : 0 ≤ c) (h1 : c < 256) (n0 : 0 ≤ N) (n1 : N ≤ 8) (x0 : -1 ≤ digV c 16) (x1 : digV c 16 ≤ 15) (hx : digV c 16 < 0) (w : World) :
    Calls Tryd.prog 93 #[sv l0 l1 l2 l3 l4 l5 l6 l7 N k st dg va te pa fo, .int .u8 c] w fun e w' => e = .returned (sv l0 l1 l2 l3 l4 l5 l6 l7 N k 7 0 0 0 pa fo) ∧ Grw w w' := by
  go_enter Tryd.func93, Tryd.ntmps93
  go_wp2_with fail
  refine (refDigit_drew c h0 h1 _).mono ?_
  rintro e w1 ⟨rfl, m1, rfl⟩
  simp only [drewN_alloc, GA_drewN, GA_GA]
  obtain ⟨u1, hu, hz, hG1⟩ := drewN_grw w m1
  rw [← hu, ← hz]
  clear hu hz
  go_wp2_with fail
  try simp only [Exit.inBlock, Exit.then]
  refine bodyPost_ret (results_cell rfl rfl (by first | (refine scan_ld0 _ _ _ _ _ _ _ _ _ _ _ _ _ _ _ _ _ ?_; simp; done) | (refine scan_gld0 _ _ _ _ _ _ _ _ _ _ _ _ _ _ _ _ _ _ ?_; simp; done) | (refine scan_ld1 _ _ _ _ _ _ _ _ _ _ _ _ _ _ _ _ _ _ ?_; simp; done) | (refine scan_gld1 _ _ _ _ _ _ _ _ _ _ _ _ _ _ _ _ _ _ _ ?_; simp; done) | (refine scan_ld2 _ _ _ _ _ _ _ _ _ _ _ _ _ _ _ _ _ _ _ ?_; simp; done) | (refine scan_gld2 _ _ _ _ _ _ _ _ _ _ _ _ _ _ _ _ _ _ _ _ ?_; simp; done) | (refine scan_ld3 _ _ _ _ _ _ _ _ _ _ _ _ _ _ _ _ _ _ _ _ ?_; simp; done) | (refine scan_gld3 _ _ _ _ _ _ _ _ _ _ _ _ _ _ _ _ _ _ _ _ _ ?_; simp; done))) rfl ?_
  exact ⟨rfl, by repeat (first | exact hG1 | refine Grw.alloc ?_ _ | refine Grw.ga ?_ _)⟩
set_option maxHeartbeats 2000000 in
set_option maxRecDepth 100000 in
theorem first_b (l0 l1 l2 l3 l4 l5 l6 l7 N k st dg va te pa fo c : Int) (h0 : 0 ≤ c) (h1 : c < 256) (n0 : 0 ≤ N) (n1 : N ≤ 8) (x0 : -1 ≤ digV c 16) (x1 : digV c 16 ≤ 15) (hx : 0 ≤ digV c 16) (r : Int) (hr : (if 0 ≤ k then 7 - N else 8 - N) = r) (r0 : r < 1) (w : World) :
    Calls Tryd.prog 93 #[sv l0 l1 l2 l3 l4 l5 l6 l7 N k st dg va te pa fo, .int .u8 c] w fun e w' => e = .returned (sv l0 l1 l2 l3 l4 l5 l6 l7 N k 7 0 0 0 pa fo) ∧ Grw w w' := by
  go_enter Tryd.func93, Tryd.ntmps93
  go_wp2_with fail
  refine (refDigit_drew c h0 h1 _).mono ?_
  rintro e w1 ⟨rfl, m1, rfl⟩
  simp only [drewN_alloc, GA_drewN, GA_GA]
  obtain ⟨u1, hu, hz, hG1⟩ := drewN_grw w m1
  rw [← hu, ← hz]
  clear hu hz
  go_wp2_with fail
  refine (room_walk _ _ _ _ _ _ _ _ _ _ _ _ _ _ _ _ n0 n1 _).mono ?_
  rintro e w2 ⟨rfl, m2, g2, rfl⟩
  rw [hr]
  simp only [drewN_alloc, GA_drewN, GA_GA]
  obtain ⟨u2, hu, hz, hG2⟩ := drewN_grw u1 m2
  rw [← hu, ← hz]
  clear hu hz
  replace hG2 : Grw w u2 := hG1.trans hG2
  have hlt : u2.heap.size < u2.heap.size + 1 + 1 := by omega
  go_wp2_with fail
  try simp only [Exit.inBlock, Exit.then]
  refine bodyPost_ret (results_cell rfl rfl (by first | (refine scan_ld0 _ _ _ _ _ _ _ _ _ _ _ _ _ _ _ _ _ ?_; simp; done) | (refine scan_gld0 _ _ _ _ _ _ _ _ _ _ _ _ _ _ _ _ _ _ ?_; simp; done) | (refine scan_ld1 _ _ _ _ _ _ _ _ _ _ _ _ _ _ _ _ _ _ ?_; simp; done) | (refine scan_gld1 _ _ _ _ _ _ _ _ _ _ _ _ _ _ _ _ _ _ _ ?_; simp; done) | (refine scan_ld2 _ _ _ _ _ _ _ _ _ _ _ _ _ _ _ _ _ _ _ ?_; simp; done) | (refine scan_gld2 _ _ _ _ _ _ _ _ _ _ _ _ _ _ _ _ _ _ _ _ ?_; simp; done) | (refine scan_ld3 _ _ _ _ _ _ _ _ _ _ _ _ _ _ _ _ _ _ _ _ ?_; simp; done) | (refine scan_gld3 _ _ _ _ _ _ _ _ _ _ _ _ _ _ _ _ _ _ _ _ _ ?_; simp; done))) rfl ?_
  exact ⟨rfl, by repeat (first | exact hG2 | refine Grw.alloc ?_ _ | refine Grw.ga ?_ _)⟩
/-- What a digit more says to the base 10. -/
def tenM (dg te c : Int) : Int := if c < 48 ∨ 57 < c ∨ (0 < dg ∧ te = 0) ∨ te < 0 ∨ 255 < 10 * te + (c - 48) then -1 else 10 * te + (c - 48)
theorem more_walk (l0 l1 l2 l3 l4 l5 l6 l7 N k st dg va te pa fo c : Int) (h0 : 0 ≤ c) (h1 : c < 256) (d0 : 0 ≤ dg) (d1 : dg ≤ 100) (v0 : 0 ≤ va) (v1 : va ≤ 65535) (x0 : -1 ≤ digV c 16) (x1 : digV c 16 ≤ 15) (t0 : -1 ≤ te) (t1 : te ≤ 255) (w : World) :
    Calls Tryd.prog 94 #[sv l0 l1 l2 l3 l4 l5 l6 l7 N k st dg va te pa fo, .int .u8 c] w fun e w' => e = .returned (sv l0 l1 l2 l3 l4 l5 l6 l7 N k st (dg + 1) (16 * va + digV c 16) (tenM dg te c) pa fo) ∧ Grw w w' := by
  unfold tenM
  by_cases ha : c < 48
  · rw [if_pos (by omega)]
    exact more_a l0 l1 l2 l3 l4 l5 l6 l7 N k st dg va te pa fo c h0 h1 d0 d1 v0 v1 x0 x1 t0 t1 ha w
  by_cases hb : 57 < c
  · rw [if_pos (by omega)]
    exact more_b l0 l1 l2 l3 l4 l5 l6 l7 N k st dg va te pa fo c h0 h1 d0 d1 v0 v1 x0 x1 t0 t1 hb w
  by_cases ht : te < 0
  · rw [if_pos (by omega)]
    exact more_d l0 l1 l2 l3 l4 l5 l6 l7 N k st dg va te pa fo c h0 h1 d0 d1 v0 v1 x0 x1 t0 t1 (by omega) (by omega) ht w
  by_cases hz : te = 0
  · by_cases hd : 0 < dg
    · rw [if_pos (by omega)]
      exact more_c l0 l1 l2 l3 l4 l5 l6 l7 N k st dg va te pa fo c h0 h1 d0 d1 v0 v1 x0 x1 t0 t1 (by omega) (by omega) hd hz w
    · rw [if_neg (by omega)]
      obtain rfl : dg = 0 := by omega
      subst hz
      rw [show 10 * (0 : Int) + (c - 48) = c - 48 by omega, show (0 : Int) + 1 = 1 from rfl]
      exact more_g l0 l1 l2 l3 l4 l5 l6 l7 N k st 0 va 0 pa fo c h0 h1 d0 d1 v0 v1 x0 x1 t0 t1 (by omega) (by omega) rfl rfl w
  · by_cases hm : 255 < 10 * te + (c - 48)
    · rw [if_pos (by omega)]
      exact more_e l0 l1 l2 l3 l4 l5 l6 l7 N k st dg va te pa fo c h0 h1 d0 d1 v0 v1 x0 x1 t0 t1 (by omega) (by omega) (by omega) hm w
    · rw [if_neg (by omega)]
      exact more_f l0 l1 l2 l3 l4 l5 l6 l7 N k st dg va te pa fo c h0 h1 d0 d1 v0 v1 x0 x1 t0 t1 (by omega) (by omega) (by omega) (by omega) (decide_eq_false hm) (beq_eq_false_iff_ne.2 hz) w
/-- A piece more. -/
def cl (n i l v : Int) : Int := if i = n then v else l
theorem cl_eq {va : Int} (v0 : 0 ≤ va) (v1 : va ≤ 65535) (N : Int) (i l : Int) : cl N i l va = if i = N then va % 65536 else l := by
  unfold cl
  rw [Int.emod_eq_of_lt v0 (by omega)]
theorem closed_walk (l0 l1 l2 l3 l4 l5 l6 l7 N k st dg va te pa fo : Int) (n0 : 0 ≤ N) (n7 : N ≤ 7) (v0 : 0 ≤ va) (v1 : va ≤ 65535) (w : World) :
    Calls Tryd.prog 95 #[sv l0 l1 l2 l3 l4 l5 l6 l7 N k st dg va te pa fo] w fun e w' => e = .returned (sv (cl N 0 l0 va) (cl N 1 l1 va) (cl N 2 l2 va) (cl N 3 l3 va) (cl N 4 l4 va) (cl N 5 l5 va) (cl N 6 l6 va) (cl N 7 l7 va) (N + 1) k st dg va te pa fo) ∧ Grw w w' := by
  have hN : N = 0 ∨ N = 1 ∨ N = 2 ∨ N = 3 ∨ N = 4 ∨ N = 5 ∨ N = 6 ∨ N = 7 := by omega
  rcases hN with rfl | rfl | rfl | rfl | rfl | rfl | rfl | rfl
  · exact closed_0 l0 l1 l2 l3 l4 l5 l6 l7 k st dg va te pa fo v0 v1 w
  · exact closed_1 l0 l1 l2 l3 l4 l5 l6 l7 k st dg va te pa fo v0 v1 w
  · exact closed_2 l0 l1 l2 l3 l4 l5 l6 l7 k st dg va te pa fo v0 v1 w
  · exact closed_3 l0 l1 l2 l3 l4 l5 l6 l7 k st dg va te pa fo v0 v1 w
  · exact closed_4 l0 l1 l2 l3 l4 l5 l6 l7 k st dg va te pa fo v0 v1 w
  · exact closed_5 l0 l1 l2 l3 l4 l5 l6 l7 k st dg va te pa fo v0 v1 w
  · exact closed_6 l0 l1 l2 l3 l4 l5 l6 l7 k st dg va te pa fo v0 v1 w
  · exact closed_7 l0 l1 l2 l3 l4 l5 l6 l7 k st dg va te pa fo v0 v1 w
theorem dotted_walk (l0 l1 l2 l3 l4 l5 l6 l7 N k st dg va te pa fo : Int) (w : World) :
    Calls Tryd.prog 96 #[sv l0 l1 l2 l3 l4 l5 l6 l7 N k st dg va te pa fo] w fun e w' => e = .returned (if te < 0 ∨ ¬ (N = 6 ∧ k < 0 ∨ N ≤ 5 ∧ 0 ≤ k) then sv l0 l1 l2 l3 l4 l5 l6 l7 N k 7 dg va te pa fo else sv l0 l1 l2 l3 l4 l5 l6 l7 N k 5 dg va te 1 te) ∧ Grw w w' := by
  by_cases ht : te < 0
  · rw [if_pos (.inl ht)]
    by_cases h6 : 6 < N
    · exact dotted_e l0 l1 l2 l3 l4 l5 l6 l7 N k st dg va te pa fo ht h6 w
    · by_cases hk : 0 ≤ k
      · by_cases hN : N = 6
        · subst hN; exact dotted_c l0 l1 l2 l3 l4 l5 l6 l7 6 k st dg va te pa fo ht rfl hk w
        · exact dotted_a l0 l1 l2 l3 l4 l5 l6 l7 N k st dg va te pa fo ht (by omega) hk w
      · by_cases hN : N = 6
        · subst hN; exact dotted_d l0 l1 l2 l3 l4 l5 l6 l7 6 k st dg va te pa fo ht rfl (by omega) w
        · exact dotted_b l0 l1 l2 l3 l4 l5 l6 l7 N k st dg va te pa fo ht (by omega) (by omega) w
  · by_cases h6 : 6 < N
    · rw [if_pos (by omega)]
      exact dotted_j l0 l1 l2 l3 l4 l5 l6 l7 N k st dg va te pa fo (by omega) h6 w
    · by_cases hk : 0 ≤ k
      · by_cases hN : N = 6
        · rw [if_pos (by omega)]
          subst hN; exact dotted_h l0 l1 l2 l3 l4 l5 l6 l7 6 k st dg va te pa fo (by omega) rfl hk (decide_eq_false (by omega)) w
        · rw [if_neg (by omega)]
          exact dotted_f l0 l1 l2 l3 l4 l5 l6 l7 N k st dg va te pa fo (by omega) (by omega) hk w
      · by_cases hN : N = 6
        · rw [if_neg (by omega)]
          subst hN; exact dotted_i l0 l1 l2 l3 l4 l5 l6 l7 6 k st dg va te pa fo (by omega) rfl (by omega) w
        · rw [if_pos (by omega)]
          exact dotted_g l0 l1 l2 l3 l4 l5 l6 l7 N k st dg va te pa fo (by omega) (by omega) (by omega) (decide_eq_false (by omega)) w
set_option maxHeartbeats 2000000 in
set_option maxRecDepth 100000 in
theorem first_c (l0 l1 l2 l3 l4 l5 l6 l7 N k st dg va te pa fo c : Int) (h0 : 0 ≤ c) (h1 : c < 256) (n0 : 0 ≤ N) (n1 : N ≤ 8) (x0 : -1 ≤ digV c 16) (x1 : digV c 16 ≤ 15) (hx : 0 ≤ digV c 16) (r : Int) (hr : (if 0 ≤ k then 7 - N else 8 - N) = r) (r0 : 1 ≤ r) (w : World) :
    Calls Tryd.prog 93 #[sv l0 l1 l2 l3 l4 l5 l6 l7 N k st dg va te pa fo, .int .u8 c] w fun e w' => e = .returned (sv l0 l1 l2 l3 l4 l5 l6 l7 N k 4 1 (digV c 16) (tenM 0 0 c) pa fo) ∧ Grw w w' := by
  go_enter Tryd.func93, Tryd.ntmps93
  go_wp2_with fail
  refine (refDigit_drew c h0 h1 _).mono ?_
  rintro e w1 ⟨rfl, m1, rfl⟩
  simp only [drewN_alloc, GA_drewN, GA_GA]
  obtain ⟨u1, hu, hz, hG1⟩ := drewN_grw w m1
  rw [← hu, ← hz]
  clear hu hz
  go_wp2_with fail
  refine (room_walk _ _ _ _ _ _ _ _ _ _ _ _ _ _ _ _ n0 n1 _).mono ?_
  rintro e w2 ⟨rfl, m2, g2, rfl⟩
  rw [hr]
  simp only [drewN_alloc, GA_drewN, GA_GA]
  obtain ⟨u2, hu, hz, hG2⟩ := drewN_grw u1 m2
  rw [← hu, ← hz]
  clear hu hz
  replace hG2 : Grw w u2 := hG1.trans hG2
  have hlt : u2.heap.size < u2.heap.size + 1 + 1 := by omega
  go_wp2_with fail
  refine (more_walk _ _ _ _ _ _ _ _ _ _ _ _ _ _ _ _ _ h0 h1 (by decide) (by decide) (by decide) (by decide) x0 x1 (by decide) (by decide) _).mono ?_
  rintro e w3 ⟨rfl, m3, g3, rfl⟩
  rw [show (0 : Int) + 1 = 1 from rfl, show 16 * (0 : Int) + digV c 16 = digV c 16 by omega]
  simp only [drewN_alloc, GA_drewN, GA_GA]
  obtain ⟨u3, hu, hz, hG3⟩ := drewN_grw u2 m3
  rw [← hu, ← hz]
  clear hu hz
  replace hG3 : Grw w u3 := hG2.trans hG3
  have hlt : u3.heap.size < u3.heap.size + 1 + 1 := by omega
  go_wp2_with fail
  try simp only [Exit.inBlock, Exit.then]
  refine bodyPost_ret (results_cell rfl rfl (by first | (refine scan_ld0 _ _ _ _ _ _ _ _ _ _ _ _ _ _ _ _ _ ?_; simp; done) | (refine scan_gld0 _ _ _ _ _ _ _ _ _ _ _ _ _ _ _ _ _ _ ?_; simp; done) | (refine scan_ld1 _ _ _ _ _ _ _ _ _ _ _ _ _ _ _ _ _ _ ?_; simp; done) | (refine scan_gld1 _ _ _ _ _ _ _ _ _ _ _ _ _ _ _ _ _ _ _ ?_; simp; done) | (refine scan_ld2 _ _ _ _ _ _ _ _ _ _ _ _ _ _ _ _ _ _ _ ?_; simp; done) | (refine scan_gld2 _ _ _ _ _ _ _ _ _ _ _ _ _ _ _ _ _ _ _ _ ?_; simp; done) | (refine scan_ld3 _ _ _ _ _ _ _ _ _ _ _ _ _ _ _ _ _ _ _ _ ?_; simp; done) | (refine scan_gld3 _ _ _ _ _ _ _ _ _ _ _ _ _ _ _ _ _ _ _ _ _ ?_; simp; done))) rfl ?_
  exact ⟨rfl, by repeat (first | exact hG3 | refine Grw.alloc ?_ _ | refine Grw.ga ?_ _)⟩
theorem first_walk (l0 l1 l2 l3 l4 l5 l6 l7 N k st dg va te pa fo c : Int) (h0 : 0 ≤ c) (h1 : c < 256) (n0 : 0 ≤ N) (n1 : N ≤ 8) (x0 : -1 ≤ digV c 16) (x1 : digV c 16 ≤ 15) (w : World) :
    Calls Tryd.prog 93 #[sv l0 l1 l2 l3 l4 l5 l6 l7 N k st dg va te pa fo, .int .u8 c] w fun e w' => e = .returned (if digV c 16 < 0 ∨ (if 0 ≤ k then 7 - N else 8 - N) < 1 then sv l0 l1 l2 l3 l4 l5 l6 l7 N k 7 0 0 0 pa fo else sv l0 l1 l2 l3 l4 l5 l6 l7 N k 4 1 (digV c 16) (tenM 0 0 c) pa fo) ∧ Grw w w' := by
  by_cases hx : digV c 16 < 0
  · rw [if_pos (.inl hx)]
    exact first_a l0 l1 l2 l3 l4 l5 l6 l7 N k st dg va te pa fo c h0 h1 n0 n1 x0 x1 hx w
  · by_cases hr : (if 0 ≤ k then 7 - N else 8 - N) < 1
    · rw [if_pos (.inr hr)]
      exact first_b l0 l1 l2 l3 l4 l5 l6 l7 N k st dg va te pa fo c h0 h1 n0 n1 x0 x1 (by omega) _ rfl hr w
    · rw [if_neg (by rintro (q | q); exact hx q; exact hr q)]
      exact first_c l0 l1 l2 l3 l4 l5 l6 l7 N k st dg va te pa fo c h0 h1 n0 n1 x0 x1 (by omega) _ rfl (by omega) w
end Go.Proofs.YtcgdjnmfeibnoaaDoor
/-! SixStep -/
namespace Go.Proofs.YtcgdjnmfeibnoaaDoor
open Go.RowKit Go.Proofs.YtcgdjnmfeibnoaaDoorW.PrintWords Go.Proofs.YtcgdjnmfeibnoaaDoor.X
set_option linter.unusedVariables false
set_option linter.unusedSimpArgs false
set_option maxHeartbeats 2000000 in
set_option maxRecDepth 100000 in
theorem step_0c (l0 l1 l2 l3 l4 l5 l6 l7 N k dg va te pa fo c : Int) (h0 : 0 ≤ c) (h1 : c < 256) (hc : c = 58) (w : World) :
    Calls Tryd.prog 47 #[sv l0 l1 l2 l3 l4 l5 l6 l7 N k 0 dg va te pa fo, .int .u8 c] w fun e w' => e = .returned (sv l0 l1 l2 l3 l4 l5 l6 l7 N k 1 dg va te pa fo) ∧ Grw w w' := by
  subst hc
  go_enter Tryd.func47, Tryd.ntmps47
  go_wp2_with fail
  refine (refDigit_drew 58 h0 h1 _).mono ?_
  rintro e w1 ⟨rfl, m1, rfl⟩
  simp only [drewN_alloc, GA_drewN, GA_GA]
  obtain ⟨u1, hu, hz, hG1⟩ := drewN_grw w m1
  rw [← hu, ← hz]
  clear hu hz
  go_wp2_with fail
  try simp only [Exit.inBlock, Exit.then]
  refine bodyPost_ret (results_cell rfl rfl (by first | (refine scan_ld0 _ _ _ _ _ _ _ _ _ _ _ _ _ _ _ _ _ ?_; simp; done) | (refine scan_gld0 _ _ _ _ _ _ _ _ _ _ _ _ _ _ _ _ _ _ ?_; simp; done) | (refine scan_ld1 _ _ _ _ _ _ _ _ _ _ _ _ _ _ _ _ _ _ ?_; simp; done) | (refine scan_gld1 _ _ _ _ _ _ _ _ _ _ _ _ _ _ _ _ _ _ _ ?_; simp; done) | (refine scan_ld2 _ _ _ _ _ _ _ _ _ _ _ _ _ _ _ _ _ _ _ ?_; simp; done) | (refine scan_gld2 _ _ _ _ _ _ _ _ _ _ _ _ _ _ _ _ _ _ _ _ ?_; simp; done) | (refine scan_ld3 _ _ _ _ _ _ _ _ _ _ _ _ _ _ _ _ _ _ _ _ ?_; simp; done) | (refine scan_gld3 _ _ _ _ _ _ _ _ _ _ _ _ _ _ _ _ _ _ _ _ _ ?_; simp; done))) rfl ?_
  exact ⟨rfl, by repeat (first | exact hG1 | refine Grw.alloc ?_ _ | refine Grw.ga ?_ _)⟩
set_option maxHeartbeats 2000000 in
set_option maxRecDepth 100000 in
theorem step_0n (l0 l1 l2 l3 l4 l5 l6 l7 N k dg va te pa fo c : Int) (h0 : 0 ≤ c) (h1 : c < 256) (n0 : 0 ≤ N) (n7 : N ≤ 7) (x0 : -1 ≤ digV c 16) (x1 : digV c 16 ≤ 15) (hc : (c == 58) = false) (hf : (digV c 16 < 0 ∨ (if 0 ≤ k then 7 - N else 8 - N) < 1)) (w : World) :
    Calls Tryd.prog 47 #[sv l0 l1 l2 l3 l4 l5 l6 l7 N k 0 dg va te pa fo, .int .u8 c] w fun e w' => e = .returned (sv l0 l1 l2 l3 l4 l5 l6 l7 N k 7 0 0 0 pa fo) ∧ Grw w w' := by
  go_enter Tryd.func47, Tryd.ntmps47
  go_wp2_with fail
  refine (refDigit_drew c h0 h1 _).mono ?_
  rintro e w1 ⟨rfl, m1, rfl⟩
  simp only [drewN_alloc, GA_drewN, GA_GA]
  obtain ⟨u1, hu, hz, hG1⟩ := drewN_grw w m1
  rw [← hu, ← hz]
  clear hu hz
  go_wp2_with fail
  refine (first_walk _ _ _ _ _ _ _ _ _ _ _ _ _ _ _ _ c h0 h1 n0 (by omega) x0 x1 _).mono ?_
  rintro e w2 ⟨rfl, m2, g2, rfl⟩
  rw [if_pos hf]
  simp only [drewN_alloc, GA_drewN, GA_GA]
  obtain ⟨u2, hu, hz, hG2⟩ := drewN_grw u1 m2
  rw [← hu, ← hz]
  clear hu hz
  replace hG2 : Grw w u2 := hG1.trans hG2
  have q1_ : u2.heap.size < u2.heap.size + 1 + 1 + 1 := by omega
  have q2_ : u2.heap.size < u2.heap.size + 1 + 1 := by omega
  have q3_ : u2.heap.size < u2.heap.size + 1 := by omega
  go_wp2_with fail
  try simp only [Exit.inBlock, Exit.then]
  refine bodyPost_ret (results_cell rfl rfl (by first | (refine scan_ld0 _ _ _ _ _ _ _ _ _ _ _ _ _ _ _ _ _ ?_; simp; done) | (refine scan_gld0 _ _ _ _ _ _ _ _ _ _ _ _ _ _ _ _ _ _ ?_; simp; done) | (refine scan_ld1 _ _ _ _ _ _ _ _ _ _ _ _ _ _ _ _ _ _ ?_; simp; done) | (refine scan_gld1 _ _ _ _ _ _ _ _ _ _ _ _ _ _ _ _ _ _ _ ?_; simp; done) | (refine scan_ld2 _ _ _ _ _ _ _ _ _ _ _ _ _ _ _ _ _ _ _ ?_; simp; done) | (refine scan_gld2 _ _ _ _ _ _ _ _ _ _ _ _ _ _ _ _ _ _ _ _ ?_; simp; done) | (refine scan_ld3 _ _ _ _ _ _ _ _ _ _ _ _ _ _ _ _ _ _ _ _ ?_; simp; done) | (refine scan_gld3 _ _ _ _ _ _ _ _ _ _ _ _ _ _ _ _ _ _ _ _ _ ?_; simp; done))) rfl ?_
  exact ⟨rfl, by repeat (first | exact hG2 | refine Grw.alloc ?_ _ | refine Grw.ga ?_ _)⟩
set_option maxHeartbeats 2000000 in
set_option maxRecDepth 100000 in
theorem step_0y (l0 l1 l2 l3 l4 l5 l6 l7 N k dg va te pa fo c : Int) (h0 : 0 ≤ c) (h1 : c < 256) (n0 : 0 ≤ N) (n7 : N ≤ 7) (x0 : -1 ≤ digV c 16) (x1 : digV c 16 ≤ 15) (hc : (c == 58) = false) (hf : ¬ (digV c 16 < 0 ∨ (if 0 ≤ k then 7 - N else 8 - N) < 1)) (w : World) :
    Calls Tryd.prog 47 #[sv l0 l1 l2 l3 l4 l5 l6 l7 N k 0 dg va te pa fo, .int .u8 c] w fun e w' => e = .returned (sv l0 l1 l2 l3 l4 l5 l6 l7 N k 4 1 (digV c 16) (tenM 0 0 c) pa fo) ∧ Grw w w' := by
  go_enter Tryd.func47, Tryd.ntmps47
  go_wp2_with fail
  refine (refDigit_drew c h0 h1 _).mono ?_
  rintro e w1 ⟨rfl, m1, rfl⟩
  simp only [drewN_alloc, GA_drewN, GA_GA]
  obtain ⟨u1, hu, hz, hG1⟩ := drewN_grw w m1
  rw [← hu, ← hz]
  clear hu hz
  go_wp2_with fail
  refine (first_walk _ _ _ _ _ _ _ _ _ _ _ _ _ _ _ _ c h0 h1 n0 (by omega) x0 x1 _).mono ?_
  rintro e w2 ⟨rfl, m2, g2, rfl⟩
  rw [if_neg hf]
  simp only [drewN_alloc, GA_drewN, GA_GA]
  obtain ⟨u2, hu, hz, hG2⟩ := drewN_grw u1 m2
  rw [← hu, ← hz]
  clear hu hz
  replace hG2 : Grw w u2 := hG1.trans hG2
  have q1_ : u2.heap.size < u2.heap.size + 1 + 1 + 1 := by omega
  have q2_ : u2.heap.size < u2.heap.size + 1 + 1 := by omega
  have q3_ : u2.heap.size < u2.heap.size + 1 := by omega
  go_wp2_with fail
  try simp only [Exit.inBlock, Exit.then]
  refine bodyPost_ret (results_cell rfl rfl (by first | (refine scan_ld0 _ _ _ _ _ _ _ _ _ _ _ _ _ _ _ _ _ ?_; simp; done) | (refine scan_gld0 _ _ _ _ _ _ _ _ _ _ _ _ _ _ _ _ _ _ ?_; simp; done) | (refine scan_ld1 _ _ _ _ _ _ _ _ _ _ _ _ _ _ _ _ _ _ ?_; simp; done) | (refine scan_gld1 _ _ _ _ _ _ _ _ _ _ _ _ _ _ _ _ _ _ _ ?_; simp; done) | (refine scan_ld2 _ _ _ _ _ _ _ _ _ _ _ _ _ _ _ _ _ _ _ ?_; simp; done) | (refine scan_gld2 _ _ _ _ _ _ _ _ _ _ _ _ _ _ _ _ _ _ _ _ ?_; simp; done) | (refine scan_ld3 _ _ _ _ _ _ _ _ _ _ _ _ _ _ _ _ _ _ _ _ ?_; simp; done) | (refine scan_gld3 _ _ _ _ _ _ _ _ _ _ _ _ _ _ _ _ _ _ _ _ _ ?_; simp; done))) rfl ?_
  exact ⟨rfl, by repeat (first | exact hG2 | refine Grw.alloc ?_ _ | refine Grw.ga ?_ _)⟩
set_option maxHeartbeats 2000000 in
set_option maxRecDepth 100000 in
theorem step_1c (l0 l1 l2 l3 l4 l5 l6 l7 N k dg va te pa fo c : Int) (h0 : 0 ≤ c) (h1 : c < 256) (hc : c = 58) (w : World) :
    Calls Tryd.prog 47 #[sv l0 l1 l2 l3 l4 l5 l6 l7 N k 1 dg va te pa fo, .int .u8 c] w fun e w' => e = .returned (sv l0 l1 l2 l3 l4 l5 l6 l7 N 0 3 dg va te pa fo) ∧ Grw w w' := by
  subst hc
  go_enter Tryd.func47, Tryd.ntmps47
  go_wp2_with fail
  refine (refDigit_drew 58 h0 h1 _).mono ?_
  rintro e w1 ⟨rfl, m1, rfl⟩
  simp only [drewN_alloc, GA_drewN, GA_GA]
  obtain ⟨u1, hu, hz, hG1⟩ := drewN_grw w m1
  rw [← hu, ← hz]
  clear hu hz
  go_wp2_with fail
  try simp only [Exit.inBlock, Exit.then]
  refine bodyPost_ret (results_cell rfl rfl (by first | (refine scan_ld0 _ _ _ _ _ _ _ _ _ _ _ _ _ _ _ _ _ ?_; simp; done) | (refine scan_gld0 _ _ _ _ _ _ _ _ _ _ _ _ _ _ _ _ _ _ ?_; simp; done) | (refine scan_ld1 _ _ _ _ _ _ _ _ _ _ _ _ _ _ _ _ _ _ ?_; simp; done) | (refine scan_gld1 _ _ _ _ _ _ _ _ _ _ _ _ _ _ _ _ _ _ _ ?_; simp; done) | (refine scan_ld2 _ _ _ _ _ _ _ _ _ _ _ _ _ _ _ _ _ _ _ ?_; simp; done) | (refine scan_gld2 _ _ _ _ _ _ _ _ _ _ _ _ _ _ _ _ _ _ _ _ ?_; simp; done) | (refine scan_ld3 _ _ _ _ _ _ _ _ _ _ _ _ _ _ _ _ _ _ _ _ ?_; simp; done) | (refine scan_gld3 _ _ _ _ _ _ _ _ _ _ _ _ _ _ _ _ _ _ _ _ _ ?_; simp; done))) rfl ?_
  exact ⟨rfl, by repeat (first | exact hG1 | refine Grw.alloc ?_ _ | refine Grw.ga ?_ _)⟩
set_option maxHeartbeats 2000000 in
set_option maxRecDepth 100000 in
theorem step_1 (l0 l1 l2 l3 l4 l5 l6 l7 N k dg va te pa fo c : Int) (h0 : 0 ≤ c) (h1 : c < 256) (hc : (c == 58) = false) (w : World) :
    Calls Tryd.prog 47 #[sv l0 l1 l2 l3 l4 l5 l6 l7 N k 1 dg va te pa fo, .int .u8 c] w fun e w' => e = .returned (sv l0 l1 l2 l3 l4 l5 l6 l7 N k 7 dg va te pa fo) ∧ Grw w w' := by
  go_enter Tryd.func47, Tryd.ntmps47
  go_wp2_with fail
  refine (refDigit_drew c h0 h1 _).mono ?_
  rintro e w1 ⟨rfl, m1, rfl⟩
  simp only [drewN_alloc, GA_drewN, GA_GA]
  obtain ⟨u1, hu, hz, hG1⟩ := drewN_grw w m1
  rw [← hu, ← hz]
  clear hu hz
  go_wp2_with fail
  try simp only [Exit.inBlock, Exit.then]
  refine bodyPost_ret (results_cell rfl rfl (by first | (refine scan_ld0 _ _ _ _ _ _ _ _ _ _ _ _ _ _ _ _ _ ?_; simp; done) | (refine scan_gld0 _ _ _ _ _ _ _ _ _ _ _ _ _ _ _ _ _ _ ?_; simp; done) | (refine scan_ld1 _ _ _ _ _ _ _ _ _ _ _ _ _ _ _ _ _ _ ?_; simp; done) | (refine scan_gld1 _ _ _ _ _ _ _ _ _ _ _ _ _ _ _ _ _ _ _ ?_; simp; done) | (refine scan_ld2 _ _ _ _ _ _ _ _ _ _ _ _ _ _ _ _ _ _ _ ?_; simp; done) | (refine scan_gld2 _ _ _ _ _ _ _ _ _ _ _ _ _ _ _ _ _ _ _ _ ?_; simp; done) | (refine scan_ld3 _ _ _ _ _ _ _ _ _ _ _ _ _ _ _ _ _ _ _ _ ?_; simp; done) | (refine scan_gld3 _ _ _ _ _ _ _ _ _ _ _ _ _ _ _ _ _ _ _ _ _ ?_; simp; done))) rfl ?_
  exact ⟨rfl, by repeat (first | exact hG1 | refine Grw.alloc ?_ _ | refine Grw.ga ?_ _)⟩
set_option maxHeartbeats 2000000 in
set_option maxRecDepth 100000 in
theorem step_2c (l0 l1 l2 l3 l4 l5 l6 l7 N k dg va te pa fo c : Int) (h0 : 0 ≤ c) (h1 : c < 256) (hk : k < 0) (n7 : N ≤ 7) (hc : c = 58) (w : World) :
    Calls Tryd.prog 47 #[sv l0 l1 l2 l3 l4 l5 l6 l7 N k 2 dg va te pa fo, .int .u8 c] w fun e w' => e = .returned (sv l0 l1 l2 l3 l4 l5 l6 l7 N N 3 dg va te pa fo) ∧ Grw w w' := by
  subst hc
  go_enter Tryd.func47, Tryd.ntmps47
  go_wp2_with fail
  refine (refDigit_drew 58 h0 h1 _).mono ?_
  rintro e w1 ⟨rfl, m1, rfl⟩
  simp only [drewN_alloc, GA_drewN, GA_GA]
  obtain ⟨u1, hu, hz, hG1⟩ := drewN_grw w m1
  rw [← hu, ← hz]
  clear hu hz
  go_wp2_with fail
  try simp only [Exit.inBlock, Exit.then]
  refine bodyPost_ret (results_cell rfl rfl (by first | (refine scan_ld0 _ _ _ _ _ _ _ _ _ _ _ _ _ _ _ _ _ ?_; simp; done) | (refine scan_gld0 _ _ _ _ _ _ _ _ _ _ _ _ _ _ _ _ _ _ ?_; simp; done) | (refine scan_ld1 _ _ _ _ _ _ _ _ _ _ _ _ _ _ _ _ _ _ ?_; simp; done) | (refine scan_gld1 _ _ _ _ _ _ _ _ _ _ _ _ _ _ _ _ _ _ _ ?_; simp; done) | (refine scan_ld2 _ _ _ _ _ _ _ _ _ _ _ _ _ _ _ _ _ _ _ ?_; simp; done) | (refine scan_gld2 _ _ _ _ _ _ _ _ _ _ _ _ _ _ _ _ _ _ _ _ ?_; simp; done) | (refine scan_ld3 _ _ _ _ _ _ _ _ _ _ _ _ _ _ _ _ _ _ _ _ ?_; simp; done) | (refine scan_gld3 _ _ _ _ _ _ _ _ _ _ _ _ _ _ _ _ _ _ _ _ _ ?_; simp; done))) rfl ?_
  exact ⟨rfl, by repeat (first | exact hG1 | refine Grw.alloc ?_ _ | refine Grw.ga ?_ _)⟩
set_option maxHeartbeats 2000000 in
set_option maxRecDepth 100000 in
theorem step_2gn (l0 l1 l2 l3 l4 l5 l6 l7 N k dg va te pa fo c : Int) (h0 : 0 ≤ c) (h1 : c < 256) (n0 : 0 ≤ N) (n7 : N ≤ 7) (x0 : -1 ≤ digV c 16) (x1 : digV c 16 ≤ 15) (hk : 0 ≤ k) (hc : (c == 58) = true) (hf : (digV c 16 < 0 ∨ (if 0 ≤ k then 7 - N else 8 - N) < 1)) (w : World) :
    Calls Tryd.prog 47 #[sv l0 l1 l2 l3 l4 l5 l6 l7 N k 2 dg va te pa fo, .int .u8 c] w fun e w' => e = .returned (sv l0 l1 l2 l3 l4 l5 l6 l7 N k 7 0 0 0 pa fo) ∧ Grw w w' := by
  go_enter Tryd.func47, Tryd.ntmps47
  go_wp2_with fail
  refine (refDigit_drew c h0 h1 _).mono ?_
  rintro e w1 ⟨rfl, m1, rfl⟩
  simp only [drewN_alloc, GA_drewN, GA_GA]
  obtain ⟨u1, hu, hz, hG1⟩ := drewN_grw w m1
  rw [← hu, ← hz]
  clear hu hz
  go_wp2_with fail
  refine (first_walk _ _ _ _ _ _ _ _ _ _ _ _ _ _ _ _ c h0 h1 n0 (by omega) x0 x1 _).mono ?_
  rintro e w2 ⟨rfl, m2, g2, rfl⟩
  rw [if_pos hf]
  simp only [drewN_alloc, GA_drewN, GA_GA]
  obtain ⟨u2, hu, hz, hG2⟩ := drewN_grw u1 m2
  rw [← hu, ← hz]
  clear hu hz
  replace hG2 : Grw w u2 := hG1.trans hG2
  have q1_ : u2.heap.size < u2.heap.size + 1 + 1 + 1 := by omega
  have q2_ : u2.heap.size < u2.heap.size + 1 + 1 := by omega
  have q3_ : u2.heap.size < u2.heap.size + 1 := by omega
  go_wp2_with fail
  try simp only [Exit.inBlock, Exit.then]
  refine bodyPost_ret (results_cell rfl rfl (by first | (refine scan_ld0 _ _ _ _ _ _ _ _ _ _ _ _ _ _ _ _ _ ?_; simp; done) | (refine scan_gld0 _ _ _ _ _ _ _ _ _ _ _ _ _ _ _ _ _ _ ?_; simp; done) | (refine scan_ld1 _ _ _ _ _ _ _ _ _ _ _ _ _ _ _ _ _ _ ?_; simp; done) | (refine scan_gld1 _ _ _ _ _ _ _ _ _ _ _ _ _ _ _ _ _ _ _ ?_; simp; done) | (refine scan_ld2 _ _ _ _ _ _ _ _ _ _ _ _ _ _ _ _ _ _ _ ?_; simp; done) | (refine scan_gld2 _ _ _ _ _ _ _ _ _ _ _ _ _ _ _ _ _ _ _ _ ?_; simp; done) | (refine scan_ld3 _ _ _ _ _ _ _ _ _ _ _ _ _ _ _ _ _ _ _ _ ?_; simp; done) | (refine scan_gld3 _ _ _ _ _ _ _ _ _ _ _ _ _ _ _ _ _ _ _ _ _ ?_; simp; done))) rfl ?_
  exact ⟨rfl, by repeat (first | exact hG2 | refine Grw.alloc ?_ _ | refine Grw.ga ?_ _)⟩
set_option maxHeartbeats 2000000 in
set_option maxRecDepth 100000 in
theorem step_2n (l0 l1 l2 l3 l4 l5 l6 l7 N k dg va te pa fo c : Int) (h0 : 0 ≤ c) (h1 : c < 256) (n0 : 0 ≤ N) (n7 : N ≤ 7) (x0 : -1 ≤ digV c 16) (x1 : digV c 16 ≤ 15) (hc : (c == 58) = false) (hf : (digV c 16 < 0 ∨ (if 0 ≤ k then 7 - N else 8 - N) < 1)) (w : World) :
    Calls Tryd.prog 47 #[sv l0 l1 l2 l3 l4 l5 l6 l7 N k 2 dg va te pa fo, .int .u8 c] w fun e w' => e = .returned (sv l0 l1 l2 l3 l4 l5 l6 l7 N k 7 0 0 0 pa fo) ∧ Grw w w' := by
  go_enter Tryd.func47, Tryd.ntmps47
  go_wp2_with fail
  refine (refDigit_drew c h0 h1 _).mono ?_
  rintro e w1 ⟨rfl, m1, rfl⟩
  simp only [drewN_alloc, GA_drewN, GA_GA]
  obtain ⟨u1, hu, hz, hG1⟩ := drewN_grw w m1
  rw [← hu, ← hz]
  clear hu hz
  go_wp2_with fail
  refine (first_walk _ _ _ _ _ _ _ _ _ _ _ _ _ _ _ _ c h0 h1 n0 (by omega) x0 x1 _).mono ?_
  rintro e w2 ⟨rfl, m2, g2, rfl⟩
  rw [if_pos hf]
  simp only [drewN_alloc, GA_drewN, GA_GA]
  obtain ⟨u2, hu, hz, hG2⟩ := drewN_grw u1 m2
  rw [← hu, ← hz]
  clear hu hz
  replace hG2 : Grw w u2 := hG1.trans hG2
  have q1_ : u2.heap.size < u2.heap.size + 1 + 1 + 1 := by omega
  have q2_ : u2.heap.size < u2.heap.size + 1 + 1 := by omega
  have q3_ : u2.heap.size < u2.heap.size + 1 := by omega
  go_wp2_with fail
  try simp only [Exit.inBlock, Exit.then]
  refine bodyPost_ret (results_cell rfl rfl (by first | (refine scan_ld0 _ _ _ _ _ _ _ _ _ _ _ _ _ _ _ _ _ ?_; simp; done) | (refine scan_gld0 _ _ _ _ _ _ _ _ _ _ _ _ _ _ _ _ _ _ ?_; simp; done) | (refine scan_ld1 _ _ _ _ _ _ _ _ _ _ _ _ _ _ _ _ _ _ ?_; simp; done) | (refine scan_gld1 _ _ _ _ _ _ _ _ _ _ _ _ _ _ _ _ _ _ _ ?_; simp; done) | (refine scan_ld2 _ _ _ _ _ _ _ _ _ _ _ _ _ _ _ _ _ _ _ ?_; simp; done) | (refine scan_gld2 _ _ _ _ _ _ _ _ _ _ _ _ _ _ _ _ _ _ _ _ ?_; simp; done) | (refine scan_ld3 _ _ _ _ _ _ _ _ _ _ _ _ _ _ _ _ _ _ _ _ ?_; simp; done) | (refine scan_gld3 _ _ _ _ _ _ _ _ _ _ _ _ _ _ _ _ _ _ _ _ _ ?_; simp; done))) rfl ?_
  exact ⟨rfl, by repeat (first | exact hG2 | refine Grw.alloc ?_ _ | refine Grw.ga ?_ _)⟩
set_option maxHeartbeats 2000000 in
set_option maxRecDepth 100000 in
theorem step_2y (l0 l1 l2 l3 l4 l5 l6 l7 N k dg va te pa fo c : Int) (h0 : 0 ≤ c) (h1 : c < 256) (n0 : 0 ≤ N) (n7 : N ≤ 7) (x0 : -1 ≤ digV c 16) (x1 : digV c 16 ≤ 15) (hc : (c == 58) = false) (hf : ¬ (digV c 16 < 0 ∨ (if 0 ≤ k then 7 - N else 8 - N) < 1)) (w : World) :
    Calls Tryd.prog 47 #[sv l0 l1 l2 l3 l4 l5 l6 l7 N k 2 dg va te pa fo, .int .u8 c] w fun e w' => e = .returned (sv l0 l1 l2 l3 l4 l5 l6 l7 N k 4 1 (digV c 16) (tenM 0 0 c) pa fo) ∧ Grw w w' := by
  go_enter Tryd.func47, Tryd.ntmps47
  go_wp2_with fail
  refine (refDigit_drew c h0 h1 _).mono ?_
  rintro e w1 ⟨rfl, m1, rfl⟩
  simp only [drewN_alloc, GA_drewN, GA_GA]
  obtain ⟨u1, hu, hz, hG1⟩ := drewN_grw w m1
  rw [← hu, ← hz]
  clear hu hz
  go_wp2_with fail
  refine (first_walk _ _ _ _ _ _ _ _ _ _ _ _ _ _ _ _ c h0 h1 n0 (by omega) x0 x1 _).mono ?_
  rintro e w2 ⟨rfl, m2, g2, rfl⟩
  rw [if_neg hf]
  simp only [drewN_alloc, GA_drewN, GA_GA]
  obtain ⟨u2, hu, hz, hG2⟩ := drewN_grw u1 m2
  rw [← hu, ← hz]
  clear hu hz
  replace hG2 : Grw w u2 := hG1.trans hG2
  have q1_ : u2.heap.size < u2.heap.size + 1 + 1 + 1 := by omega
  have q2_ : u2.heap.size < u2.heap.size + 1 + 1 := by omega
  have q3_ : u2.heap.size < u2.heap.size + 1 := by omega
  go_wp2_with fail
  try simp only [Exit.inBlock, Exit.then]
  refine bodyPost_ret (results_cell rfl rfl (by first | (refine scan_ld0 _ _ _ _ _ _ _ _ _ _ _ _ _ _ _ _ _ ?_; simp; done) | (refine scan_gld0 _ _ _ _ _ _ _ _ _ _ _ _ _ _ _ _ _ _ ?_; simp; done) | (refine scan_ld1 _ _ _ _ _ _ _ _ _ _ _ _ _ _ _ _ _ _ ?_; simp; done) | (refine scan_gld1 _ _ _ _ _ _ _ _ _ _ _ _ _ _ _ _ _ _ _ ?_; simp; done) | (refine scan_ld2 _ _ _ _ _ _ _ _ _ _ _ _ _ _ _ _ _ _ _ ?_; simp; done) | (refine scan_gld2 _ _ _ _ _ _ _ _ _ _ _ _ _ _ _ _ _ _ _ _ ?_; simp; done) | (refine scan_ld3 _ _ _ _ _ _ _ _ _ _ _ _ _ _ _ _ _ _ _ _ ?_; simp; done) | (refine scan_gld3 _ _ _ _ _ _ _ _ _ _ _ _ _ _ _ _ _ _ _ _ _ ?_; simp; done))) rfl ?_
  exact ⟨rfl, by repeat (first | exact hG2 | refine Grw.alloc ?_ _ | refine Grw.ga ?_ _)⟩
set_option maxHeartbeats 2000000 in
set_option maxRecDepth 100000 in
theorem step_3n (l0 l1 l2 l3 l4 l5 l6 l7 N k dg va te pa fo c : Int) (h0 : 0 ≤ c) (h1 : c < 256) (n0 : 0 ≤ N) (n7 : N ≤ 7) (x0 : -1 ≤ digV c 16) (x1 : digV c 16 ≤ 15) (hf : (digV c 16 < 0 ∨ (if 0 ≤ k then 7 - N else 8 - N) < 1)) (w : World) :
    Calls Tryd.prog 47 #[sv l0 l1 l2 l3 l4 l5 l6 l7 N k 3 dg va te pa fo, .int .u8 c] w fun e w' => e = .returned (sv l0 l1 l2 l3 l4 l5 l6 l7 N k 7 0 0 0 pa fo) ∧ Grw w w' := by
  go_enter Tryd.func47, Tryd.ntmps47
  go_wp2_with fail
  refine (refDigit_drew c h0 h1 _).mono ?_
  rintro e w1 ⟨rfl, m1, rfl⟩
  simp only [drewN_alloc, GA_drewN, GA_GA]
  obtain ⟨u1, hu, hz, hG1⟩ := drewN_grw w m1
  rw [← hu, ← hz]
  clear hu hz
  go_wp2_with fail
  refine (first_walk _ _ _ _ _ _ _ _ _ _ _ _ _ _ _ _ c h0 h1 n0 (by omega) x0 x1 _).mono ?_
  rintro e w2 ⟨rfl, m2, g2, rfl⟩
  rw [if_pos hf]
  simp only [drewN_alloc, GA_drewN, GA_GA]
  obtain ⟨u2, hu, hz, hG2⟩ := drewN_grw u1 m2
  rw [← hu, ← hz]
  clear hu hz
  replace hG2 : Grw w u2 := hG1.trans hG2
  have q1_ : u2.heap.size < u2.heap.size + 1 + 1 + 1 := by omega
  have q2_ : u2.heap.size < u2.heap.size + 1 + 1 := by omega
  have q3_ : u2.heap.size < u2.heap.size + 1 := by omega
  go_wp2_with fail
  try simp only [Exit.inBlock, Exit.then]
  refine bodyPost_ret (results_cell rfl rfl (by first | (refine scan_ld0 _ _ _ _ _ _ _ _ _ _ _ _ _ _ _ _ _ ?_; simp; done) | (refine scan_gld0 _ _ _ _ _ _ _ _ _ _ _ _ _ _ _ _ _ _ ?_; simp; done) | (refine scan_ld1 _ _ _ _ _ _ _ _ _ _ _ _ _ _ _ _ _ _ ?_; simp; done) | (refine scan_gld1 _ _ _ _ _ _ _ _ _ _ _ _ _ _ _ _ _ _ _ ?_; simp; done) | (refine scan_ld2 _ _ _ _ _ _ _ _ _ _ _ _ _ _ _ _ _ _ _ ?_; simp; done) | (refine scan_gld2 _ _ _ _ _ _ _ _ _ _ _ _ _ _ _ _ _ _ _ _ ?_; simp; done) | (refine scan_ld3 _ _ _ _ _ _ _ _ _ _ _ _ _ _ _ _ _ _ _ _ ?_; simp; done) | (refine scan_gld3 _ _ _ _ _ _ _ _ _ _ _ _ _ _ _ _ _ _ _ _ _ ?_; simp; done))) rfl ?_
  exact ⟨rfl, by repeat (first | exact hG2 | refine Grw.alloc ?_ _ | refine Grw.ga ?_ _)⟩
set_option maxHeartbeats 2000000 in
set_option maxRecDepth 100000 in
theorem step_3y (l0 l1 l2 l3 l4 l5 l6 l7 N k dg va te pa fo c : Int) (h0 : 0 ≤ c) (h1 : c < 256) (n0 : 0 ≤ N) (n7 : N ≤ 7) (x0 : -1 ≤ digV c 16) (x1 : digV c 16 ≤ 15) (hf : ¬ (digV c 16 < 0 ∨ (if 0 ≤ k then 7 - N else 8 - N) < 1)) (w : World) :
    Calls Tryd.prog 47 #[sv l0 l1 l2 l3 l4 l5 l6 l7 N k 3 dg va te pa fo, .int .u8 c] w fun e w' => e = .returned (sv l0 l1 l2 l3 l4 l5 l6 l7 N k 4 1 (digV c 16) (tenM 0 0 c) pa fo) ∧ Grw w w' := by
  go_enter Tryd.func47, Tryd.ntmps47
  go_wp2_with fail
  refine (refDigit_drew c h0 h1 _).mono ?_
  rintro e w1 ⟨rfl, m1, rfl⟩
  simp only [drewN_alloc, GA_drewN, GA_GA]
  obtain ⟨u1, hu, hz, hG1⟩ := drewN_grw w m1
  rw [← hu, ← hz]
  clear hu hz
  go_wp2_with fail
  refine (first_walk _ _ _ _ _ _ _ _ _ _ _ _ _ _ _ _ c h0 h1 n0 (by omega) x0 x1 _).mono ?_
  rintro e w2 ⟨rfl, m2, g2, rfl⟩
  rw [if_neg hf]
  simp only [drewN_alloc, GA_drewN, GA_GA]
  obtain ⟨u2, hu, hz, hG2⟩ := drewN_grw u1 m2
  rw [← hu, ← hz]
  clear hu hz
  replace hG2 : Grw w u2 := hG1.trans hG2
  have q1_ : u2.heap.size < u2.heap.size + 1 + 1 + 1 := by omega
  have q2_ : u2.heap.size < u2.heap.size + 1 + 1 := by omega
  have q3_ : u2.heap.size < u2.heap.size + 1 := by omega
  go_wp2_with fail
  try simp only [Exit.inBlock, Exit.then]
  refine bodyPost_ret (results_cell rfl rfl (by first | (refine scan_ld0 _ _ _ _ _ _ _ _ _ _ _ _ _ _ _ _ _ ?_; simp; done) | (refine scan_gld0 _ _ _ _ _ _ _ _ _ _ _ _ _ _ _ _ _ _ ?_; simp; done) | (refine scan_ld1 _ _ _ _ _ _ _ _ _ _ _ _ _ _ _ _ _ _ ?_; simp; done) | (refine scan_gld1 _ _ _ _ _ _ _ _ _ _ _ _ _ _ _ _ _ _ _ ?_; simp; done) | (refine scan_ld2 _ _ _ _ _ _ _ _ _ _ _ _ _ _ _ _ _ _ _ ?_; simp; done) | (refine scan_gld2 _ _ _ _ _ _ _ _ _ _ _ _ _ _ _ _ _ _ _ _ ?_; simp; done) | (refine scan_ld3 _ _ _ _ _ _ _ _ _ _ _ _ _ _ _ _ _ _ _ _ ?_; simp; done) | (refine scan_gld3 _ _ _ _ _ _ _ _ _ _ _ _ _ _ _ _ _ _ _ _ _ ?_; simp; done))) rfl ?_
  exact ⟨rfl, by repeat (first | exact hG2 | refine Grw.alloc ?_ _ | refine Grw.ga ?_ _)⟩
set_option maxHeartbeats 2000000 in
set_option maxRecDepth 100000 in
theorem step_4m (l0 l1 l2 l3 l4 l5 l6 l7 N k dg va te pa fo c : Int) (h0 : 0 ≤ c) (h1 : c < 256) (n0 : 0 ≤ N) (n7 : N ≤ 7) (x0 : -1 ≤ digV c 16) (x1 : digV c 16 ≤ 15) (d0 : 0 ≤ dg) (d1 : dg ≤ 100) (v0 : 0 ≤ va) (v1 : va ≤ 65535) (t0 : -1 ≤ te) (t1 : te ≤ 255) (hx : 0 ≤ digV c 16) (h4 : (dg == 4) = false) (w : World) :
    Calls Tryd.prog 47 #[sv l0 l1 l2 l3 l4 l5 l6 l7 N k 4 dg va te pa fo, .int .u8 c] w fun e w' => e = .returned (sv l0 l1 l2 l3 l4 l5 l6 l7 N k 4 (dg + 1) (16 * va + digV c 16) (tenM dg te c) pa fo) ∧ Grw w w' := by
  go_enter Tryd.func47, Tryd.ntmps47
  go_wp2_with fail
  refine (refDigit_drew c h0 h1 _).mono ?_
  rintro e w1 ⟨rfl, m1, rfl⟩
  simp only [drewN_alloc, GA_drewN, GA_GA]
  obtain ⟨u1, hu, hz, hG1⟩ := drewN_grw w m1
  rw [← hu, ← hz]
  clear hu hz
  go_wp2_with fail
  refine (more_walk _ _ _ _ _ _ _ _ _ _ _ _ _ _ _ _ c h0 h1 d0 d1 v0 v1 x0 x1 t0 t1 _).mono ?_
  rintro e w2 ⟨rfl, m2, g2, rfl⟩
  simp only [drewN_alloc, GA_drewN, GA_GA]
  obtain ⟨u2, hu, hz, hG2⟩ := drewN_grw u1 m2
  rw [← hu, ← hz]
  clear hu hz
  replace hG2 : Grw w u2 := hG1.trans hG2
  have q1_ : u2.heap.size < u2.heap.size + 1 + 1 + 1 := by omega
  have q2_ : u2.heap.size < u2.heap.size + 1 + 1 := by omega
  have q3_ : u2.heap.size < u2.heap.size + 1 := by omega
  go_wp2_with fail
  try simp only [Exit.inBlock, Exit.then]
  refine bodyPost_ret (results_cell rfl rfl (by first | (refine scan_ld0 _ _ _ _ _ _ _ _ _ _ _ _ _ _ _ _ _ ?_; simp; done) | (refine scan_gld0 _ _ _ _ _ _ _ _ _ _ _ _ _ _ _ _ _ _ ?_; simp; done) | (refine scan_ld1 _ _ _ _ _ _ _ _ _ _ _ _ _ _ _ _ _ _ ?_; simp; done) | (refine scan_gld1 _ _ _ _ _ _ _ _ _ _ _ _ _ _ _ _ _ _ _ ?_; simp; done) | (refine scan_ld2 _ _ _ _ _ _ _ _ _ _ _ _ _ _ _ _ _ _ _ ?_; simp; done) | (refine scan_gld2 _ _ _ _ _ _ _ _ _ _ _ _ _ _ _ _ _ _ _ _ ?_; simp; done) | (refine scan_ld3 _ _ _ _ _ _ _ _ _ _ _ _ _ _ _ _ _ _ _ _ ?_; simp; done) | (refine scan_gld3 _ _ _ _ _ _ _ _ _ _ _ _ _ _ _ _ _ _ _ _ _ ?_; simp; done))) rfl ?_
  exact ⟨rfl, by repeat (first | exact hG2 | refine Grw.alloc ?_ _ | refine Grw.ga ?_ _)⟩
set_option maxHeartbeats 2000000 in
set_option maxRecDepth 100000 in
theorem step_4x (l0 l1 l2 l3 l4 l5 l6 l7 N k dg va te pa fo c : Int) (h0 : 0 ≤ c) (h1 : c < 256) (hx : 0 ≤ digV c 16) (h4 : dg = 4) (w : World) :
    Calls Tryd.prog 47 #[sv l0 l1 l2 l3 l4 l5 l6 l7 N k 4 dg va te pa fo, .int .u8 c] w fun e w' => e = .returned (sv l0 l1 l2 l3 l4 l5 l6 l7 N k 7 4 va te pa fo) ∧ Grw w w' := by
  subst h4
  go_enter Tryd.func47, Tryd.ntmps47
  go_wp2_with fail
  refine (refDigit_drew c h0 h1 _).mono ?_
  rintro e w1 ⟨rfl, m1, rfl⟩
  simp only [drewN_alloc, GA_drewN, GA_GA]
  obtain ⟨u1, hu, hz, hG1⟩ := drewN_grw w m1
  rw [← hu, ← hz]
  clear hu hz
  go_wp2_with fail
  try simp only [Exit.inBlock, Exit.then]
  refine bodyPost_ret (results_cell rfl rfl (by first | (refine scan_ld0 _ _ _ _ _ _ _ _ _ _ _ _ _ _ _ _ _ ?_; simp; done) | (refine scan_gld0 _ _ _ _ _ _ _ _ _ _ _ _ _ _ _ _ _ _ ?_; simp; done) | (refine scan_ld1 _ _ _ _ _ _ _ _ _ _ _ _ _ _ _ _ _ _ ?_; simp; done) | (refine scan_gld1 _ _ _ _ _ _ _ _ _ _ _ _ _ _ _ _ _ _ _ ?_; simp; done) | (refine scan_ld2 _ _ _ _ _ _ _ _ _ _ _ _ _ _ _ _ _ _ _ ?_; simp; done) | (refine scan_gld2 _ _ _ _ _ _ _ _ _ _ _ _ _ _ _ _ _ _ _ _ ?_; simp; done) | (refine scan_ld3 _ _ _ _ _ _ _ _ _ _ _ _ _ _ _ _ _ _ _ _ ?_; simp; done) | (refine scan_gld3 _ _ _ _ _ _ _ _ _ _ _ _ _ _ _ _ _ _ _ _ _ ?_; simp; done))) rfl ?_
  exact ⟨rfl, by repeat (first | exact hG1 | refine Grw.alloc ?_ _ | refine Grw.ga ?_ _)⟩
set_option maxHeartbeats 2000000 in
set_option maxRecDepth 100000 in
theorem step_4c8 (l0 l1 l2 l3 l4 l5 l6 l7 N k dg va te pa fo c : Int) (h0 : 0 ≤ c) (h1 : c < 256) (n0 : 0 ≤ N) (n7 : N ≤ 7) (v0 : 0 ≤ va) (v1 : va ≤ 65535) (hx : digV c 16 < 0) (hp : pa = 0) (hN : N = 7) (hc : c = 58) (w : World) :
    Calls Tryd.prog 47 #[sv l0 l1 l2 l3 l4 l5 l6 l7 N k 4 dg va te pa fo, .int .u8 c] w fun e w' => e = .returned (sv l0 l1 l2 l3 l4 l5 l6 l7 7 k 7 dg va te 0 fo) ∧ Grw w w' := by
  subst hN hp
  subst hc
  go_enter Tryd.func47, Tryd.ntmps47
  go_wp2_with fail
  refine (refDigit_drew 58 h0 h1 _).mono ?_
  rintro e w1 ⟨rfl, m1, rfl⟩
  simp only [drewN_alloc, GA_drewN, GA_GA]
  obtain ⟨u1, hu, hz, hG1⟩ := drewN_grw w m1
  rw [← hu, ← hz]
  clear hu hz
  go_wp2_with fail
  refine (closed_walk _ _ _ _ _ _ _ _ _ _ _ _ _ _ _ _ n0 n7 v0 v1 _).mono ?_
  rintro e w2 ⟨rfl, m2, g2, rfl⟩
  simp only [drewN_alloc, GA_drewN, GA_GA]
  obtain ⟨u2, hu, hz, hG2⟩ := drewN_grw u1 m2
  rw [← hu, ← hz]
  clear hu hz
  replace hG2 : Grw w u2 := hG1.trans hG2
  have q1_ : u2.heap.size < u2.heap.size + 1 + 1 + 1 := by omega
  have q2_ : u2.heap.size < u2.heap.size + 1 + 1 := by omega
  have q3_ : u2.heap.size < u2.heap.size + 1 := by omega
  go_wp2_with fail
  try simp only [Exit.inBlock, Exit.then]
  refine bodyPost_ret (results_cell rfl rfl (by first | (refine scan_ld0 _ _ _ _ _ _ _ _ _ _ _ _ _ _ _ _ _ ?_; simp; done) | (refine scan_gld0 _ _ _ _ _ _ _ _ _ _ _ _ _ _ _ _ _ _ ?_; simp; done) | (refine scan_ld1 _ _ _ _ _ _ _ _ _ _ _ _ _ _ _ _ _ _ ?_; simp; done) | (refine scan_gld1 _ _ _ _ _ _ _ _ _ _ _ _ _ _ _ _ _ _ _ ?_; simp; done) | (refine scan_ld2 _ _ _ _ _ _ _ _ _ _ _ _ _ _ _ _ _ _ _ ?_; simp; done) | (refine scan_gld2 _ _ _ _ _ _ _ _ _ _ _ _ _ _ _ _ _ _ _ _ ?_; simp; done) | (refine scan_ld3 _ _ _ _ _ _ _ _ _ _ _ _ _ _ _ _ _ _ _ _ ?_; simp; done) | (refine scan_gld3 _ _ _ _ _ _ _ _ _ _ _ _ _ _ _ _ _ _ _ _ _ ?_; simp; done))) rfl ?_
  exact ⟨rfl, by repeat (first | exact hG2 | refine Grw.alloc ?_ _ | refine Grw.ga ?_ _)⟩
set_option maxHeartbeats 2000000 in
set_option maxRecDepth 100000 in
theorem step_4c7 (l0 l1 l2 l3 l4 l5 l6 l7 N k dg va te pa fo c : Int) (h0 : 0 ≤ c) (h1 : c < 256) (n0 : 0 ≤ N) (n7 : N ≤ 7) (v0 : 0 ≤ va) (v1 : va ≤ 65535) (hx : digV c 16 < 0) (hp : pa = 0) (hk : 0 ≤ k) (hN : N = 6) (hc : c = 58) (w : World) :
    Calls Tryd.prog 47 #[sv l0 l1 l2 l3 l4 l5 l6 l7 N k 4 dg va te pa fo, .int .u8 c] w fun e w' => e = .returned (sv l0 l1 l2 l3 l4 l5 l6 l7 6 k 7 dg va te 0 fo) ∧ Grw w w' := by
  subst hN hp
  subst hc
  go_enter Tryd.func47, Tryd.ntmps47
  go_wp2_with fail
  refine (refDigit_drew 58 h0 h1 _).mono ?_
  rintro e w1 ⟨rfl, m1, rfl⟩
  simp only [drewN_alloc, GA_drewN, GA_GA]
  obtain ⟨u1, hu, hz, hG1⟩ := drewN_grw w m1
  rw [← hu, ← hz]
  clear hu hz
  go_wp2_with fail
  refine (closed_walk _ _ _ _ _ _ _ _ _ _ _ _ _ _ _ _ n0 n7 v0 v1 _).mono ?_
  rintro e w2 ⟨rfl, m2, g2, rfl⟩
  simp only [drewN_alloc, GA_drewN, GA_GA]
  obtain ⟨u2, hu, hz, hG2⟩ := drewN_grw u1 m2
  rw [← hu, ← hz]
  clear hu hz
  replace hG2 : Grw w u2 := hG1.trans hG2
  have q1_ : u2.heap.size < u2.heap.size + 1 + 1 + 1 := by omega
  have q2_ : u2.heap.size < u2.heap.size + 1 + 1 := by omega
  have q3_ : u2.heap.size < u2.heap.size + 1 := by omega
  go_wp2_with fail
  try simp only [Exit.inBlock, Exit.then]
  refine bodyPost_ret (results_cell rfl rfl (by first | (refine scan_ld0 _ _ _ _ _ _ _ _ _ _ _ _ _ _ _ _ _ ?_; simp; done) | (refine scan_gld0 _ _ _ _ _ _ _ _ _ _ _ _ _ _ _ _ _ _ ?_; simp; done) | (refine scan_ld1 _ _ _ _ _ _ _ _ _ _ _ _ _ _ _ _ _ _ ?_; simp; done) | (refine scan_gld1 _ _ _ _ _ _ _ _ _ _ _ _ _ _ _ _ _ _ _ ?_; simp; done) | (refine scan_ld2 _ _ _ _ _ _ _ _ _ _ _ _ _ _ _ _ _ _ _ ?_; simp; done) | (refine scan_gld2 _ _ _ _ _ _ _ _ _ _ _ _ _ _ _ _ _ _ _ _ ?_; simp; done) | (refine scan_ld3 _ _ _ _ _ _ _ _ _ _ _ _ _ _ _ _ _ _ _ _ ?_; simp; done) | (refine scan_gld3 _ _ _ _ _ _ _ _ _ _ _ _ _ _ _ _ _ _ _ _ _ ?_; simp; done))) rfl ?_
  exact ⟨rfl, by repeat (first | exact hG2 | refine Grw.alloc ?_ _ | refine Grw.ga ?_ _)⟩
set_option maxHeartbeats 2000000 in
set_option maxRecDepth 100000 in
theorem step_4ck (l0 l1 l2 l3 l4 l5 l6 l7 N k dg va te pa fo c : Int) (h0 : 0 ≤ c) (h1 : c < 256) (n0 : 0 ≤ N) (n7 : N ≤ 7) (v0 : 0 ≤ va) (v1 : va ≤ 65535) (hx : digV c 16 < 0) (hp : pa = 0) (hk : 0 ≤ k) (hN : N < 6) (hN7 : (N + 1 == 7) = false) (hc : c = 58) (w : World) :
    Calls Tryd.prog 47 #[sv l0 l1 l2 l3 l4 l5 l6 l7 N k 4 dg va te pa fo, .int .u8 c] w fun e w' => e = .returned (sv (cl N 0 l0 va) (cl N 1 l1 va) (cl N 2 l2 va) (cl N 3 l3 va) (cl N 4 l4 va) (cl N 5 l5 va) (cl N 6 l6 va) (cl N 7 l7 va) (N + 1) k 2 dg va te 0 fo) ∧ Grw w w' := by
  subst hp
  subst hc
  go_enter Tryd.func47, Tryd.ntmps47
  go_wp2_with fail
  refine (refDigit_drew 58 h0 h1 _).mono ?_
  rintro e w1 ⟨rfl, m1, rfl⟩
  simp only [drewN_alloc, GA_drewN, GA_GA]
  obtain ⟨u1, hu, hz, hG1⟩ := drewN_grw w m1
  rw [← hu, ← hz]
  clear hu hz
  go_wp2_with fail
  refine (closed_walk _ _ _ _ _ _ _ _ _ _ _ _ _ _ _ _ n0 n7 v0 v1 _).mono ?_
  rintro e w2 ⟨rfl, m2, g2, rfl⟩
  simp only [drewN_alloc, GA_drewN, GA_GA]
  obtain ⟨u2, hu, hz, hG2⟩ := drewN_grw u1 m2
  rw [← hu, ← hz]
  clear hu hz
  replace hG2 : Grw w u2 := hG1.trans hG2
  have q1_ : u2.heap.size < u2.heap.size + 1 + 1 + 1 := by omega
  have q2_ : u2.heap.size < u2.heap.size + 1 + 1 := by omega
  have q3_ : u2.heap.size < u2.heap.size + 1 := by omega
  go_wp2_with fail
  try simp only [Exit.inBlock, Exit.then]
  refine bodyPost_ret (results_cell rfl rfl (by first | (refine scan_ld0 _ _ _ _ _ _ _ _ _ _ _ _ _ _ _ _ _ ?_; simp; done) | (refine scan_gld0 _ _ _ _ _ _ _ _ _ _ _ _ _ _ _ _ _ _ ?_; simp; done) | (refine scan_ld1 _ _ _ _ _ _ _ _ _ _ _ _ _ _ _ _ _ _ ?_; simp; done) | (refine scan_gld1 _ _ _ _ _ _ _ _ _ _ _ _ _ _ _ _ _ _ _ ?_; simp; done) | (refine scan_ld2 _ _ _ _ _ _ _ _ _ _ _ _ _ _ _ _ _ _ _ ?_; simp; done) | (refine scan_gld2 _ _ _ _ _ _ _ _ _ _ _ _ _ _ _ _ _ _ _ _ ?_; simp; done) | (refine scan_ld3 _ _ _ _ _ _ _ _ _ _ _ _ _ _ _ _ _ _ _ _ ?_; simp; done) | (refine scan_gld3 _ _ _ _ _ _ _ _ _ _ _ _ _ _ _ _ _ _ _ _ _ ?_; simp; done))) rfl ?_
  exact ⟨rfl, by repeat (first | exact hG2 | refine Grw.alloc ?_ _ | refine Grw.ga ?_ _)⟩
set_option maxHeartbeats 2000000 in
set_option maxRecDepth 100000 in
theorem step_4cn (l0 l1 l2 l3 l4 l5 l6 l7 N k dg va te pa fo c : Int) (h0 : 0 ≤ c) (h1 : c < 256) (n0 : 0 ≤ N) (n7 : N ≤ 7) (v0 : 0 ≤ va) (v1 : va ≤ 65535) (hx : digV c 16 < 0) (hp : pa = 0) (hk : k < 0) (hN : N < 7) (hc : c = 58) (w : World) :
    Calls Tryd.prog 47 #[sv l0 l1 l2 l3 l4 l5 l6 l7 N k 4 dg va te pa fo, .int .u8 c] w fun e w' => e = .returned (sv (cl N 0 l0 va) (cl N 1 l1 va) (cl N 2 l2 va) (cl N 3 l3 va) (cl N 4 l4 va) (cl N 5 l5 va) (cl N 6 l6 va) (cl N 7 l7 va) (N + 1) k 2 dg va te 0 fo) ∧ Grw w w' := by
  subst hp
  subst hc
  go_enter Tryd.func47, Tryd.ntmps47
  go_wp2_with fail
  refine (refDigit_drew 58 h0 h1 _).mono ?_
  rintro e w1 ⟨rfl, m1, rfl⟩
  simp only [drewN_alloc, GA_drewN, GA_GA]
  obtain ⟨u1, hu, hz, hG1⟩ := drewN_grw w m1
  rw [← hu, ← hz]
  clear hu hz
  go_wp2_with fail
  refine (closed_walk _ _ _ _ _ _ _ _ _ _ _ _ _ _ _ _ n0 n7 v0 v1 _).mono ?_
  rintro e w2 ⟨rfl, m2, g2, rfl⟩
  simp only [drewN_alloc, GA_drewN, GA_GA]
  obtain ⟨u2, hu, hz, hG2⟩ := drewN_grw u1 m2
  rw [← hu, ← hz]
  clear hu hz
  replace hG2 : Grw w u2 := hG1.trans hG2
  have q1_ : u2.heap.size < u2.heap.size + 1 + 1 + 1 := by omega
  have q2_ : u2.heap.size < u2.heap.size + 1 + 1 := by omega
  have q3_ : u2.heap.size < u2.heap.size + 1 := by omega
  go_wp2_with fail
  try simp only [Exit.inBlock, Exit.then]
  refine bodyPost_ret (results_cell rfl rfl (by first | (refine scan_ld0 _ _ _ _ _ _ _ _ _ _ _ _ _ _ _ _ _ ?_; simp; done) | (refine scan_gld0 _ _ _ _ _ _ _ _ _ _ _ _ _ _ _ _ _ _ ?_; simp; done) | (refine scan_ld1 _ _ _ _ _ _ _ _ _ _ _ _ _ _ _ _ _ _ ?_; simp; done) | (refine scan_gld1 _ _ _ _ _ _ _ _ _ _ _ _ _ _ _ _ _ _ _ ?_; simp; done) | (refine scan_ld2 _ _ _ _ _ _ _ _ _ _ _ _ _ _ _ _ _ _ _ ?_; simp; done) | (refine scan_gld2 _ _ _ _ _ _ _ _ _ _ _ _ _ _ _ _ _ _ _ _ ?_; simp; done) | (refine scan_ld3 _ _ _ _ _ _ _ _ _ _ _ _ _ _ _ _ _ _ _ _ ?_; simp; done) | (refine scan_gld3 _ _ _ _ _ _ _ _ _ _ _ _ _ _ _ _ _ _ _ _ _ ?_; simp; done))) rfl ?_
  exact ⟨rfl, by repeat (first | exact hG2 | refine Grw.alloc ?_ _ | refine Grw.ga ?_ _)⟩
set_option maxHeartbeats 2000000 in
set_option maxRecDepth 100000 in
theorem step_4pn (l0 l1 l2 l3 l4 l5 l6 l7 N k dg va te pa fo c : Int) (h0 : 0 ≤ c) (h1 : c < 256) (hx : digV c 16 < 0) (hc : c = 46) (hf : te < 0 ∨ ¬ (N = 6 ∧ k < 0 ∨ N ≤ 5 ∧ 0 ≤ k)) (w : World) :
    Calls Tryd.prog 47 #[sv l0 l1 l2 l3 l4 l5 l6 l7 N k 4 dg va te pa fo, .int .u8 c] w fun e w' => e = .returned (sv l0 l1 l2 l3 l4 l5 l6 l7 N k 7 dg va te pa fo) ∧ Grw w w' := by
  subst hc
  go_enter Tryd.func47, Tryd.ntmps47
  go_wp2_with fail
  refine (refDigit_drew 46 h0 h1 _).mono ?_
  rintro e w1 ⟨rfl, m1, rfl⟩
  simp only [drewN_alloc, GA_drewN, GA_GA]
  obtain ⟨u1, hu, hz, hG1⟩ := drewN_grw w m1
  rw [← hu, ← hz]
  clear hu hz
  go_wp2_with fail
  refine (dotted_walk _ _ _ _ _ _ _ _ _ _ _ _ _ _ _ _ _).mono ?_
  rintro e w2 ⟨rfl, m2, g2, rfl⟩
  rw [if_pos hf]
  simp only [drewN_alloc, GA_drewN, GA_GA]
  obtain ⟨u2, hu, hz, hG2⟩ := drewN_grw u1 m2
  rw [← hu, ← hz]
  clear hu hz
  replace hG2 : Grw w u2 := hG1.trans hG2
  have q1_ : u2.heap.size < u2.heap.size + 1 + 1 + 1 := by omega
  have q2_ : u2.heap.size < u2.heap.size + 1 + 1 := by omega
  have q3_ : u2.heap.size < u2.heap.size + 1 := by omega
  go_wp2_with fail
  try simp only [Exit.inBlock, Exit.then]
  refine bodyPost_ret (results_cell rfl rfl (by first | (refine scan_ld0 _ _ _ _ _ _ _ _ _ _ _ _ _ _ _ _ _ ?_; simp; done) | (refine scan_gld0 _ _ _ _ _ _ _ _ _ _ _ _ _ _ _ _ _ _ ?_; simp; done) | (refine scan_ld1 _ _ _ _ _ _ _ _ _ _ _ _ _ _ _ _ _ _ ?_; simp; done) | (refine scan_gld1 _ _ _ _ _ _ _ _ _ _ _ _ _ _ _ _ _ _ _ ?_; simp; done) | (refine scan_ld2 _ _ _ _ _ _ _ _ _ _ _ _ _ _ _ _ _ _ _ ?_; simp; done) | (refine scan_gld2 _ _ _ _ _ _ _ _ _ _ _ _ _ _ _ _ _ _ _ _ ?_; simp; done) | (refine scan_ld3 _ _ _ _ _ _ _ _ _ _ _ _ _ _ _ _ _ _ _ _ ?_; simp; done) | (refine scan_gld3 _ _ _ _ _ _ _ _ _ _ _ _ _ _ _ _ _ _ _ _ _ ?_; simp; done))) rfl ?_
  exact ⟨rfl, by repeat (first | exact hG2 | refine Grw.alloc ?_ _ | refine Grw.ga ?_ _)⟩
set_option maxHeartbeats 2000000 in
set_option maxRecDepth 100000 in
theorem step_4py (l0 l1 l2 l3 l4 l5 l6 l7 N k dg va te pa fo c : Int) (h0 : 0 ≤ c) (h1 : c < 256) (hx : digV c 16 < 0) (hc : c = 46) (hf : ¬ (te < 0 ∨ ¬ (N = 6 ∧ k < 0 ∨ N ≤ 5 ∧ 0 ≤ k))) (w : World) :
    Calls Tryd.prog 47 #[sv l0 l1 l2 l3 l4 l5 l6 l7 N k 4 dg va te pa fo, .int .u8 c] w fun e w' => e = .returned (sv l0 l1 l2 l3 l4 l5 l6 l7 N k 5 dg va te 1 te) ∧ Grw w w' := by
  subst hc
  go_enter Tryd.func47, Tryd.ntmps47
  go_wp2_with fail
  refine (refDigit_drew 46 h0 h1 _).mono ?_
  rintro e w1 ⟨rfl, m1, rfl⟩
  simp only [drewN_alloc, GA_drewN, GA_GA]
  obtain ⟨u1, hu, hz, hG1⟩ := drewN_grw w m1
  rw [← hu, ← hz]
  clear hu hz
  go_wp2_with fail
  refine (dotted_walk _ _ _ _ _ _ _ _ _ _ _ _ _ _ _ _ _).mono ?_
  rintro e w2 ⟨rfl, m2, g2, rfl⟩
  rw [if_neg hf]
  simp only [drewN_alloc, GA_drewN, GA_GA]
  obtain ⟨u2, hu, hz, hG2⟩ := drewN_grw u1 m2
  rw [← hu, ← hz]
  clear hu hz
  replace hG2 : Grw w u2 := hG1.trans hG2
  have q1_ : u2.heap.size < u2.heap.size + 1 + 1 + 1 := by omega
  have q2_ : u2.heap.size < u2.heap.size + 1 + 1 := by omega
  have q3_ : u2.heap.size < u2.heap.size + 1 := by omega
  go_wp2_with fail
  try simp only [Exit.inBlock, Exit.then]
  refine bodyPost_ret (results_cell rfl rfl (by first | (refine scan_ld0 _ _ _ _ _ _ _ _ _ _ _ _ _ _ _ _ _ ?_; simp; done) | (refine scan_gld0 _ _ _ _ _ _ _ _ _ _ _ _ _ _ _ _ _ _ ?_; simp; done) | (refine scan_ld1 _ _ _ _ _ _ _ _ _ _ _ _ _ _ _ _ _ _ ?_; simp; done) | (refine scan_gld1 _ _ _ _ _ _ _ _ _ _ _ _ _ _ _ _ _ _ _ ?_; simp; done) | (refine scan_ld2 _ _ _ _ _ _ _ _ _ _ _ _ _ _ _ _ _ _ _ ?_; simp; done) | (refine scan_gld2 _ _ _ _ _ _ _ _ _ _ _ _ _ _ _ _ _ _ _ _ ?_; simp; done) | (refine scan_ld3 _ _ _ _ _ _ _ _ _ _ _ _ _ _ _ _ _ _ _ _ ?_; simp; done) | (refine scan_gld3 _ _ _ _ _ _ _ _ _ _ _ _ _ _ _ _ _ _ _ _ _ ?_; simp; done))) rfl ?_
  exact ⟨rfl, by repeat (first | exact hG2 | refine Grw.alloc ?_ _ | refine Grw.ga ?_ _)⟩
set_option maxHeartbeats 2000000 in
set_option maxRecDepth 100000 in
theorem step_4z (l0 l1 l2 l3 l4 l5 l6 l7 N k dg va te pa fo c : Int) (h0 : 0 ≤ c) (h1 : c < 256) (hx : digV c 16 < 0) (hc : (c == 58) = false) (hs : (c == 46) = false) (w : World) :
    Calls Tryd.prog 47 #[sv l0 l1 l2 l3 l4 l5 l6 l7 N k 4 dg va te pa fo, .int .u8 c] w fun e w' => e = .returned (sv l0 l1 l2 l3 l4 l5 l6 l7 N k 7 dg va te pa fo) ∧ Grw w w' := by
  go_enter Tryd.func47, Tryd.ntmps47
  go_wp2_with fail
  refine (refDigit_drew c h0 h1 _).mono ?_
  rintro e w1 ⟨rfl, m1, rfl⟩
  simp only [drewN_alloc, GA_drewN, GA_GA]
  obtain ⟨u1, hu, hz, hG1⟩ := drewN_grw w m1
  rw [← hu, ← hz]
  clear hu hz
  go_wp2_with fail
  try simp only [Exit.inBlock, Exit.then]
  refine bodyPost_ret (results_cell rfl rfl (by first | (refine scan_ld0 _ _ _ _ _ _ _ _ _ _ _ _ _ _ _ _ _ ?_; simp; done) | (refine scan_gld0 _ _ _ _ _ _ _ _ _ _ _ _ _ _ _ _ _ _ ?_; simp; done) | (refine scan_ld1 _ _ _ _ _ _ _ _ _ _ _ _ _ _ _ _ _ _ ?_; simp; done) | (refine scan_gld1 _ _ _ _ _ _ _ _ _ _ _ _ _ _ _ _ _ _ _ ?_; simp; done) | (refine scan_ld2 _ _ _ _ _ _ _ _ _ _ _ _ _ _ _ _ _ _ _ ?_; simp; done) | (refine scan_gld2 _ _ _ _ _ _ _ _ _ _ _ _ _ _ _ _ _ _ _ _ ?_; simp; done) | (refine scan_ld3 _ _ _ _ _ _ _ _ _ _ _ _ _ _ _ _ _ _ _ _ ?_; simp; done) | (refine scan_gld3 _ _ _ _ _ _ _ _ _ _ _ _ _ _ _ _ _ _ _ _ _ ?_; simp; done))) rfl ?_
  exact ⟨rfl, by repeat (first | exact hG1 | refine Grw.alloc ?_ _ | refine Grw.ga ?_ _)⟩
set_option maxHeartbeats 2000000 in
set_option maxRecDepth 100000 in
theorem step_5d (l0 l1 l2 l3 l4 l5 l6 l7 N k dg va te pa fo c : Int) (h0 : 0 ≤ c) (h1 : c < 256) (a : 48 ≤ c) (b : c ≤ 57) (w : World) :
    Calls Tryd.prog 47 #[sv l0 l1 l2 l3 l4 l5 l6 l7 N k 5 dg va te pa fo, .int .u8 c] w fun e w' => e = .returned (sv l0 l1 l2 l3 l4 l5 l6 l7 N k 6 1 va (c - 48) pa fo) ∧ Grw w w' := by
  go_enter Tryd.func47, Tryd.ntmps47
  go_wp2_with fail
  refine (refDigit_drew c h0 h1 _).mono ?_
  rintro e w1 ⟨rfl, m1, rfl⟩
  simp only [drewN_alloc, GA_drewN, GA_GA]
  obtain ⟨u1, hu, hz, hG1⟩ := drewN_grw w m1
  rw [← hu, ← hz]
  clear hu hz
  go_wp2_with fail
  try simp only [Exit.inBlock, Exit.then]
  refine bodyPost_ret (results_cell rfl rfl (by first | (refine scan_ld0 _ _ _ _ _ _ _ _ _ _ _ _ _ _ _ _ _ ?_; simp; done) | (refine scan_gld0 _ _ _ _ _ _ _ _ _ _ _ _ _ _ _ _ _ _ ?_; simp; done) | (refine scan_ld1 _ _ _ _ _ _ _ _ _ _ _ _ _ _ _ _ _ _ ?_; simp; done) | (refine scan_gld1 _ _ _ _ _ _ _ _ _ _ _ _ _ _ _ _ _ _ _ ?_; simp; done) | (refine scan_ld2 _ _ _ _ _ _ _ _ _ _ _ _ _ _ _ _ _ _ _ ?_; simp; done) | (refine scan_gld2 _ _ _ _ _ _ _ _ _ _ _ _ _ _ _ _ _ _ _ _ ?_; simp; done) | (refine scan_ld3 _ _ _ _ _ _ _ _ _ _ _ _ _ _ _ _ _ _ _ _ ?_; simp; done) | (refine scan_gld3 _ _ _ _ _ _ _ _ _ _ _ _ _ _ _ _ _ _ _ _ _ ?_; simp; done))) rfl ?_
  exact ⟨rfl, by repeat (first | exact hG1 | refine Grw.alloc ?_ _ | refine Grw.ga ?_ _)⟩
set_option maxHeartbeats 2000000 in
set_option maxRecDepth 100000 in
theorem step_5y (l0 l1 l2 l3 l4 l5 l6 l7 N k dg va te pa fo c : Int) (h0 : 0 ≤ c) (h1 : c < 256) (a : c < 48) (w : World) :
    Calls Tryd.prog 47 #[sv l0 l1 l2 l3 l4 l5 l6 l7 N k 5 dg va te pa fo, .int .u8 c] w fun e w' => e = .returned (sv l0 l1 l2 l3 l4 l5 l6 l7 N k 7 dg va te pa fo) ∧ Grw w w' := by
  go_enter Tryd.func47, Tryd.ntmps47
  go_wp2_with fail
  refine (refDigit_drew c h0 h1 _).mono ?_
  rintro e w1 ⟨rfl, m1, rfl⟩
  simp only [drewN_alloc, GA_drewN, GA_GA]
  obtain ⟨u1, hu, hz, hG1⟩ := drewN_grw w m1
  rw [← hu, ← hz]
  clear hu hz
  go_wp2_with fail
  try simp only [Exit.inBlock, Exit.then]
  refine bodyPost_ret (results_cell rfl rfl (by first | (refine scan_ld0 _ _ _ _ _ _ _ _ _ _ _ _ _ _ _ _ _ ?_; simp; done) | (refine scan_gld0 _ _ _ _ _ _ _ _ _ _ _ _ _ _ _ _ _ _ ?_; simp; done) | (refine scan_ld1 _ _ _ _ _ _ _ _ _ _ _ _ _ _ _ _ _ _ ?_; simp; done) | (refine scan_gld1 _ _ _ _ _ _ _ _ _ _ _ _ _ _ _ _ _ _ _ ?_; simp; done) | (refine scan_ld2 _ _ _ _ _ _ _ _ _ _ _ _ _ _ _ _ _ _ _ ?_; simp; done) | (refine scan_gld2 _ _ _ _ _ _ _ _ _ _ _ _ _ _ _ _ _ _ _ _ ?_; simp; done) | (refine scan_ld3 _ _ _ _ _ _ _ _ _ _ _ _ _ _ _ _ _ _ _ _ ?_; simp; done) | (refine scan_gld3 _ _ _ _ _ _ _ _ _ _ _ _ _ _ _ _ _ _ _ _ _ ?_; simp; done))) rfl ?_
  exact ⟨rfl, by repeat (first | exact hG1 | refine Grw.alloc ?_ _ | refine Grw.ga ?_ _)⟩
set_option maxHeartbeats 2000000 in
set_option maxRecDepth 100000 in
theorem step_5z (l0 l1 l2 l3 l4 l5 l6 l7 N k dg va te pa fo c : Int) (h0 : 0 ≤ c) (h1 : c < 256) (b : 57 < c) (w : World) :
    Calls Tryd.prog 47 #[sv l0 l1 l2 l3 l4 l5 l6 l7 N k 5 dg va te pa fo, .int .u8 c] w fun e w' => e = .returned (sv l0 l1 l2 l3 l4 l5 l6 l7 N k 7 dg va te pa fo) ∧ Grw w w' := by
  go_enter Tryd.func47, Tryd.ntmps47
  go_wp2_with fail
  refine (refDigit_drew c h0 h1 _).mono ?_
  rintro e w1 ⟨rfl, m1, rfl⟩
  simp only [drewN_alloc, GA_drewN, GA_GA]
  obtain ⟨u1, hu, hz, hG1⟩ := drewN_grw w m1
  rw [← hu, ← hz]
  clear hu hz
  go_wp2_with fail
  try simp only [Exit.inBlock, Exit.then]
  refine bodyPost_ret (results_cell rfl rfl (by first | (refine scan_ld0 _ _ _ _ _ _ _ _ _ _ _ _ _ _ _ _ _ ?_; simp; done) | (refine scan_gld0 _ _ _ _ _ _ _ _ _ _ _ _ _ _ _ _ _ _ ?_; simp; done) | (refine scan_ld1 _ _ _ _ _ _ _ _ _ _ _ _ _ _ _ _ _ _ ?_; simp; done) | (refine scan_gld1 _ _ _ _ _ _ _ _ _ _ _ _ _ _ _ _ _ _ _ ?_; simp; done) | (refine scan_ld2 _ _ _ _ _ _ _ _ _ _ _ _ _ _ _ _ _ _ _ ?_; simp; done) | (refine scan_gld2 _ _ _ _ _ _ _ _ _ _ _ _ _ _ _ _ _ _ _ _ ?_; simp; done) | (refine scan_ld3 _ _ _ _ _ _ _ _ _ _ _ _ _ _ _ _ _ _ _ _ ?_; simp; done) | (refine scan_gld3 _ _ _ _ _ _ _ _ _ _ _ _ _ _ _ _ _ _ _ _ _ ?_; simp; done))) rfl ?_
  exact ⟨rfl, by repeat (first | exact hG1 | refine Grw.alloc ?_ _ | refine Grw.ga ?_ _)⟩
set_option maxHeartbeats 2000000 in
set_option maxRecDepth 100000 in
theorem step_6d (l0 l1 l2 l3 l4 l5 l6 l7 N k dg va te pa fo c : Int) (h0 : 0 ≤ c) (h1 : c < 256) (a : 48 ≤ c) (b : c ≤ 57) (d1 : 0 < dg) (d2 : dg ≤ 1000) (e0 : 0 < te) (e1 : te ≤ 255) (hm : 10 * te + (c - 48) ≤ 255) (w : World) :
    Calls Tryd.prog 47 #[sv l0 l1 l2 l3 l4 l5 l6 l7 N k 6 dg va te pa fo, .int .u8 c] w fun e w' => e = .returned (sv l0 l1 l2 l3 l4 l5 l6 l7 N k 6 (dg + 1) va (10 * te + (c - 48)) pa fo) ∧ Grw w w' := by
  go_enter Tryd.func47, Tryd.ntmps47
  go_wp2_with fail
  refine (refDigit_drew c h0 h1 _).mono ?_
  rintro e w1 ⟨rfl, m1, rfl⟩
  simp only [drewN_alloc, GA_drewN, GA_GA]
  obtain ⟨u1, hu, hz, hG1⟩ := drewN_grw w m1
  rw [← hu, ← hz]
  clear hu hz
  go_wp2_with fail
  try simp only [Exit.inBlock, Exit.then]
  refine bodyPost_ret (results_cell rfl rfl (by first | (refine scan_ld0 _ _ _ _ _ _ _ _ _ _ _ _ _ _ _ _ _ ?_; simp; done) | (refine scan_gld0 _ _ _ _ _ _ _ _ _ _ _ _ _ _ _ _ _ _ ?_; simp; done) | (refine scan_ld1 _ _ _ _ _ _ _ _ _ _ _ _ _ _ _ _ _ _ ?_; simp; done) | (refine scan_gld1 _ _ _ _ _ _ _ _ _ _ _ _ _ _ _ _ _ _ _ ?_; simp; done) | (refine scan_ld2 _ _ _ _ _ _ _ _ _ _ _ _ _ _ _ _ _ _ _ ?_; simp; done) | (refine scan_gld2 _ _ _ _ _ _ _ _ _ _ _ _ _ _ _ _ _ _ _ _ ?_; simp; done) | (refine scan_ld3 _ _ _ _ _ _ _ _ _ _ _ _ _ _ _ _ _ _ _ _ ?_; simp; done) | (refine scan_gld3 _ _ _ _ _ _ _ _ _ _ _ _ _ _ _ _ _ _ _ _ _ ?_; simp; done))) rfl ?_
  exact ⟨rfl, by repeat (first | exact hG1 | refine Grw.alloc ?_ _ | refine Grw.ga ?_ _)⟩
set_option maxHeartbeats 2000000 in
set_option maxRecDepth 100000 in
theorem step_6t (l0 l1 l2 l3 l4 l5 l6 l7 N k dg va te pa fo c : Int) (h0 : 0 ≤ c) (h1 : c < 256) (a : 48 ≤ c) (b : c ≤ 57) (d1 : 0 < dg) (e0 : te = 0) (w : World) :
    Calls Tryd.prog 47 #[sv l0 l1 l2 l3 l4 l5 l6 l7 N k 6 dg va te pa fo, .int .u8 c] w fun e w' => e = .returned (sv l0 l1 l2 l3 l4 l5 l6 l7 N k 7 dg va 0 pa fo) ∧ Grw w w' := by
  subst e0
  go_enter Tryd.func47, Tryd.ntmps47
  go_wp2_with fail
  refine (refDigit_drew c h0 h1 _).mono ?_
  rintro e w1 ⟨rfl, m1, rfl⟩
  simp only [drewN_alloc, GA_drewN, GA_GA]
  obtain ⟨u1, hu, hz, hG1⟩ := drewN_grw w m1
  rw [← hu, ← hz]
  clear hu hz
  go_wp2_with fail
  try simp only [Exit.inBlock, Exit.then]
  refine bodyPost_ret (results_cell rfl rfl (by first | (refine scan_ld0 _ _ _ _ _ _ _ _ _ _ _ _ _ _ _ _ _ ?_; simp; done) | (refine scan_gld0 _ _ _ _ _ _ _ _ _ _ _ _ _ _ _ _ _ _ ?_; simp; done) | (refine scan_ld1 _ _ _ _ _ _ _ _ _ _ _ _ _ _ _ _ _ _ ?_; simp; done) | (refine scan_gld1 _ _ _ _ _ _ _ _ _ _ _ _ _ _ _ _ _ _ _ ?_; simp; done) | (refine scan_ld2 _ _ _ _ _ _ _ _ _ _ _ _ _ _ _ _ _ _ _ ?_; simp; done) | (refine scan_gld2 _ _ _ _ _ _ _ _ _ _ _ _ _ _ _ _ _ _ _ _ ?_; simp; done) | (refine scan_ld3 _ _ _ _ _ _ _ _ _ _ _ _ _ _ _ _ _ _ _ _ ?_; simp; done) | (refine scan_gld3 _ _ _ _ _ _ _ _ _ _ _ _ _ _ _ _ _ _ _ _ _ ?_; simp; done))) rfl ?_
  exact ⟨rfl, by repeat (first | exact hG1 | refine Grw.alloc ?_ _ | refine Grw.ga ?_ _)⟩
set_option maxHeartbeats 2000000 in
set_option maxRecDepth 100000 in
theorem step_6m (l0 l1 l2 l3 l4 l5 l6 l7 N k dg va te pa fo c : Int) (h0 : 0 ≤ c) (h1 : c < 256) (a : 48 ≤ c) (b : c ≤ 57) (d1 : 0 < dg) (e0 : 0 < te) (e1 : te ≤ 255) (hm : 255 < 10 * te + (c - 48)) (w : World) :
    Calls Tryd.prog 47 #[sv l0 l1 l2 l3 l4 l5 l6 l7 N k 6 dg va te pa fo, .int .u8 c] w fun e w' => e = .returned (sv l0 l1 l2 l3 l4 l5 l6 l7 N k 7 dg va te pa fo) ∧ Grw w w' := by
  go_enter Tryd.func47, Tryd.ntmps47
  go_wp2_with fail
  refine (refDigit_drew c h0 h1 _).mono ?_
  rintro e w1 ⟨rfl, m1, rfl⟩
  simp only [drewN_alloc, GA_drewN, GA_GA]
  obtain ⟨u1, hu, hz, hG1⟩ := drewN_grw w m1
  rw [← hu, ← hz]
  clear hu hz
  go_wp2_with fail
  try simp only [Exit.inBlock, Exit.then]
  refine bodyPost_ret (results_cell rfl rfl (by first | (refine scan_ld0 _ _ _ _ _ _ _ _ _ _ _ _ _ _ _ _ _ ?_; simp; done) | (refine scan_gld0 _ _ _ _ _ _ _ _ _ _ _ _ _ _ _ _ _ _ ?_; simp; done) | (refine scan_ld1 _ _ _ _ _ _ _ _ _ _ _ _ _ _ _ _ _ _ ?_; simp; done) | (refine scan_gld1 _ _ _ _ _ _ _ _ _ _ _ _ _ _ _ _ _ _ _ ?_; simp; done) | (refine scan_ld2 _ _ _ _ _ _ _ _ _ _ _ _ _ _ _ _ _ _ _ ?_; simp; done) | (refine scan_gld2 _ _ _ _ _ _ _ _ _ _ _ _ _ _ _ _ _ _ _ _ ?_; simp; done) | (refine scan_ld3 _ _ _ _ _ _ _ _ _ _ _ _ _ _ _ _ _ _ _ _ ?_; simp; done) | (refine scan_gld3 _ _ _ _ _ _ _ _ _ _ _ _ _ _ _ _ _ _ _ _ _ ?_; simp; done))) rfl ?_
  exact ⟨rfl, by repeat (first | exact hG1 | refine Grw.alloc ?_ _ | refine Grw.ga ?_ _)⟩
set_option maxHeartbeats 2000000 in
set_option maxRecDepth 100000 in
theorem step_6y (l0 l1 l2 l3 l4 l5 l6 l7 N k dg va te pa fo c : Int) (h0 : 0 ≤ c) (h1 : c < 256) (a : c < 48) (hs : (c == 46) = false) (w : World) :
    Calls Tryd.prog 47 #[sv l0 l1 l2 l3 l4 l5 l6 l7 N k 6 dg va te pa fo, .int .u8 c] w fun e w' => e = .returned (sv l0 l1 l2 l3 l4 l5 l6 l7 N k 7 dg va te pa fo) ∧ Grw w w' := by
  go_enter Tryd.func47, Tryd.ntmps47
  go_wp2_with fail
  refine (refDigit_drew c h0 h1 _).mono ?_
  rintro e w1 ⟨rfl, m1, rfl⟩
  simp only [drewN_alloc, GA_drewN, GA_GA]
  obtain ⟨u1, hu, hz, hG1⟩ := drewN_grw w m1
  rw [← hu, ← hz]
  clear hu hz
  go_wp2_with fail
  try simp only [Exit.inBlock, Exit.then]
  refine bodyPost_ret (results_cell rfl rfl (by first | (refine scan_ld0 _ _ _ _ _ _ _ _ _ _ _ _ _ _ _ _ _ ?_; simp; done) | (refine scan_gld0 _ _ _ _ _ _ _ _ _ _ _ _ _ _ _ _ _ _ ?_; simp; done) | (refine scan_ld1 _ _ _ _ _ _ _ _ _ _ _ _ _ _ _ _ _ _ ?_; simp; done) | (refine scan_gld1 _ _ _ _ _ _ _ _ _ _ _ _ _ _ _ _ _ _ _ ?_; simp; done) | (refine scan_ld2 _ _ _ _ _ _ _ _ _ _ _ _ _ _ _ _ _ _ _ ?_; simp; done) | (refine scan_gld2 _ _ _ _ _ _ _ _ _ _ _ _ _ _ _ _ _ _ _ _ ?_; simp; done) | (refine scan_ld3 _ _ _ _ _ _ _ _ _ _ _ _ _ _ _ _ _ _ _ _ ?_; simp; done) | (refine scan_gld3 _ _ _ _ _ _ _ _ _ _ _ _ _ _ _ _ _ _ _ _ _ ?_; simp; done))) rfl ?_
  exact ⟨rfl, by repeat (first | exact hG1 | refine Grw.alloc ?_ _ | refine Grw.ga ?_ _)⟩
set_option maxHeartbeats 2000000 in
set_option maxRecDepth 100000 in
theorem step_6z (l0 l1 l2 l3 l4 l5 l6 l7 N k dg va te pa fo c : Int) (h0 : 0 ≤ c) (h1 : c < 256) (b : 57 < c) (w : World) :
    Calls Tryd.prog 47 #[sv l0 l1 l2 l3 l4 l5 l6 l7 N k 6 dg va te pa fo, .int .u8 c] w fun e w' => e = .returned (sv l0 l1 l2 l3 l4 l5 l6 l7 N k 7 dg va te pa fo) ∧ Grw w w' := by
  go_enter Tryd.func47, Tryd.ntmps47
  go_wp2_with fail
  refine (refDigit_drew c h0 h1 _).mono ?_
  rintro e w1 ⟨rfl, m1, rfl⟩
  simp only [drewN_alloc, GA_drewN, GA_GA]
  obtain ⟨u1, hu, hz, hG1⟩ := drewN_grw w m1
  rw [← hu, ← hz]
  clear hu hz
  go_wp2_with fail
  try simp only [Exit.inBlock, Exit.then]
  refine bodyPost_ret (results_cell rfl rfl (by first | (refine scan_ld0 _ _ _ _ _ _ _ _ _ _ _ _ _ _ _ _ _ ?_; simp; done) | (refine scan_gld0 _ _ _ _ _ _ _ _ _ _ _ _ _ _ _ _ _ _ ?_; simp; done) | (refine scan_ld1 _ _ _ _ _ _ _ _ _ _ _ _ _ _ _ _ _ _ ?_; simp; done) | (refine scan_gld1 _ _ _ _ _ _ _ _ _ _ _ _ _ _ _ _ _ _ _ ?_; simp; done) | (refine scan_ld2 _ _ _ _ _ _ _ _ _ _ _ _ _ _ _ _ _ _ _ ?_; simp; done) | (refine scan_gld2 _ _ _ _ _ _ _ _ _ _ _ _ _ _ _ _ _ _ _ _ ?_; simp; done) | (refine scan_ld3 _ _ _ _ _ _ _ _ _ _ _ _ _ _ _ _ _ _ _ _ ?_; simp; done) | (refine scan_gld3 _ _ _ _ _ _ _ _ _ _ _ _ _ _ _ _ _ _ _ _ _ ?_; simp; done))) rfl ?_
  exact ⟨rfl, by repeat (first | exact hG1 | refine Grw.alloc ?_ _ | refine Grw.ga ?_ _)⟩
set_option maxHeartbeats 2000000 in
set_option maxRecDepth 100000 in
theorem step_6s (l0 l1 l2 l3 l4 l5 l6 l7 N k dg va te pa fo c : Int) (h0 : 0 ≤ c) (h1 : c < 256) (p1 : pa < 3) (p0 : 0 ≤ pa) (f0 : 0 ≤ fo) (f1 : fo ≤ 16777215) (e0 : 0 ≤ te) (e1 : te ≤ 255) (hc : c = 46) (w : World) :
    Calls Tryd.prog 47 #[sv l0 l1 l2 l3 l4 l5 l6 l7 N k 6 dg va te pa fo, .int .u8 c] w fun e w' => e = .returned (sv l0 l1 l2 l3 l4 l5 l6 l7 N k 5 dg va te (pa + 1) (256 * fo + te)) ∧ Grw w w' := by
  subst hc
  go_enter Tryd.func47, Tryd.ntmps47
  go_wp2_with fail
  refine (refDigit_drew 46 h0 h1 _).mono ?_
  rintro e w1 ⟨rfl, m1, rfl⟩
  simp only [drewN_alloc, GA_drewN, GA_GA]
  obtain ⟨u1, hu, hz, hG1⟩ := drewN_grw w m1
  rw [← hu, ← hz]
  clear hu hz
  go_wp2_with fail
  try simp only [Exit.inBlock, Exit.then]
  refine bodyPost_ret (results_cell rfl rfl (by first | (refine scan_ld0 _ _ _ _ _ _ _ _ _ _ _ _ _ _ _ _ _ ?_; simp; done) | (refine scan_gld0 _ _ _ _ _ _ _ _ _ _ _ _ _ _ _ _ _ _ ?_; simp; done) | (refine scan_ld1 _ _ _ _ _ _ _ _ _ _ _ _ _ _ _ _ _ _ ?_; simp; done) | (refine scan_gld1 _ _ _ _ _ _ _ _ _ _ _ _ _ _ _ _ _ _ _ ?_; simp; done) | (refine scan_ld2 _ _ _ _ _ _ _ _ _ _ _ _ _ _ _ _ _ _ _ ?_; simp; done) | (refine scan_gld2 _ _ _ _ _ _ _ _ _ _ _ _ _ _ _ _ _ _ _ _ ?_; simp; done) | (refine scan_ld3 _ _ _ _ _ _ _ _ _ _ _ _ _ _ _ _ _ _ _ _ ?_; simp; done) | (refine scan_gld3 _ _ _ _ _ _ _ _ _ _ _ _ _ _ _ _ _ _ _ _ _ ?_; simp; done))) rfl ?_
  exact ⟨rfl, by repeat (first | exact hG1 | refine Grw.alloc ?_ _ | refine Grw.ga ?_ _)⟩
set_option maxHeartbeats 2000000 in
set_option maxRecDepth 100000 in
theorem step_6r (l0 l1 l2 l3 l4 l5 l6 l7 N k dg va te pa fo c : Int) (h0 : 0 ≤ c) (h1 : c < 256) (p1 : 3 ≤ pa) (hc : c = 46) (w : World) :
    Calls Tryd.prog 47 #[sv l0 l1 l2 l3 l4 l5 l6 l7 N k 6 dg va te pa fo, .int .u8 c] w fun e w' => e = .returned (sv l0 l1 l2 l3 l4 l5 l6 l7 N k 7 dg va te pa fo) ∧ Grw w w' := by
  subst hc
  go_enter Tryd.func47, Tryd.ntmps47
  go_wp2_with fail
  refine (refDigit_drew 46 h0 h1 _).mono ?_
  rintro e w1 ⟨rfl, m1, rfl⟩
  simp only [drewN_alloc, GA_drewN, GA_GA]
  obtain ⟨u1, hu, hz, hG1⟩ := drewN_grw w m1
  rw [← hu, ← hz]
  clear hu hz
  go_wp2_with fail
  try simp only [Exit.inBlock, Exit.then]
  refine bodyPost_ret (results_cell rfl rfl (by first | (refine scan_ld0 _ _ _ _ _ _ _ _ _ _ _ _ _ _ _ _ _ ?_; simp; done) | (refine scan_gld0 _ _ _ _ _ _ _ _ _ _ _ _ _ _ _ _ _ _ ?_; simp; done) | (refine scan_ld1 _ _ _ _ _ _ _ _ _ _ _ _ _ _ _ _ _ _ ?_; simp; done) | (refine scan_gld1 _ _ _ _ _ _ _ _ _ _ _ _ _ _ _ _ _ _ _ ?_; simp; done) | (refine scan_ld2 _ _ _ _ _ _ _ _ _ _ _ _ _ _ _ _ _ _ _ ?_; simp; done) | (refine scan_gld2 _ _ _ _ _ _ _ _ _ _ _ _ _ _ _ _ _ _ _ _ ?_; simp; done) | (refine scan_ld3 _ _ _ _ _ _ _ _ _ _ _ _ _ _ _ _ _ _ _ _ ?_; simp; done) | (refine scan_gld3 _ _ _ _ _ _ _ _ _ _ _ _ _ _ _ _ _ _ _ _ _ ?_; simp; done))) rfl ?_
  exact ⟨rfl, by repeat (first | exact hG1 | refine Grw.alloc ?_ _ | refine Grw.ga ?_ _)⟩
theorem first_eq (L : Nat → Int) (N k pa fo c : Int) (u : Unit) : sv (L 0) (L 1) (L 2) (L 3) (L 4) (L 5) (L 6) (L 7) N k 4 1 (digV c 16) (tenM 0 0 c) pa fo =
    scV ⟨L, N, k, 4, 0 + 1, 16 * 0 + digV c 16, if c < 48 ∨ 57 < c ∨ (0 : Int) < 0 ∧ (0 : Int) = 0 ∨ (0 : Int) < 0 ∨ 255 < 10 * 0 + (c - 48) then -1 else 10 * 0 + (c - 48), pa, fo⟩ := by
  show _ = sv (L 0) (L 1) (L 2) (L 3) (L 4) (L 5) (L 6) (L 7) N k 4 (0 + 1) (16 * 0 + digV c 16) (if c < 48 ∨ 57 < c ∨ (0 : Int) < 0 ∧ (0 : Int) = 0 ∨ (0 : Int) < 0 ∨ 255 < 10 * 0 + (c - 48) then -1 else 10 * 0 + (c - 48)) pa fo
  rw [show 16 * (0 : Int) + digV c 16 = digV c 16 by omega]
  rfl
/-- What is known of a scan, that a step may be walked. -/
structure ScOk (x : Sc) : Prop where
  n0 : 0 ≤ x.N
  n7 : x.N ≤ 7
  s0 : 0 ≤ x.st
  s6 : x.st ≤ 6
  a4 : x.st = 4 → x.parts = 0 ∧ 0 ≤ x.digs ∧ x.digs ≤ 100 ∧ 0 ≤ x.val ∧ x.val ≤ 65535 ∧ -1 ≤ x.ten ∧ x.ten ≤ 255
  a6 : x.st = 6 → 0 < x.digs ∧ x.digs ≤ 100 ∧ 0 ≤ x.ten ∧ x.ten ≤ 255 ∧ 0 ≤ x.parts ∧ 0 ≤ x.four ∧ x.four ≤ 16777215
theorem sc_ret {w W : World} {e : Ending} {y : Sc} {v : Value} (h : e = .returned v ∧ Grw w W) (hv : v = scV y) : e = .returned (scV y) ∧ Grw w W := ⟨h.1.trans (by rw [hv]), h.2⟩
theorem step_walk (x : Sc) (h : ScOk x) (c : Int) (h0 : 0 ≤ c) (h1 : c < 256) (w : World) :
    Calls Tryd.prog 47 #[scV x, .int .u8 c] w fun e w' => e = .returned (scV (x.step c)) ∧ Grw w w' := by
  obtain ⟨L, N, k, st, dg, va, te, pa, fo⟩ := x
  obtain ⟨n0, n7, s0, s6, a4, a6⟩ := h
  dsimp only at n0 n7 s0 s6 a4 a6
  have x0 := digV_lo c 16
  have x1 : digV c 16 ≤ 15 := by have := digV_lt (b := c) (base := 16) (by decide); omega
  have e16 := digV16 c
  have hst : st = 0 ∨ st = 1 ∨ st = 2 ∨ st = 3 ∨ st = 4 ∨ st = 5 ∨ st = 6 := by omega
  unfold Sc.step Sc.first Sc.more Sc.dotted Sc.closed Sc.bad Sc.room Sc.fits
  dsimp only
  by_cases hc : c = 58
  · have hcb : (c == 58) = true := beq_iff_eq.2 hc
    have hx : digV c 16 < 0 := by rw [e16, hc]; decide
    rcases hst with rfl | rfl | rfl | rfl | rfl | rfl | rfl
    · rw [if_pos rfl, if_pos hc]
      exact (step_0c _ _ _ _ _ _ _ _ N k dg va te pa fo c h0 h1 hc w).mono fun _ _ q => sc_ret q rfl
    · rw [if_neg (by decide), if_pos rfl, if_pos hc]
      exact (step_1c _ _ _ _ _ _ _ _ N k dg va te pa fo c h0 h1 hc w).mono fun _ _ q => sc_ret q rfl
    · rw [if_neg (by decide), if_neg (by decide), if_pos rfl]
      by_cases hk : k < 0
      · rw [if_pos ⟨hc, hk, n7⟩]
        exact (step_2c _ _ _ _ _ _ _ _ N k dg va te pa fo c h0 h1 hk n7 hc w).mono fun _ _ q => sc_ret q rfl
      · rw [if_neg (by omega)]
        rw [if_pos (.inl hx)]
        exact (step_2gn _ _ _ _ _ _ _ _ N k dg va te pa fo c h0 h1 n0 n7 x0 x1 (by omega) hcb (.inl hx) w).mono fun _ _ q => sc_ret q rfl
    · rw [if_neg (by decide), if_neg (by decide), if_neg (by decide), if_pos rfl, if_pos (.inl hx)]
      exact (step_3n _ _ _ _ _ _ _ _ N k dg va te pa fo c h0 h1 n0 n7 x0 x1 (.inl hx) w).mono fun _ _ q => sc_ret q rfl
    · obtain ⟨rfl, d0, d1, v0, v1, t0, t1⟩ := a4 rfl
      rw [if_neg (by decide), if_neg (by decide), if_neg (by decide), if_neg (by decide), if_pos rfl, if_neg (by omega), if_pos ⟨hc, rfl⟩]
      by_cases hN : N = 7
      · rw [if_pos (.inl (by omega))]
        subst hN
        exact (step_4c8 _ _ _ _ _ _ _ _ 7 k dg va te 0 fo c h0 h1 (by decide) (by decide) v0 v1 hx rfl rfl hc w).mono fun _ _ q => sc_ret q rfl
      · by_cases hk : 0 ≤ k
        · by_cases h6 : N = 6
          · rw [if_pos (.inr (by omega))]
            subst h6
            exact (step_4c7 _ _ _ _ _ _ _ _ 6 k dg va te 0 fo c h0 h1 (by decide) (by decide) v0 v1 hx rfl hk rfl hc w).mono fun _ _ q => sc_ret q rfl
          · rw [if_neg (by omega)]
            exact (step_4ck _ _ _ _ _ _ _ _ N k dg va te 0 fo c h0 h1 n0 n7 v0 v1 hx rfl hk (by omega) (beq_eq_false_iff_ne.2 (by omega)) hc w).mono fun _ _ q => sc_ret q (by simp only [cl_eq v0 v1]; rfl)
        · rw [if_neg (by omega)]
          exact (step_4cn _ _ _ _ _ _ _ _ N k dg va te 0 fo c h0 h1 n0 n7 v0 v1 hx rfl (by omega) (by omega) hc w).mono fun _ _ q => sc_ret q (by simp only [cl_eq v0 v1]; rfl)
    · rw [if_neg (by decide), if_neg (by decide), if_neg (by decide), if_neg (by decide), if_neg (by decide), if_pos rfl, if_neg (by omega)]
      exact (step_5z _ _ _ _ _ _ _ _ N k dg va te pa fo c h0 h1 (by omega) w).mono fun _ _ q => sc_ret q rfl
    · rw [if_neg (by decide), if_neg (by decide), if_neg (by decide), if_neg (by decide), if_neg (by decide), if_neg (by decide), if_pos rfl, if_neg (by omega), if_neg (by omega)]
      exact (step_6z _ _ _ _ _ _ _ _ N k dg va te pa fo c h0 h1 (by omega) w).mono fun _ _ q => sc_ret q rfl
  · have hcb : (c == 58) = false := beq_eq_false_iff_ne.2 hc
    rcases hst with rfl | rfl | rfl | rfl | rfl | rfl | rfl
    · rw [if_pos rfl, if_neg hc]
      by_cases hf : digV c 16 < 0 ∨ (if 0 ≤ k then 7 - N else 8 - N) < 1
      · rw [if_pos hf]
        exact (step_0n _ _ _ _ _ _ _ _ N k dg va te pa fo c h0 h1 n0 n7 x0 x1 hcb hf w).mono fun _ _ q => sc_ret q rfl
      · rw [if_neg hf]
        exact (step_0y _ _ _ _ _ _ _ _ N k dg va te pa fo c h0 h1 n0 n7 x0 x1 hcb hf w).mono fun _ _ q => sc_ret q (first_eq L N k pa fo c ())
    · rw [if_neg (by decide), if_pos rfl, if_neg hc]
      exact (step_1 _ _ _ _ _ _ _ _ N k dg va te pa fo c h0 h1 hcb w).mono fun _ _ q => sc_ret q rfl
    · rw [if_neg (by decide), if_neg (by decide), if_pos rfl, if_neg (by omega)]
      by_cases hf : digV c 16 < 0 ∨ (if 0 ≤ k then 7 - N else 8 - N) < 1
      · rw [if_pos hf]
        exact (step_2n _ _ _ _ _ _ _ _ N k dg va te pa fo c h0 h1 n0 n7 x0 x1 hcb hf w).mono fun _ _ q => sc_ret q rfl
      · rw [if_neg hf]
        exact (step_2y _ _ _ _ _ _ _ _ N k dg va te pa fo c h0 h1 n0 n7 x0 x1 hcb hf w).mono fun _ _ q => sc_ret q (first_eq L N k pa fo c ())
    · rw [if_neg (by decide), if_neg (by decide), if_neg (by decide), if_pos rfl]
      by_cases hf : digV c 16 < 0 ∨ (if 0 ≤ k then 7 - N else 8 - N) < 1
      · rw [if_pos hf]
        exact (step_3n _ _ _ _ _ _ _ _ N k dg va te pa fo c h0 h1 n0 n7 x0 x1 hf w).mono fun _ _ q => sc_ret q rfl
      · rw [if_neg hf]
        exact (step_3y _ _ _ _ _ _ _ _ N k dg va te pa fo c h0 h1 n0 n7 x0 x1 hf w).mono fun _ _ q => sc_ret q (first_eq L N k pa fo c ())
    · obtain ⟨rfl, d0, d1, v0, v1, t0, t1⟩ := a4 rfl
      rw [if_neg (by decide), if_neg (by decide), if_neg (by decide), if_neg (by decide), if_pos rfl]
      by_cases hx : 0 ≤ digV c 16
      · rw [if_pos hx]
        by_cases h4 : dg = 4
        · rw [if_pos h4]
          subst h4
          exact (step_4x _ _ _ _ _ _ _ _ N k 4 va te 0 fo c h0 h1 hx rfl w).mono fun _ _ q => sc_ret q rfl
        · rw [if_neg h4]
          exact (step_4m _ _ _ _ _ _ _ _ N k dg va te 0 fo c h0 h1 n0 n7 x0 x1 d0 d1 v0 v1 t0 t1 hx (beq_eq_false_iff_ne.2 h4) w).mono fun _ _ q => sc_ret q rfl
      · rw [if_neg hx, if_neg (by omega)]
        by_cases hs : c = 46
        · rw [if_pos hs]
          have hfe : (te < 0 ∨ decide (N = 6 ∧ k < 0 ∨ N ≤ 5 ∧ 0 ≤ k) = false) ↔ (te < 0 ∨ ¬ (N = 6 ∧ k < 0 ∨ N ≤ 5 ∧ 0 ≤ k)) := by rw [decide_eq_false_iff_not]
          by_cases hf : te < 0 ∨ ¬ (N = 6 ∧ k < 0 ∨ N ≤ 5 ∧ 0 ≤ k)
          · rw [if_pos (hfe.2 hf)]
            exact (step_4pn _ _ _ _ _ _ _ _ N k dg va te 0 fo c h0 h1 (by omega) hs hf w).mono fun _ _ q => sc_ret q rfl
          · rw [if_neg (fun z => hf (hfe.1 z))]
            exact (step_4py _ _ _ _ _ _ _ _ N k dg va te 0 fo c h0 h1 (by omega) hs hf w).mono fun _ _ q => sc_ret q rfl
        · rw [if_neg hs]
          exact (step_4z _ _ _ _ _ _ _ _ N k dg va te 0 fo c h0 h1 (by omega) hcb (beq_eq_false_iff_ne.2 hs) w).mono fun _ _ q => sc_ret q rfl
    · rw [if_neg (by decide), if_neg (by decide), if_neg (by decide), if_neg (by decide), if_neg (by decide), if_pos rfl]
      by_cases a : 48 ≤ c
      · by_cases b : c ≤ 57
        · rw [if_pos ⟨a, b⟩]
          exact (step_5d _ _ _ _ _ _ _ _ N k dg va te pa fo c h0 h1 a b w).mono fun _ _ q => sc_ret q rfl
        · rw [if_neg (by omega)]
          exact (step_5z _ _ _ _ _ _ _ _ N k dg va te pa fo c h0 h1 (by omega) w).mono fun _ _ q => sc_ret q rfl
      · rw [if_neg (by omega)]
        exact (step_5y _ _ _ _ _ _ _ _ N k dg va te pa fo c h0 h1 (by omega) w).mono fun _ _ q => sc_ret q rfl
    · obtain ⟨d6', d1, t6', t1, p0, f0, f1⟩ := a6 rfl
      rw [if_neg (by decide), if_neg (by decide), if_neg (by decide), if_neg (by decide), if_neg (by decide), if_neg (by decide), if_pos rfl]
      by_cases hs : c = 46
      · rw [if_neg (by omega)]
        by_cases hp : pa < 3
        · rw [if_pos ⟨hs, hp⟩]
          exact (step_6s _ _ _ _ _ _ _ _ N k dg va te pa fo c h0 h1 hp p0 f0 f1 t6' t1 hs w).mono fun _ _ q => sc_ret q rfl
        · rw [if_neg (by omega)]
          exact (step_6r _ _ _ _ _ _ _ _ N k dg va te pa fo c h0 h1 (by omega) hs w).mono fun _ _ q => sc_ret q rfl
      · by_cases a : 48 ≤ c
        · by_cases b : c ≤ 57
          · by_cases ht : te = 0
            · rw [if_neg (by omega), if_neg (by omega)]
              subst ht
              exact (step_6t _ _ _ _ _ _ _ _ N k dg va 0 pa fo c h0 h1 a b d6' rfl w).mono fun _ _ q => sc_ret q rfl
            · by_cases hm : 10 * te + (c - 48) ≤ 255
              · rw [if_pos ⟨a, b, d6', by omega, hm⟩]
                exact (step_6d _ _ _ _ _ _ _ _ N k dg va te pa fo c h0 h1 a b d6' (by omega) (by omega) t1 hm w).mono fun _ _ q => sc_ret q rfl
              · rw [if_neg (by omega), if_neg (by omega)]
                exact (step_6m _ _ _ _ _ _ _ _ N k dg va te pa fo c h0 h1 a b d6' (by omega) t1 (by omega) w).mono fun _ _ q => sc_ret q rfl
          · rw [if_neg (by omega), if_neg (by omega)]
            exact (step_6z _ _ _ _ _ _ _ _ N k dg va te pa fo c h0 h1 (by omega) w).mono fun _ _ q => sc_ret q rfl
        · rw [if_neg (by omega), if_neg (by omega)]
          exact (step_6y _ _ _ _ _ _ _ _ N k dg va te pa fo c h0 h1 (by omega) (beq_eq_false_iff_ne.2 hs) w).mono fun _ _ q => sc_ret q rfl
end Go.Proofs.YtcgdjnmfeibnoaaDoor
/-! SixWhole -/
namespace Go.Proofs.YtcgdjnmfeibnoaaDoor
open Go.RowKit Go.Proofs.YtcgdjnmfeibnoaaDoorW.PrintWords Go.Proofs.YtcgdjnmfeibnoaaDoor.X
set_option linter.unusedVariables false
set_option linter.unusedSimpArgs false
abbrev scC (x : Sc) : Array Value := #[.int .u16 (x.L 0), .int .u16 (x.L 1), .int .u16 (x.L 2), .int .u16 (x.L 3), .int .u16 (x.L 4), .int .u16 (x.L 5), .int .u16 (x.L 6), .int .u16 (x.L 7), .int .i64 x.N, .int .i64 x.skip, .int .i64 x.st, .int .i64 x.digs, .int .i64 x.val, .int .i64 x.ten, .int .i64 x.parts, .int .i64 x.four]
def ar8 (f : Nat → Int) : Array Value := #[.int .u16 (f 0), .int .u16 (f 1), .int .u16 (f 2), .int .u16 (f 3), .int .u16 (f 4), .int .u16 (f 5), .int .u16 (f 6), .int .u16 (f 7)]
theorem ar8_get (f : Nat → Int) : ∀ (n : Nat), n < 8 → (ar8 f)[n]? = some (.int .u16 (f n))
  | 0, _ => rfl | 1, _ => rfl | 2, _ => rfl | 3, _ => rfl | 4, _ => rfl | 5, _ => rfl | 6, _ => rfl | 7, _ => rfl
  | n + 8, h => absurd h (by omega)
theorem ar8_set (f : Nat → Int) (v : Int) : ∀ (n : Nat), n < 8 → (ar8 f).setIfInBounds n (.int .u16 v) = ar8 (fun j => if j = n then v else f j)
  | 0, _ => rfl | 1, _ => rfl | 2, _ => rfl | 3, _ => rfl | 4, _ => rfl | 5, _ => rfl | 6, _ => rfl | 7, _ => rfl
  | n + 8, h => absurd h (by omega)
theorem ar8_ext {f g : Nat → Int} (h : ∀ j, j < 8 → f j = g j) : ar8 f = ar8 g := by
  unfold ar8
  rw [h 0 (by decide), h 1 (by decide), h 2 (by decide), h 3 (by decide), h 4 (by decide), h 5 (by decide), h 6 (by decide), h 7 (by decide)]
theorem scC_get (x : Sc) : ∀ (n : Nat), n < 8 → (scC x)[n]? = some (.int .u16 (x.L n))
  | 0, _ => rfl | 1, _ => rfl | 2, _ => rfl | 3, _ => rfl | 4, _ => rfl | 5, _ => rfl | 6, _ => rfl | 7, _ => rfl
  | n + 8, h => absurd h (by omega)
theorem scC_set (x : Sc) (v : Int) : ∀ (n : Nat), n < 8 → (scC x).setIfInBounds n (.int .u16 v) = scC { x with L := fun j => if j = n then v else x.L j }
  | 0, _ => rfl | 1, _ => rfl | 2, _ => rfl | 3, _ => rfl | 4, _ => rfl | 5, _ => rfl | 6, _ => rfl | 7, _ => rfl
  | n + 8, h => absurd h (by omega)
theorem scC_ext {x y : Sc} (h : ∀ j, j < 8 → x.L j = y.L j) (e1 : x.N = y.N) (e2 : x.skip = y.skip) (e3 : x.st = y.st) (e4 : x.digs = y.digs) (e5 : x.val = y.val) (e6 : x.ten = y.ten) (e7 : x.parts = y.parts) (e8 : x.four = y.four) : scC x = scC y := by
  unfold scC
  rw [h 0 (by decide), h 1 (by decide), h 2 (by decide), h 3 (by decide), h 4 (by decide), h 5 (by decide), h 6 (by decide), h 7 (by decide), e1, e2, e3, e4, e5, e6, e7, e8]
/-- The boxes ahead of the last part. -/
structure WR (w : World) (y : Sc) (b1 b2 : Nat) (W : World) : Prop where
  k1 : W.heap[b1]? = some (.cells (scC y) 90 (0, 0))
  k2 : W.heap[b2]? = some (.cells (ar8 fun _ => 0) 30 (0, 0))
  l1 : w.heap.size ≤ b1
  l2 : w.heap.size ≤ b2
  ne : b1 ≠ b2
  below : Below w.heap.size w W
structure LR (w : World) (y : Sc) (b1 b2 b5 : Nat) (f : Nat → Int) (W : World) : Prop where
  k1 : W.heap[b1]? = some (.cells (scC y) 90 (0, 0))
  k2 : W.heap[b2]? = some (.cells (ar8 fun _ => 0) 30 (0, 0))
  k5 : W.heap[b5]? = some (.cells (ar8 f) 30 (0, 0))
  l1 : w.heap.size ≤ b1
  l2 : w.heap.size ≤ b2
  l5 : w.heap.size ≤ b5
  n12 : b1 ≠ b2
  n15 : b1 ≠ b5
  n25 : b2 ≠ b5
  below : Below w.heap.size w W
theorem LR.put {w W : World} {y : Sc} {b1 b2 b5 : Nat} {f g : Nat → Int} (h : LR w y b1 b2 b5 f W) (n : Nat) (hn : n < 8) (v : Int) (hg : ∀ j, j < 8 → (if j = n then v else f j) = g j) : LR w y b1 b2 b5 g (W.setCell ⟨b5, n, none⟩ (.int .u16 v)) :=
  ⟨blk_far h.k1 h.n15 _, blk_far h.k2 h.n25 _, blk_put h.k5 n _ ((ar8_set f v n hn).trans (ar8_ext hg)), h.l1, h.l2, h.l5, h.n12, h.n15, h.n25, h.below.setCell h.l5 _⟩
theorem WR.new {w W : World} {y : Sc} {b1 b2 : Nat} (h : WR w y b1 b2 W) : LR w y b1 b2 W.heap.size (fun _ => 0) (W.alloc (.cells #[.int .u16 0, .int .u16 0, .int .u16 0, .int .u16 0, .int .u16 0, .int .u16 0, .int .u16 0, .int .u16 0] 30)) :=
  ⟨blk_alloc h.k1 _, blk_alloc h.k2 _, blk_new _ _, h.l1, h.l2, h.below.size, h.ne, Nat.ne_of_lt (blk_lt h.k1), Nat.ne_of_lt (blk_lt h.k2), h.below.alloc h.below.size _⟩
theorem results_cell2 {fn : Func} {t u : Tmp} {ty : TypeId} {P : Program} {tmps : Array Value} {w : World} {a : Addr} {v : Value} (h : fn.results = #[.cell t ty, .tmp u]) (ht : tmps.getD t undef = .pointer (some a)) (hl : (loadVar ty a).run P w = .ok v w) :
    (results fn tmps).run P w = .ok (.tuple #[v, tmps.getD u undef]) w := by
  have ht' := ht
  simp at ht'
  simp [results, h, ht', asAddr, hl]
theorem blk_put8 {W : World} {b : Nat} {T : TypeId} {g : Nat → Int} (h : W.heap[b]? = some (.cells (ar8 g) T (0, 0))) (f : Nat → Int) :
    ((((((((W.setCell ⟨b, 0, none⟩ (.int .u16 (f 0))).setCell ⟨b, 1, none⟩ (.int .u16 (f 1))).setCell ⟨b, 2, none⟩ (.int .u16 (f 2))).setCell ⟨b, 3, none⟩ (.int .u16 (f 3))).setCell ⟨b, 4, none⟩ (.int .u16 (f 4))).setCell ⟨b, 5, none⟩ (.int .u16 (f 5))).setCell ⟨b, 6, none⟩ (.int .u16 (f 6))).setCell ⟨b, 7, none⟩ (.int .u16 (f 7))).heap[b]? = some (.cells (ar8 f) T (0, 0)) :=
  (blk_put (blk_put (blk_put (blk_put (blk_put (blk_put (blk_put (blk_put h 0 _ (ar8_set _ _ 0 (by decide))) 1 _ (ar8_set _ _ 1 (by decide))) 2 _ (ar8_set _ _ 2 (by decide))) 3 _ (ar8_set _ _ 3 (by decide))) 4 _ (ar8_set _ _ 4 (by decide))) 5 _ (ar8_set _ _ 5 (by decide))) 6 _ (ar8_set _ _ 6 (by decide))) 7 _ (ar8_set _ _ 7 (by decide))).trans (by
    refine congrArg some (congrArg (fun c => Obj.cells c T (0, 0)) (ar8_ext fun j hj => ?_))
    match j, hj with
    | 0, _ => rfl | 1, _ => rfl | 2, _ => rfl | 3, _ => rfl | 4, _ => rfl | 5, _ => rfl | 6, _ => rfl | 7, _ => rfl
    | j + 8, h => exact absurd h (by omega))
theorem blk_new1 (w : World) (o o' : Obj) : ((w.alloc o).alloc o').heap[w.heap.size + 1]? = some o' := by
  have := blk_new (w.alloc o) o'
  rwa [World.size_alloc] at this
theorem ld8 {W : World} {b : Nat} {f : Nat → Int} (h : W.heap[b]? = some (.cells (ar8 f) 30 (0, 0))) : (loadVar 30 ⟨b, 0, none⟩).run Tryd.prog W = .ok (.agg (ar8 f)) W :=
  run_loadVar_row _ _ 30 30 _ (0, 0) _ h Tryd.underlying30 rfl (by kernel_rfl)
theorem LR.congr {w W : World} {y : Sc} {b1 b2 b5 : Nat} {f g : Nat → Int} (h : LR w y b1 b2 b5 f W) (e : ∀ j, j < 8 → f j = g j) : LR w y b1 b2 b5 g W :=
  ⟨h.k1, h.k2, h.k5.trans (by rw [ar8_ext e]), h.l1, h.l2, h.l5, h.n12, h.n15, h.n25, h.below⟩
theorem LR.drewN {w W : World} {y : Sc} {b1 b2 b5 : Nat} {f : Nat → Int} (h : LR w y b1 b2 b5 f W) (q : Nat) : LR w y b1 b2 b5 f (W.drewN q) :=
  ⟨h.k1, h.k2, h.k5, h.l1, h.l2, h.l5, h.n12, h.n15, h.n25, bdn h.below q⟩
theorem LR.drew {w W : World} {y : Sc} {b1 b2 b5 : Nat} {f : Nat → Int} (h : LR w y b1 b2 b5 f W) : LR w y b1 b2 b5 f W.drew := h.drewN 1
theorem below_put8 {w W : World} (h : Below w.heap.size w W) {b : Nat} (hb : w.heap.size ≤ b) (v0 v1 v2 v3 v4 v5 v6 v7 : Value) :
    Below w.heap.size w ((((((((W.setCell ⟨b, 0, none⟩ v0).setCell ⟨b, 1, none⟩ v1).setCell ⟨b, 2, none⟩ v2).setCell ⟨b, 3, none⟩ v3).setCell ⟨b, 4, none⟩ v4).setCell ⟨b, 5, none⟩ v5).setCell ⟨b, 6, none⟩ v6).setCell ⟨b, 7, none⟩ v7) :=
  (((((((h.setCell hb _).setCell hb _).setCell hb _).setCell hb _).setCell hb _).setCell hb _).setCell hb _).setCell hb _
/-- The pieces ahead of the gap, and those behind it up to one. -/
def g2 (y : Sc) (K M m : Nat) : Nat → Int := fun j => if j < K then y.L j else if 8 + K ≤ j + M ∧ j + M < 8 + m then y.L (j + M - 8) else 0
theorem g2_start (y : Sc) (K M : Nat) (h : K ≤ M) : ∀ j, j < 8 → (if j < K then y.L j else 0) = g2 y K M K j := by
  intro j hj
  unfold g2
  by_cases e : j < K
  · rw [if_pos e, if_pos e]
  · rw [if_neg e, if_neg e, if_neg (by omega)]
theorem g2_fin (y : Sc) (n m j : Nat) (hM : y.N = (m : Nat)) (hj : j < 8) : g2 y n m m j = if (j : Int) < ((n : Nat) : Int) then y.L j else if 8 - y.N + ((n : Nat) : Int) ≤ j then y.L (j + y.N.toNat - 8) else 0 := by
  unfold g2
  rw [hM, Int.toNat_natCast]
  by_cases e : j < n
  · rw [if_pos e, if_pos (show (j : Int) < (n : Int) by omega)]
  · rw [if_neg e, if_neg (show ¬ (j : Int) < (n : Int) by omega)]
    by_cases e2 : 8 + n ≤ j + m
    · rw [if_pos (show 8 + n ≤ j + m ∧ j + m < 8 + m by omega), if_pos (show 8 - (m : Int) + (n : Int) ≤ (j : Int) by omega)]
    · rw [if_neg (show ¬ (8 + n ≤ j + m ∧ j + m < 8 + m) by omega), if_neg (show ¬ 8 - (m : Int) + (n : Int) ≤ (j : Int) by omega)]
theorem g2_step (y : Sc) (K M m p : Nat) (hm : K ≤ m) (hM : m < M) (hM8 : M ≤ 8) (hp : p + M = 8 + m) : ∀ j, j < 8 → (if j = p then y.L m else g2 y K M m j) = g2 y K M (m + 1) j := by
  intro j hj
  unfold g2
  by_cases e : j = p
  · subst e
    rw [if_pos rfl, if_neg (by omega), if_pos (by omega), show j + M - 8 = m by omega]
  · rw [if_neg e]
    by_cases e1 : j < K
    · rw [if_pos e1, if_pos e1]
    · rw [if_neg e1, if_neg e1]
      by_cases e2 : 8 + K ≤ j + M ∧ j + M < 8 + m
      · rw [if_pos e2, if_pos (by omega)]
      · rw [if_neg e2, if_neg (by omega)]
/-- What whole answers. -/
def WholeRet (x : Sc) (w : World) (e : Ending) (w' : World) : Prop :=
  ∃ (f : Nat → Int) (ok : Bool), e = .returned (.tuple #[.agg (ar8 f), .bool ok]) ∧ (ok = true → ∃ A, x.whole = some A ∧ ∀ j, j < 8 → f j = A j) ∧ (ok = false → x.whole = none) ∧ Below w.heap.size w w'
set_option maxHeartbeats 4000000 in
set_option maxRecDepth 100000 in
theorem whole_3 (L : Nat → Int) (N k dg va te pa fo : Int) (n0 : 0 ≤ N) (n7 : N ≤ 7) (k0 : -1 ≤ k) (k7 : k ≤ N) (w : World) :
    Calls Tryd.prog 48 #[scV ⟨L, N, k, 3, dg, va, te, pa, fo⟩] w (WholeRet ⟨L, N, k, 3, dg, va, te, pa, fo⟩ w) := by
  obtain ⟨y, hy⟩ : ∃ y : Sc, y = ⟨L, N, k, 3, dg, va, te, pa, fo⟩ := ⟨_, rfl⟩
  have hw : (⟨L, N, k, 3, dg, va, te, pa, fo⟩ : Sc).whole = y.fin := by rw [hy]; first | done | rfl | (subst hp; rfl)
  have hyk : y.skip = k := by rw [hy]; first | done | rfl
  have HY := Lib.hid hy
  have HN0 : Hid (0 ≤ y.N) := Lib.hid (by rw [hy]; first | exact n0 | (show 0 ≤ N + 1; omega) | (show 0 ≤ N + 2; omega))
  have HN8 : Hid (y.N ≤ 8) := Lib.hid (by rw [hy]; first | (show N ≤ 8; omega) | (show N + 1 ≤ 8; omega) | (show N + 2 ≤ 8; omega))
  have HKN : Hid (k ≤ y.N) := Lib.hid (by rw [hy]; first | (show k ≤ N; omega) | (show k ≤ N + 1; omega) | (show k ≤ N + 2; omega))
  go_enter Tryd.func48, Tryd.ntmps48
  go_upto_region 12 with fail
  go_cut [1, 2, 50] (fun s t u W => ∃ b1 b2 : Nat, s = .pointer (some ⟨b1, 0, none⟩) ∧ t = .pointer (some ⟨b2, 0, none⟩) ∧ u = .bool (decide (k < 0)) ∧ WR w y b1 b2 W)
  case first =>
    clear hy hw hyk
    go_wp2_with fail
    go_meet
    refine ⟨w.heap.size, w.heap.size + 1, rfl, rfl, rfl, ?_, ?_, by omega, by omega, by omega, ?_⟩
    · rw [HY.out]; exact blk_alloc (blk_new _ _) _
    · exact blk_new1 w _ _
    · go_grown
  case rest =>
    obtain ⟨b1, b2, rfl, rfl, rfl, hR⟩ := hcut
    have hwf : (⟨L, N, k, 3, dg, va, te, pa, fo⟩ : Sc).whole = y.fin := hw
    clear hw hy
    have hk : y.skip = k := hyk
    clear hyk
    have c8 : wc.cell? ⟨b1, 8, none⟩ = some (.int .i64 y.N) := (blk_cell hR.k1 8).trans rfl
    have c9 : wc.cell? ⟨b1, 9, none⟩ = some (.int .i64 k) := (blk_cell hR.k1 9).trans (by rw [← hk]; rfl)
    have HK := Lib.hid hk
    clear hk
    have HW := Lib.hid hwf
    clear hwf
    have hN0 : 0 ≤ y.N := HN0.out
    have hN8 : y.N ≤ 8 := HN8.out
    have hkN : k ≤ y.N := HKN.out
    by_cases hk : k < 0
    · have hkb : decide (k < 0) = true := decide_eq_true hk
      rw [hkb]
      have hne := hR.ne
      have hne' := hR.ne.symm
      have z0 : wc.cell? ⟨b1, 0, none⟩ = some (.int .u16 (y.L 0)) := (blk_cell hR.k1 0).trans rfl
      have y0 : wc.cell? ⟨b2, 0, none⟩ = some (.int .u16 0) := (blk_cell hR.k2 0).trans rfl
      have v0 : wc.frozen? ⟨b2, 0, none⟩ = false := blk_frozen hR.k2 0
      have z1 : wc.cell? ⟨b1, 1, none⟩ = some (.int .u16 (y.L 1)) := (blk_cell hR.k1 1).trans rfl
      have y1 : wc.cell? ⟨b2, 1, none⟩ = some (.int .u16 0) := (blk_cell hR.k2 1).trans rfl
      have v1 : wc.frozen? ⟨b2, 1, none⟩ = false := blk_frozen hR.k2 1
      have z2 : wc.cell? ⟨b1, 2, none⟩ = some (.int .u16 (y.L 2)) := (blk_cell hR.k1 2).trans rfl
      have y2 : wc.cell? ⟨b2, 2, none⟩ = some (.int .u16 0) := (blk_cell hR.k2 2).trans rfl
      have v2 : wc.frozen? ⟨b2, 2, none⟩ = false := blk_frozen hR.k2 2
      have z3 : wc.cell? ⟨b1, 3, none⟩ = some (.int .u16 (y.L 3)) := (blk_cell hR.k1 3).trans rfl
      have y3 : wc.cell? ⟨b2, 3, none⟩ = some (.int .u16 0) := (blk_cell hR.k2 3).trans rfl
      have v3 : wc.frozen? ⟨b2, 3, none⟩ = false := blk_frozen hR.k2 3
      have z4 : wc.cell? ⟨b1, 4, none⟩ = some (.int .u16 (y.L 4)) := (blk_cell hR.k1 4).trans rfl
      have y4 : wc.cell? ⟨b2, 4, none⟩ = some (.int .u16 0) := (blk_cell hR.k2 4).trans rfl
      have v4 : wc.frozen? ⟨b2, 4, none⟩ = false := blk_frozen hR.k2 4
      have z5 : wc.cell? ⟨b1, 5, none⟩ = some (.int .u16 (y.L 5)) := (blk_cell hR.k1 5).trans rfl
      have y5 : wc.cell? ⟨b2, 5, none⟩ = some (.int .u16 0) := (blk_cell hR.k2 5).trans rfl
      have v5 : wc.frozen? ⟨b2, 5, none⟩ = false := blk_frozen hR.k2 5
      have z6 : wc.cell? ⟨b1, 6, none⟩ = some (.int .u16 (y.L 6)) := (blk_cell hR.k1 6).trans rfl
      have y6 : wc.cell? ⟨b2, 6, none⟩ = some (.int .u16 0) := (blk_cell hR.k2 6).trans rfl
      have v6 : wc.frozen? ⟨b2, 6, none⟩ = false := blk_frozen hR.k2 6
      have z7 : wc.cell? ⟨b1, 7, none⟩ = some (.int .u16 (y.L 7)) := (blk_cell hR.k1 7).trans rfl
      have y7 : wc.cell? ⟨b2, 7, none⟩ = some (.int .u16 0) := (blk_cell hR.k2 7).trans rfl
      have v7 : wc.frozen? ⟨b2, 7, none⟩ = false := blk_frozen hR.k2 7
      go_wp2_with fail
      go_region
      all_goals go_wp2_with fail
      try simp only [Exit.inBlock, Exit.then]
      refine bodyPost_ret (results_cell2 rfl rfl (ld8 (blk_drew (blk_put8 hR.k2 y.L)))) rfl ?_
      refine ⟨y.L, (y.N == 8), ?_, ?_, ?_, ?_⟩
      · simp
      · intro h
        refine ⟨_, HW.out.trans (by unfold Sc.fin; rw [HK.out, if_pos hk, if_pos (by simpa using h)]), fun _ _ => rfl⟩
      · intro h
        exact HW.out.trans (by unfold Sc.fin; rw [HK.out, if_pos hk, if_neg (by simpa using h)])
      · exact (below_put8 hR.below hR.l2 _ _ _ _ _ _ _ _).drew
    · have hkb : decide (k < 0) = false := decide_eq_false hk
      rw [hkb]
      obtain ⟨K, rfl⟩ := Int.eq_ofNat_of_zero_le (show 0 ≤ k by omega)
      obtain ⟨M, hM⟩ := Int.eq_ofNat_of_zero_le hN0
      have HM := Lib.hid hM
      clear hM
      have hR5 := hR.new
      go_wp2_with fail
      clear c8 c9 hR
      go_loopw [6] (fun i W => ∃ n : Nat, n ≤ K ∧ i = .int .i64 n ∧ LR w y b1 b2 wc.heap.size (fun j => if j < n then y.L j else 0) W) (fun i _ => K - (intOf i).toNat)
      case atStart => exact ⟨0, by omega, rfl, by simpa using hR5⟩
      case round =>
        obtain ⟨n, hn, rfl, hL⟩ := hrel
        clear hR5
        have d8 : wr.cell? ⟨b1, 8, none⟩ = some (.int .i64 (M : Int)) := (blk_cell hL.k1 8).trans (by rw [← HM.out]; rfl)
        have hKM : K ≤ M := by have := HM.out; omega
        have hM8 : M ≤ 8 := by have := HM.out; omega
        have d9 : wr.cell? ⟨b1, 9, none⟩ = some (.int .i64 (K : Int)) := (blk_cell hL.k1 9).trans (by rw [← HK.out]; rfl)
        by_cases hlt : n < K
        · have h8 : n < 8 := by omega
          have dn : wr.cell? ⟨b1, n, none⟩ = some (.int .u16 (y.L n)) := (blk_cell hL.k1 n).trans (scC_get y n h8)
          have en : wr.cell? ⟨wc.heap.size, n, none⟩ = some (.int .u16 (if n < n then y.L n else 0)) := (blk_cell hL.k5 n).trans (ar8_get _ n h8)
          have fn : wr.frozen? ⟨wc.heap.size, n, none⟩ = false := blk_frozen hL.k5 n
          have h8i : (n : Int) < 8 := by omega
          go_wp2_with fail
          refine ⟨⟨n + 1, by omega, by go_num, hL.put n h8 _ ?_⟩, ?_⟩
          · intro j hj
            by_cases e : j = n
            · subst e; rw [if_pos rfl, if_pos (by omega)]
            · rw [if_neg e]
              by_cases e2 : j < n
              · rw [if_pos e2, if_pos (by omega)]
              · rw [if_neg e2, if_neg (by omega)]
          · simp [intOf]; omega
        · obtain rfl : n = K := by omega
          have hL2 : LR w y b1 b2 wc.heap.size (g2 y n M n) wr := hL.congr (g2_start y n M hKM)
          clear hL
          go_wp2_with fail
          clear d8 d9
          go_loopw [7] (fun i W => ∃ m : Nat, n ≤ m ∧ m ≤ M ∧ i = .int .i64 m ∧ LR w y b1 b2 wc.heap.size (g2 y n M m) W) (fun i _ => M - (intOf i).toNat)
          case atStart => exact ⟨n, Nat.le_refl _, hKM, rfl, hL2⟩
          case round =>
            obtain ⟨m, hm0, hm1, rfl, hL⟩ := hrel
            clear hL2
            have d8 : wr.cell? ⟨b1, 8, none⟩ = some (.int .i64 (M : Int)) := (blk_cell hL.k1 8).trans (by rw [← HM.out]; rfl)
            by_cases hlt : m < M
            · have h8 : m < 8 := by omega
              obtain ⟨p, hp⟩ : ∃ p : Nat, p + M = 8 + m := ⟨8 + m - M, by omega⟩
              have hp8 : p < 8 := by omega
              have dn : wr.cell? ⟨b1, m, none⟩ = some (.int .u16 (y.L m)) := (blk_cell hL.k1 m).trans (scC_get y m h8)
              have en : wr.cell? ⟨wc.heap.size, p, none⟩ = some (.int .u16 (g2 y n M m p)) := (blk_cell hL.k5 p).trans (ar8_get _ p hp8)
              have fn : wr.frozen? ⟨wc.heap.size, p, none⟩ = false := blk_frozen hL.k5 p
              have h8i : (m : Int) < 8 := by omega
              have hp8i : (p : Int) < 8 := by omega
              have w1_ : IntKind.i64.wrap (8 - (M : Int)) = 8 - (M : Int) := IntWalk.i64_in _ (by omega)
              have w2_ : IntKind.i64.wrap (8 - (M : Int) + (m : Int)) = (p : Int) := (IntWalk.i64_in _ (by omega)).trans (by omega)
              have HP := Lib.hid hp
              have hltI : (m : Int) < M := by omega
              clear hp
              go_wp2_with fail
              go_region
              go_wp2_with fail
              refine ⟨⟨m + 1, by omega, by omega, by go_num, (hL.put p hp8 _ (g2_step y n M m p hm0 hlt hM8 HP.out)).drew⟩, ?_⟩
              simp [intOf]
              omega
            · obtain rfl : m = M := by omega
              have e0 : wr.cell? ⟨wc.heap.size, 0, none⟩ = some (.int .u16 (g2 y n m m 0)) := (blk_cell hL.k5 0).trans (ar8_get _ 0 (by decide))
              have y0 : wr.cell? ⟨b2, 0, none⟩ = some (.int .u16 0) := (blk_cell hL.k2 0).trans rfl
              have v0 : wr.frozen? ⟨b2, 0, none⟩ = false := blk_frozen hL.k2 0
              have e1 : wr.cell? ⟨wc.heap.size, 1, none⟩ = some (.int .u16 (g2 y n m m 1)) := (blk_cell hL.k5 1).trans (ar8_get _ 1 (by decide))
              have y1 : wr.cell? ⟨b2, 1, none⟩ = some (.int .u16 0) := (blk_cell hL.k2 1).trans rfl
              have v1 : wr.frozen? ⟨b2, 1, none⟩ = false := blk_frozen hL.k2 1
              have e2 : wr.cell? ⟨wc.heap.size, 2, none⟩ = some (.int .u16 (g2 y n m m 2)) := (blk_cell hL.k5 2).trans (ar8_get _ 2 (by decide))
              have y2 : wr.cell? ⟨b2, 2, none⟩ = some (.int .u16 0) := (blk_cell hL.k2 2).trans rfl
              have v2 : wr.frozen? ⟨b2, 2, none⟩ = false := blk_frozen hL.k2 2
              have e3 : wr.cell? ⟨wc.heap.size, 3, none⟩ = some (.int .u16 (g2 y n m m 3)) := (blk_cell hL.k5 3).trans (ar8_get _ 3 (by decide))
              have y3 : wr.cell? ⟨b2, 3, none⟩ = some (.int .u16 0) := (blk_cell hL.k2 3).trans rfl
              have v3 : wr.frozen? ⟨b2, 3, none⟩ = false := blk_frozen hL.k2 3
              have e4 : wr.cell? ⟨wc.heap.size, 4, none⟩ = some (.int .u16 (g2 y n m m 4)) := (blk_cell hL.k5 4).trans (ar8_get _ 4 (by decide))
              have y4 : wr.cell? ⟨b2, 4, none⟩ = some (.int .u16 0) := (blk_cell hL.k2 4).trans rfl
              have v4 : wr.frozen? ⟨b2, 4, none⟩ = false := blk_frozen hL.k2 4
              have e5 : wr.cell? ⟨wc.heap.size, 5, none⟩ = some (.int .u16 (g2 y n m m 5)) := (blk_cell hL.k5 5).trans (ar8_get _ 5 (by decide))
              have y5 : wr.cell? ⟨b2, 5, none⟩ = some (.int .u16 0) := (blk_cell hL.k2 5).trans rfl
              have v5 : wr.frozen? ⟨b2, 5, none⟩ = false := blk_frozen hL.k2 5
              have e6 : wr.cell? ⟨wc.heap.size, 6, none⟩ = some (.int .u16 (g2 y n m m 6)) := (blk_cell hL.k5 6).trans (ar8_get _ 6 (by decide))
              have y6 : wr.cell? ⟨b2, 6, none⟩ = some (.int .u16 0) := (blk_cell hL.k2 6).trans rfl
              have v6 : wr.frozen? ⟨b2, 6, none⟩ = false := blk_frozen hL.k2 6
              have e7 : wr.cell? ⟨wc.heap.size, 7, none⟩ = some (.int .u16 (g2 y n m m 7)) := (blk_cell hL.k5 7).trans (ar8_get _ 7 (by decide))
              have y7 : wr.cell? ⟨b2, 7, none⟩ = some (.int .u16 0) := (blk_cell hL.k2 7).trans rfl
              have v7 : wr.frozen? ⟨b2, 7, none⟩ = false := blk_frozen hL.k2 7
              have hne := hL.n25
              have hne' := hL.n25.symm
              have hne2 := hL.n12
              go_wp2_with fail
              go_region
              all_goals go_wp2_with fail
              try simp only [Exit.inBlock, Exit.then]
              refine bodyPost_ret (results_cell2 rfl rfl (ld8 (blk_drew (blk_put8 hL.k2 (g2 y n m m))))) rfl ?_
              refine ⟨g2 y n m m, decide (m ≤ 7), ?_, ?_, ?_, ?_⟩
              · simp
                omega
              · intro h
                have h7 : m ≤ 7 := of_decide_eq_true h
                refine ⟨_, HW.out.trans (by unfold Sc.fin; rw [HK.out, if_neg (by omega), if_pos (by rw [HM.out]; omega)]), ?_⟩
                intro j hj
                exact g2_fin y n m j HM.out hj
              · intro h
                have h7 : ¬ m ≤ 7 := of_decide_eq_false h
                exact HW.out.trans (by unfold Sc.fin; rw [HK.out, if_neg (by omega), if_neg (by rw [HM.out]; omega)])
              · exact (below_put8 hL.below hL.l2 _ _ _ _ _ _ _ _).drew
set_option maxHeartbeats 4000000 in
set_option maxRecDepth 100000 in
theorem whole_4 (L : Nat → Int) (N k dg va te pa fo : Int) (n0 : 0 ≤ N) (n7 : N ≤ 7) (k0 : -1 ≤ k) (k7 : k ≤ N) (v0 : 0 ≤ va) (v1 : va ≤ 65535) (w : World) :
    Calls Tryd.prog 48 #[scV ⟨L, N, k, 4, dg, va, te, pa, fo⟩] w (WholeRet ⟨L, N, k, 4, dg, va, te, pa, fo⟩ w) := by
  obtain ⟨y, hy⟩ : ∃ y : Sc, y = (Sc.closed ⟨L, N, k, 4, dg, va, te, pa, fo⟩) := ⟨_, rfl⟩
  have hw : (⟨L, N, k, 4, dg, va, te, pa, fo⟩ : Sc).whole = y.fin := by rw [hy]; first | done | rfl | (subst hp; rfl)
  have hyk : y.skip = k := by rw [hy]; first | done | rfl
  have HY := Lib.hid hy
  have HN0 : Hid (0 ≤ y.N) := Lib.hid (by rw [hy]; first | exact n0 | (show 0 ≤ N + 1; omega) | (show 0 ≤ N + 2; omega))
  have HN8 : Hid (y.N ≤ 8) := Lib.hid (by rw [hy]; first | (show N ≤ 8; omega) | (show N + 1 ≤ 8; omega) | (show N + 2 ≤ 8; omega))
  have HKN : Hid (k ≤ y.N) := Lib.hid (by rw [hy]; first | (show k ≤ N; omega) | (show k ≤ N + 1; omega) | (show k ≤ N + 2; omega))
  go_enter Tryd.func48, Tryd.ntmps48
  go_wp2_with fail
  refine (closed_walk _ _ _ _ _ _ _ _ _ _ _ _ _ _ _ _ n0 n7 v0 v1 _).mono ?_
  rintro e w2 ⟨rfl, m2, g2_, rfl⟩
  simp only [drewN_alloc]
  obtain ⟨u1, hu, hz, hG1⟩ := drewN_grw w m2
  rw [← hu, ← hz]
  clear hu hz
  have q1_ : u1.heap.size < u1.heap.size + 1 + 1 := by omega
  have q2_ : u1.heap.size < u1.heap.size + 1 := by omega
  go_upto_region 12 with fail
  go_cut [1, 2, 50] (fun s t u W => ∃ b1 b2 : Nat, s = .pointer (some ⟨b1, 0, none⟩) ∧ t = .pointer (some ⟨b2, 0, none⟩) ∧ u = .bool (decide (k < 0)) ∧ WR w y b1 b2 W)
  case first =>
    clear hy hw hyk
    go_wp2_with fail
    go_meet
    refine ⟨u1.heap.size, u1.heap.size + 1, rfl, rfl, rfl, ?_, ?_, hG1.below.size, by have := hG1.below.size; omega, by omega, ?_⟩
    · rw [HY.out, GA_heap _ _ _ (by simp; omega)]
      refine (blk_alloc (blk_new _ _) _).trans ?_
      simp only [cl_eq v0 v1]
      rfl
    · rw [GA_heap _ _ _ (by simp)]
      exact blk_new1 u1 _ _
    · exact GA_below _ _ _ ((hG1.below.alloc hG1.below.size _).alloc (by have := hG1.below.size; simp; omega) _)
  case rest =>
    obtain ⟨b1, b2, rfl, rfl, rfl, hR⟩ := hcut
    have hwf : (⟨L, N, k, 4, dg, va, te, pa, fo⟩ : Sc).whole = y.fin := hw
    clear hw hy
    have hk : y.skip = k := hyk
    clear hyk
    have c8 : wc.cell? ⟨b1, 8, none⟩ = some (.int .i64 y.N) := (blk_cell hR.k1 8).trans rfl
    have c9 : wc.cell? ⟨b1, 9, none⟩ = some (.int .i64 k) := (blk_cell hR.k1 9).trans (by rw [← hk]; rfl)
    have HK := Lib.hid hk
    clear hk
    have HW := Lib.hid hwf
    clear hwf
    have hN0 : 0 ≤ y.N := HN0.out
    have hN8 : y.N ≤ 8 := HN8.out
    have hkN : k ≤ y.N := HKN.out
    by_cases hk : k < 0
    · have hkb : decide (k < 0) = true := decide_eq_true hk
      rw [hkb]
      have hne := hR.ne
      have hne' := hR.ne.symm
      have z0 : wc.cell? ⟨b1, 0, none⟩ = some (.int .u16 (y.L 0)) := (blk_cell hR.k1 0).trans rfl
      have y0 : wc.cell? ⟨b2, 0, none⟩ = some (.int .u16 0) := (blk_cell hR.k2 0).trans rfl
      have v0 : wc.frozen? ⟨b2, 0, none⟩ = false := blk_frozen hR.k2 0
      have z1 : wc.cell? ⟨b1, 1, none⟩ = some (.int .u16 (y.L 1)) := (blk_cell hR.k1 1).trans rfl
      have y1 : wc.cell? ⟨b2, 1, none⟩ = some (.int .u16 0) := (blk_cell hR.k2 1).trans rfl
      have v1 : wc.frozen? ⟨b2, 1, none⟩ = false := blk_frozen hR.k2 1
      have z2 : wc.cell? ⟨b1, 2, none⟩ = some (.int .u16 (y.L 2)) := (blk_cell hR.k1 2).trans rfl
      have y2 : wc.cell? ⟨b2, 2, none⟩ = some (.int .u16 0) := (blk_cell hR.k2 2).trans rfl
      have v2 : wc.frozen? ⟨b2, 2, none⟩ = false := blk_frozen hR.k2 2
      have z3 : wc.cell? ⟨b1, 3, none⟩ = some (.int .u16 (y.L 3)) := (blk_cell hR.k1 3).trans rfl
      have y3 : wc.cell? ⟨b2, 3, none⟩ = some (.int .u16 0) := (blk_cell hR.k2 3).trans rfl
      have v3 : wc.frozen? ⟨b2, 3, none⟩ = false := blk_frozen hR.k2 3
      have z4 : wc.cell? ⟨b1, 4, none⟩ = some (.int .u16 (y.L 4)) := (blk_cell hR.k1 4).trans rfl
      have y4 : wc.cell? ⟨b2, 4, none⟩ = some (.int .u16 0) := (blk_cell hR.k2 4).trans rfl
      have v4 : wc.frozen? ⟨b2, 4, none⟩ = false := blk_frozen hR.k2 4
      have z5 : wc.cell? ⟨b1, 5, none⟩ = some (.int .u16 (y.L 5)) := (blk_cell hR.k1 5).trans rfl
      have y5 : wc.cell? ⟨b2, 5, none⟩ = some (.int .u16 0) := (blk_cell hR.k2 5).trans rfl
      have v5 : wc.frozen? ⟨b2, 5, none⟩ = false := blk_frozen hR.k2 5
      have z6 : wc.cell? ⟨b1, 6, none⟩ = some (.int .u16 (y.L 6)) := (blk_cell hR.k1 6).trans rfl
      have y6 : wc.cell? ⟨b2, 6, none⟩ = some (.int .u16 0) := (blk_cell hR.k2 6).trans rfl
      have v6 : wc.frozen? ⟨b2, 6, none⟩ = false := blk_frozen hR.k2 6
      have z7 : wc.cell? ⟨b1, 7, none⟩ = some (.int .u16 (y.L 7)) := (blk_cell hR.k1 7).trans rfl
      have y7 : wc.cell? ⟨b2, 7, none⟩ = some (.int .u16 0) := (blk_cell hR.k2 7).trans rfl
      have v7 : wc.frozen? ⟨b2, 7, none⟩ = false := blk_frozen hR.k2 7
      go_wp2_with fail
      go_region
      all_goals go_wp2_with fail
      try simp only [Exit.inBlock, Exit.then]
      refine bodyPost_ret (results_cell2 rfl rfl (ld8 (blk_drew (blk_put8 hR.k2 y.L)))) rfl ?_
      refine ⟨y.L, (y.N == 8), ?_, ?_, ?_, ?_⟩
      · simp
      · intro h
        refine ⟨_, HW.out.trans (by unfold Sc.fin; rw [HK.out, if_pos hk, if_pos (by simpa using h)]), fun _ _ => rfl⟩
      · intro h
        exact HW.out.trans (by unfold Sc.fin; rw [HK.out, if_pos hk, if_neg (by simpa using h)])
      · exact (below_put8 hR.below hR.l2 _ _ _ _ _ _ _ _).drew
    · have hkb : decide (k < 0) = false := decide_eq_false hk
      rw [hkb]
      obtain ⟨K, rfl⟩ := Int.eq_ofNat_of_zero_le (show 0 ≤ k by omega)
      obtain ⟨M, hM⟩ := Int.eq_ofNat_of_zero_le hN0
      have HM := Lib.hid hM
      clear hM
      have hR5 := hR.new
      go_wp2_with fail
      clear c8 c9 hR
      go_loopw [6] (fun i W => ∃ n : Nat, n ≤ K ∧ i = .int .i64 n ∧ LR w y b1 b2 wc.heap.size (fun j => if j < n then y.L j else 0) W) (fun i _ => K - (intOf i).toNat)
      case atStart => exact ⟨0, by omega, rfl, by simpa using hR5⟩
      case round =>
        obtain ⟨n, hn, rfl, hL⟩ := hrel
        clear hR5
        have d8 : wr.cell? ⟨b1, 8, none⟩ = some (.int .i64 (M : Int)) := (blk_cell hL.k1 8).trans (by rw [← HM.out]; rfl)
        have hKM : K ≤ M := by have := HM.out; omega
        have hM8 : M ≤ 8 := by have := HM.out; omega
        have d9 : wr.cell? ⟨b1, 9, none⟩ = some (.int .i64 (K : Int)) := (blk_cell hL.k1 9).trans (by rw [← HK.out]; rfl)
        by_cases hlt : n < K
        · have h8 : n < 8 := by omega
          have dn : wr.cell? ⟨b1, n, none⟩ = some (.int .u16 (y.L n)) := (blk_cell hL.k1 n).trans (scC_get y n h8)
          have en : wr.cell? ⟨wc.heap.size, n, none⟩ = some (.int .u16 (if n < n then y.L n else 0)) := (blk_cell hL.k5 n).trans (ar8_get _ n h8)
          have fn : wr.frozen? ⟨wc.heap.size, n, none⟩ = false := blk_frozen hL.k5 n
          have h8i : (n : Int) < 8 := by omega
          go_wp2_with fail
          refine ⟨⟨n + 1, by omega, by go_num, hL.put n h8 _ ?_⟩, ?_⟩
          · intro j hj
            by_cases e : j = n
            · subst e; rw [if_pos rfl, if_pos (by omega)]
            · rw [if_neg e]
              by_cases e2 : j < n
              · rw [if_pos e2, if_pos (by omega)]
              · rw [if_neg e2, if_neg (by omega)]
          · simp [intOf]; omega
        · obtain rfl : n = K := by omega
          have hL2 : LR w y b1 b2 wc.heap.size (g2 y n M n) wr := hL.congr (g2_start y n M hKM)
          clear hL
          go_wp2_with fail
          clear d8 d9
          go_loopw [7] (fun i W => ∃ m : Nat, n ≤ m ∧ m ≤ M ∧ i = .int .i64 m ∧ LR w y b1 b2 wc.heap.size (g2 y n M m) W) (fun i _ => M - (intOf i).toNat)
          case atStart => exact ⟨n, Nat.le_refl _, hKM, rfl, hL2⟩
          case round =>
            obtain ⟨m, hm0, hm1, rfl, hL⟩ := hrel
            clear hL2
            have d8 : wr.cell? ⟨b1, 8, none⟩ = some (.int .i64 (M : Int)) := (blk_cell hL.k1 8).trans (by rw [← HM.out]; rfl)
            by_cases hlt : m < M
            · have h8 : m < 8 := by omega
              obtain ⟨p, hp⟩ : ∃ p : Nat, p + M = 8 + m := ⟨8 + m - M, by omega⟩
              have hp8 : p < 8 := by omega
              have dn : wr.cell? ⟨b1, m, none⟩ = some (.int .u16 (y.L m)) := (blk_cell hL.k1 m).trans (scC_get y m h8)
              have en : wr.cell? ⟨wc.heap.size, p, none⟩ = some (.int .u16 (g2 y n M m p)) := (blk_cell hL.k5 p).trans (ar8_get _ p hp8)
              have fn : wr.frozen? ⟨wc.heap.size, p, none⟩ = false := blk_frozen hL.k5 p
              have h8i : (m : Int) < 8 := by omega
              have hp8i : (p : Int) < 8 := by omega
              have w1_ : IntKind.i64.wrap (8 - (M : Int)) = 8 - (M : Int) := IntWalk.i64_in _ (by omega)
              have w2_ : IntKind.i64.wrap (8 - (M : Int) + (m : Int)) = (p : Int) := (IntWalk.i64_in _ (by omega)).trans (by omega)
              have HP := Lib.hid hp
              have hltI : (m : Int) < M := by omega
              clear hp
              go_wp2_with fail
              go_region
              go_wp2_with fail
              refine ⟨⟨m + 1, by omega, by omega, by go_num, (hL.put p hp8 _ (g2_step y n M m p hm0 hlt hM8 HP.out)).drew⟩, ?_⟩
              simp [intOf]
              omega
            · obtain rfl : m = M := by omega
              have e0 : wr.cell? ⟨wc.heap.size, 0, none⟩ = some (.int .u16 (g2 y n m m 0)) := (blk_cell hL.k5 0).trans (ar8_get _ 0 (by decide))
              have y0 : wr.cell? ⟨b2, 0, none⟩ = some (.int .u16 0) := (blk_cell hL.k2 0).trans rfl
              have v0 : wr.frozen? ⟨b2, 0, none⟩ = false := blk_frozen hL.k2 0
              have e1 : wr.cell? ⟨wc.heap.size, 1, none⟩ = some (.int .u16 (g2 y n m m 1)) := (blk_cell hL.k5 1).trans (ar8_get _ 1 (by decide))
              have y1 : wr.cell? ⟨b2, 1, none⟩ = some (.int .u16 0) := (blk_cell hL.k2 1).trans rfl
              have v1 : wr.frozen? ⟨b2, 1, none⟩ = false := blk_frozen hL.k2 1
              have e2 : wr.cell? ⟨wc.heap.size, 2, none⟩ = some (.int .u16 (g2 y n m m 2)) := (blk_cell hL.k5 2).trans (ar8_get _ 2 (by decide))
              have y2 : wr.cell? ⟨b2, 2, none⟩ = some (.int .u16 0) := (blk_cell hL.k2 2).trans rfl
              have v2 : wr.frozen? ⟨b2, 2, none⟩ = false := blk_frozen hL.k2 2
              have e3 : wr.cell? ⟨wc.heap.size, 3, none⟩ = some (.int .u16 (g2 y n m m 3)) := (blk_cell hL.k5 3).trans (ar8_get _ 3 (by decide))
              have y3 : wr.cell? ⟨b2, 3, none⟩ = some (.int .u16 0) := (blk_cell hL.k2 3).trans rfl
              have v3 : wr.frozen? ⟨b2, 3, none⟩ = false := blk_frozen hL.k2 3
              have e4 : wr.cell? ⟨wc.heap.size, 4, none⟩ = some (.int .u16 (g2 y n m m 4)) := (blk_cell hL.k5 4).trans (ar8_get _ 4 (by decide))
              have y4 : wr.cell? ⟨b2, 4, none⟩ = some (.int .u16 0) := (blk_cell hL.k2 4).trans rfl
              have v4 : wr.frozen? ⟨b2, 4, none⟩ = false := blk_frozen hL.k2 4
              have e5 : wr.cell? ⟨wc.heap.size, 5, none⟩ = some (.int .u16 (g2 y n m m 5)) := (blk_cell hL.k5 5).trans (ar8_get _ 5 (by decide))
              have y5 : wr.cell? ⟨b2, 5, none⟩ = some (.int .u16 0) := (blk_cell hL.k2 5).trans rfl
              have v5 : wr.frozen? ⟨b2, 5, none⟩ = false := blk_frozen hL.k2 5
              have e6 : wr.cell? ⟨wc.heap.size, 6, none⟩ = some (.int .u16 (g2 y n m m 6)) := (blk_cell hL.k5 6).trans (ar8_get _ 6 (by decide))
              have y6 : wr.cell? ⟨b2, 6, none⟩ = some (.int .u16 0) := (blk_cell hL.k2 6).trans rfl
              have v6 : wr.frozen? ⟨b2, 6, none⟩ = false := blk_frozen hL.k2 6
              have e7 : wr.cell? ⟨wc.heap.size, 7, none⟩ = some (.int .u16 (g2 y n m m 7)) := (blk_cell hL.k5 7).trans (ar8_get _ 7 (by decide))
              have y7 : wr.cell? ⟨b2, 7, none⟩ = some (.int .u16 0) := (blk_cell hL.k2 7).trans rfl
              have v7 : wr.frozen? ⟨b2, 7, none⟩ = false := blk_frozen hL.k2 7
              have hne := hL.n25
              have hne' := hL.n25.symm
              have hne2 := hL.n12
              go_wp2_with fail
              go_region
              all_goals go_wp2_with fail
              try simp only [Exit.inBlock, Exit.then]
              refine bodyPost_ret (results_cell2 rfl rfl (ld8 (blk_drew (blk_put8 hL.k2 (g2 y n m m))))) rfl ?_
              refine ⟨g2 y n m m, decide (m ≤ 7), ?_, ?_, ?_, ?_⟩
              · simp
                omega
              · intro h
                have h7 : m ≤ 7 := of_decide_eq_true h
                refine ⟨_, HW.out.trans (by unfold Sc.fin; rw [HK.out, if_neg (by omega), if_pos (by rw [HM.out]; omega)]), ?_⟩
                intro j hj
                exact g2_fin y n m j HM.out hj
              · intro h
                have h7 : ¬ m ≤ 7 := of_decide_eq_false h
                exact HW.out.trans (by unfold Sc.fin; rw [HK.out, if_neg (by omega), if_neg (by rw [HM.out]; omega)])
              · exact (below_put8 hL.below hL.l2 _ _ _ _ _ _ _ _).drew
set_option maxHeartbeats 4000000 in
set_option maxRecDepth 100000 in
theorem whole_6 (L : Nat → Int) (N k dg va te pa fo : Int) (n0 : 0 ≤ N) (n7 : N ≤ 7) (k0 : -1 ≤ k) (k7 : k ≤ N) (hp : pa = 3) (N6 : N ≤ 6) (f0 : 0 ≤ fo) (f1 : fo ≤ 16777215) (t0 : 0 ≤ te) (t1 : te ≤ 255) (w : World) :
    Calls Tryd.prog 48 #[scV ⟨L, N, k, 6, dg, va, te, pa, fo⟩] w (WholeRet ⟨L, N, k, 6, dg, va, te, pa, fo⟩ w) := by
  obtain ⟨y, hy⟩ : ∃ y : Sc, y = (Sc.two ⟨L, N, k, 6, dg, va, te, pa, fo⟩) := ⟨_, rfl⟩
  have hw : (⟨L, N, k, 6, dg, va, te, pa, fo⟩ : Sc).whole = y.fin := by rw [hy]; first | done | rfl | (subst hp; rfl)
  have hyk : y.skip = k := by rw [hy]; first | done | rfl
  have HY := Lib.hid hy
  have HN0 : Hid (0 ≤ y.N) := Lib.hid (by rw [hy]; first | exact n0 | (show 0 ≤ N + 1; omega) | (show 0 ≤ N + 2; omega))
  have HN8 : Hid (y.N ≤ 8) := Lib.hid (by rw [hy]; first | (show N ≤ 8; omega) | (show N + 1 ≤ 8; omega) | (show N + 2 ≤ 8; omega))
  have HKN : Hid (k ≤ y.N) := Lib.hid (by rw [hy]; first | (show k ≤ N; omega) | (show k ≤ N + 1; omega) | (show k ≤ N + 2; omega))
  go_enter Tryd.func48, Tryd.ntmps48
  go_upto_region 7 with fail
  go_cut [1, 2, 3, 9, 21] (fun s t r q u W => ∃ b1 b2 : Nat, s = .pointer (some ⟨b1, 0, none⟩) ∧ t = .pointer (some ⟨b2, 0, none⟩) ∧ r = .bool false ∧ q = .int .i64 6 ∧ u = .bool false ∧ WR w ⟨L, N, k, 6, dg, va, te, pa, fo⟩ b1 b2 W)
  case first =>
    clear hy hw hyk
    subst hp
    go_wp2_with fail
    go_meet
    refine ⟨w.heap.size, w.heap.size + 1, rfl, rfl, rfl, rfl, rfl, ?_, ?_, by omega, by omega, by omega, ?_⟩
    · exact blk_alloc (blk_new _ _) _
    · exact blk_new1 w _ _
    · go_grown
  case rest =>
  obtain ⟨a1, a2, rfl, rfl, rfl, rfl, rfl, hA⟩ := hcut
  obtain ⟨n, rfl⟩ := Int.eq_ofNat_of_zero_le n0
  have c8 : wc.cell? ⟨a1, 8, none⟩ = some (.int .i64 (n : Int)) := (blk_cell hA.k1 8).trans rfl
  have c13 : wc.cell? ⟨a1, 13, none⟩ = some (.int .i64 te) := (blk_cell hA.k1 13).trans rfl
  have c15 : wc.cell? ⟨a1, 15, none⟩ = some (.int .i64 fo) := (blk_cell hA.k1 15).trans rfl
  have cn : wc.cell? ⟨a1, n, none⟩ = some (.int .u16 (L n)) := (blk_cell hA.k1 n).trans (scC_get _ n (by omega))
  have cn1 : wc.cell? ⟨a1, n + 1, none⟩ = some (.int .u16 (L (n + 1))) := (blk_cell hA.k1 (n + 1)).trans (scC_get _ (n + 1) (by omega))
  have fn : wc.frozen? ⟨a1, n, none⟩ = false := blk_frozen hA.k1 n
  have fn1 : wc.frozen? ⟨a1, n + 1, none⟩ = false := blk_frozen hA.k1 (n + 1)
  have f8 : wc.frozen? ⟨a1, 8, none⟩ = false := blk_frozen hA.k1 8
  have h8i : (n : Int) < 8 := by omega
  have h8j : (n : Int) + 1 < 8 := by omega
  have w1_ : IntKind.i64.wrap (256 * fo) = 256 * fo := IntWalk.i64_in _ (by omega)
  have w2_ : IntKind.i64.wrap (256 * fo + te) = 256 * fo + te := IntWalk.i64_in _ (by omega)
  have c9' : wc.cell? ⟨a1, 9, none⟩ = some (.int .i64 k) := (blk_cell hA.k1 9).trans rfl
  have e7 : ¬ n = 7 := by omega
  have e8_ : ¬ n = 8 := by omega
  have e9 : ¬ n = 9 := by omega
  have hAn := hA.ne
  have hAm := hA.ne.symm
  go_upto_region 12 with fail
  go_cut [1, 2, 50] (fun s t u W => ∃ b1 b2 : Nat, s = .pointer (some ⟨b1, 0, none⟩) ∧ t = .pointer (some ⟨b2, 0, none⟩) ∧ u = .bool (decide (k < 0)) ∧ WR w y b1 b2 W)
  case first =>
    clear hy hw hyk
    go_wp2_with fail
    go_meet
    refine ⟨a1, a2, rfl, rfl, rfl, ⟨?_, ?_, hA.l1, hA.l2, hA.ne, ((hA.below.setCell hA.l1 _).setCell hA.l1 _).setCell hA.l1 _⟩⟩
    · refine (blk_put (blk_put (blk_put hA.k1 n _ (scC_set _ _ n (by omega))) (n + 1) _ (scC_set _ _ (n + 1) (by omega))) 8 _ rfl).trans ?_
      rw [HY.out]
      refine congrArg some (congrArg (fun c => Obj.cells c _ (0, 0)) ?_)
      refine Eq.trans (b := scC { L := fun j => if j = n + 1 then (256 * fo + te) % 65536 else if j = n then (256 * fo + te) / 65536 else L j, N := (n : Int) + 2, skip := k, st := 6, digs := dg, val := va, ten := te, parts := pa, four := fo }) rfl (scC_ext ?_ rfl rfl rfl rfl rfl rfl rfl rfl)
      intro j hj
      show (if j = n + 1 then (256 * fo + te) % 65536 else if j = n then (256 * fo + te) / 65536 else L j) = if (j : Int) = (n : Int) then (256 * fo + te) / 65536 % 65536 else if (j : Int) = (n : Int) + 1 then (256 * fo + te) % 65536 else L j
      by_cases q : j = n
      · rw [if_neg (show ¬ j = n + 1 by omega), if_pos q, if_pos (show (j : Int) = (n : Int) by omega)]
        omega
      · rw [if_neg (show ¬ (j : Int) = (n : Int) by omega), if_neg q]
        by_cases q' : j = n + 1
        · rw [if_pos q', if_pos (show (j : Int) = (n : Int) + 1 by omega)]
        · rw [if_neg q', if_neg (show ¬ (j : Int) = (n : Int) + 1 by omega)]
    · exact blk_far (blk_far (blk_far hA.k2 hA.ne.symm _) hA.ne.symm _) hA.ne.symm _
  case rest =>
    obtain ⟨b1, b2, rfl, rfl, rfl, hR⟩ := hcut
    have hwf : (⟨L, (n : Int), k, 6, dg, va, te, pa, fo⟩ : Sc).whole = y.fin := hw
    clear hw hy
    have hk : y.skip = k := hyk
    clear hyk
    have c8 : wc.cell? ⟨b1, 8, none⟩ = some (.int .i64 y.N) := (blk_cell hR.k1 8).trans rfl
    have c9 : wc.cell? ⟨b1, 9, none⟩ = some (.int .i64 k) := (blk_cell hR.k1 9).trans (by rw [← hk]; rfl)
    have HK := Lib.hid hk
    clear hk
    have HW := Lib.hid hwf
    clear hwf
    have hN0 : 0 ≤ y.N := HN0.out
    have hN8 : y.N ≤ 8 := HN8.out
    have hkN : k ≤ y.N := HKN.out
    by_cases hk : k < 0
    · have hkb : decide (k < 0) = true := decide_eq_true hk
      rw [hkb]
      have hne := hR.ne
      have hne' := hR.ne.symm
      have z0 : wc.cell? ⟨b1, 0, none⟩ = some (.int .u16 (y.L 0)) := (blk_cell hR.k1 0).trans rfl
      have y0 : wc.cell? ⟨b2, 0, none⟩ = some (.int .u16 0) := (blk_cell hR.k2 0).trans rfl
      have v0 : wc.frozen? ⟨b2, 0, none⟩ = false := blk_frozen hR.k2 0
      have z1 : wc.cell? ⟨b1, 1, none⟩ = some (.int .u16 (y.L 1)) := (blk_cell hR.k1 1).trans rfl
      have y1 : wc.cell? ⟨b2, 1, none⟩ = some (.int .u16 0) := (blk_cell hR.k2 1).trans rfl
      have v1 : wc.frozen? ⟨b2, 1, none⟩ = false := blk_frozen hR.k2 1
      have z2 : wc.cell? ⟨b1, 2, none⟩ = some (.int .u16 (y.L 2)) := (blk_cell hR.k1 2).trans rfl
      have y2 : wc.cell? ⟨b2, 2, none⟩ = some (.int .u16 0) := (blk_cell hR.k2 2).trans rfl
      have v2 : wc.frozen? ⟨b2, 2, none⟩ = false := blk_frozen hR.k2 2
      have z3 : wc.cell? ⟨b1, 3, none⟩ = some (.int .u16 (y.L 3)) := (blk_cell hR.k1 3).trans rfl
      have y3 : wc.cell? ⟨b2, 3, none⟩ = some (.int .u16 0) := (blk_cell hR.k2 3).trans rfl
      have v3 : wc.frozen? ⟨b2, 3, none⟩ = false := blk_frozen hR.k2 3
      have z4 : wc.cell? ⟨b1, 4, none⟩ = some (.int .u16 (y.L 4)) := (blk_cell hR.k1 4).trans rfl
      have y4 : wc.cell? ⟨b2, 4, none⟩ = some (.int .u16 0) := (blk_cell hR.k2 4).trans rfl
      have v4 : wc.frozen? ⟨b2, 4, none⟩ = false := blk_frozen hR.k2 4
      have z5 : wc.cell? ⟨b1, 5, none⟩ = some (.int .u16 (y.L 5)) := (blk_cell hR.k1 5).trans rfl
      have y5 : wc.cell? ⟨b2, 5, none⟩ = some (.int .u16 0) := (blk_cell hR.k2 5).trans rfl
      have v5 : wc.frozen? ⟨b2, 5, none⟩ = false := blk_frozen hR.k2 5
      have z6 : wc.cell? ⟨b1, 6, none⟩ = some (.int .u16 (y.L 6)) := (blk_cell hR.k1 6).trans rfl
      have y6 : wc.cell? ⟨b2, 6, none⟩ = some (.int .u16 0) := (blk_cell hR.k2 6).trans rfl
      have v6 : wc.frozen? ⟨b2, 6, none⟩ = false := blk_frozen hR.k2 6
      have z7 : wc.cell? ⟨b1, 7, none⟩ = some (.int .u16 (y.L 7)) := (blk_cell hR.k1 7).trans rfl
      have y7 : wc.cell? ⟨b2, 7, none⟩ = some (.int .u16 0) := (blk_cell hR.k2 7).trans rfl
      have v7 : wc.frozen? ⟨b2, 7, none⟩ = false := blk_frozen hR.k2 7
      go_wp2_with fail
      go_region
      all_goals go_wp2_with fail
      try simp only [Exit.inBlock, Exit.then]
      refine bodyPost_ret (results_cell2 rfl rfl (ld8 (blk_drew (blk_put8 hR.k2 y.L)))) rfl ?_
      refine ⟨y.L, (y.N == 8), ?_, ?_, ?_, ?_⟩
      · simp
      · intro h
        refine ⟨_, HW.out.trans (by unfold Sc.fin; rw [HK.out, if_pos hk, if_pos (by simpa using h)]), fun _ _ => rfl⟩
      · intro h
        exact HW.out.trans (by unfold Sc.fin; rw [HK.out, if_pos hk, if_neg (by simpa using h)])
      · exact (below_put8 hR.below hR.l2 _ _ _ _ _ _ _ _).drew
    · have hkb : decide (k < 0) = false := decide_eq_false hk
      rw [hkb]
      obtain ⟨K, rfl⟩ := Int.eq_ofNat_of_zero_le (show 0 ≤ k by omega)
      obtain ⟨M, hM⟩ := Int.eq_ofNat_of_zero_le hN0
      have HM := Lib.hid hM
      clear hM
      have hR5 := hR.new
      go_wp2_with fail
      clear c8 c9 hR
      go_loopw [6] (fun i W => ∃ n : Nat, n ≤ K ∧ i = .int .i64 n ∧ LR w y b1 b2 wc.heap.size (fun j => if j < n then y.L j else 0) W) (fun i _ => K - (intOf i).toNat)
      case atStart => exact ⟨0, by omega, rfl, by simpa using hR5⟩
      case round =>
        obtain ⟨n, hn, rfl, hL⟩ := hrel
        clear hR5
        have d8 : wr.cell? ⟨b1, 8, none⟩ = some (.int .i64 (M : Int)) := (blk_cell hL.k1 8).trans (by rw [← HM.out]; rfl)
        have hKM : K ≤ M := by have := HM.out; omega
        have hM8 : M ≤ 8 := by have := HM.out; omega
        have d9 : wr.cell? ⟨b1, 9, none⟩ = some (.int .i64 (K : Int)) := (blk_cell hL.k1 9).trans (by rw [← HK.out]; rfl)
        by_cases hlt : n < K
        · have h8 : n < 8 := by omega
          have dn : wr.cell? ⟨b1, n, none⟩ = some (.int .u16 (y.L n)) := (blk_cell hL.k1 n).trans (scC_get y n h8)
          have en : wr.cell? ⟨wc.heap.size, n, none⟩ = some (.int .u16 (if n < n then y.L n else 0)) := (blk_cell hL.k5 n).trans (ar8_get _ n h8)
          have fn : wr.frozen? ⟨wc.heap.size, n, none⟩ = false := blk_frozen hL.k5 n
          have h8i : (n : Int) < 8 := by omega
          go_wp2_with fail
          refine ⟨⟨n + 1, by omega, by go_num, hL.put n h8 _ ?_⟩, ?_⟩
          · intro j hj
            by_cases e : j = n
            · subst e; rw [if_pos rfl, if_pos (by omega)]
            · rw [if_neg e]
              by_cases e2 : j < n
              · rw [if_pos e2, if_pos (by omega)]
              · rw [if_neg e2, if_neg (by omega)]
          · simp [intOf]; omega
        · obtain rfl : n = K := by omega
          have hL2 : LR w y b1 b2 wc.heap.size (g2 y n M n) wr := hL.congr (g2_start y n M hKM)
          clear hL
          go_wp2_with fail
          clear d8 d9
          go_loopw [7] (fun i W => ∃ m : Nat, n ≤ m ∧ m ≤ M ∧ i = .int .i64 m ∧ LR w y b1 b2 wc.heap.size (g2 y n M m) W) (fun i _ => M - (intOf i).toNat)
          case atStart => exact ⟨n, Nat.le_refl _, hKM, rfl, hL2⟩
          case round =>
            obtain ⟨m, hm0, hm1, rfl, hL⟩ := hrel
            clear hL2
            have d8 : wr.cell? ⟨b1, 8, none⟩ = some (.int .i64 (M : Int)) := (blk_cell hL.k1 8).trans (by rw [← HM.out]; rfl)
            by_cases hlt : m < M
            · have h8 : m < 8 := by omega
              obtain ⟨p, hp⟩ : ∃ p : Nat, p + M = 8 + m := ⟨8 + m - M, by omega⟩
              have hp8 : p < 8 := by omega
              have dn : wr.cell? ⟨b1, m, none⟩ = some (.int .u16 (y.L m)) := (blk_cell hL.k1 m).trans (scC_get y m h8)
              have en : wr.cell? ⟨wc.heap.size, p, none⟩ = some (.int .u16 (g2 y n M m p)) := (blk_cell hL.k5 p).trans (ar8_get _ p hp8)
              have fn : wr.frozen? ⟨wc.heap.size, p, none⟩ = false := blk_frozen hL.k5 p
              have h8i : (m : Int) < 8 := by omega
              have hp8i : (p : Int) < 8 := by omega
              have w1_ : IntKind.i64.wrap (8 - (M : Int)) = 8 - (M : Int) := IntWalk.i64_in _ (by omega)
              have w2_ : IntKind.i64.wrap (8 - (M : Int) + (m : Int)) = (p : Int) := (IntWalk.i64_in _ (by omega)).trans (by omega)
              have HP := Lib.hid hp
              have hltI : (m : Int) < M := by omega
              clear hp
              go_wp2_with fail
              go_region
              go_wp2_with fail
              refine ⟨⟨m + 1, by omega, by omega, by go_num, (hL.put p hp8 _ (g2_step y n M m p hm0 hlt hM8 HP.out)).drew⟩, ?_⟩
              simp [intOf]
              omega
            · obtain rfl : m = M := by omega
              have e0 : wr.cell? ⟨wc.heap.size, 0, none⟩ = some (.int .u16 (g2 y n m m 0)) := (blk_cell hL.k5 0).trans (ar8_get _ 0 (by decide))
              have y0 : wr.cell? ⟨b2, 0, none⟩ = some (.int .u16 0) := (blk_cell hL.k2 0).trans rfl
              have v0 : wr.frozen? ⟨b2, 0, none⟩ = false := blk_frozen hL.k2 0
              have e1 : wr.cell? ⟨wc.heap.size, 1, none⟩ = some (.int .u16 (g2 y n m m 1)) := (blk_cell hL.k5 1).trans (ar8_get _ 1 (by decide))
              have y1 : wr.cell? ⟨b2, 1, none⟩ = some (.int .u16 0) := (blk_cell hL.k2 1).trans rfl
              have v1 : wr.frozen? ⟨b2, 1, none⟩ = false := blk_frozen hL.k2 1
              have e2 : wr.cell? ⟨wc.heap.size, 2, none⟩ = some (.int .u16 (g2 y n m m 2)) := (blk_cell hL.k5 2).trans (ar8_get _ 2 (by decide))
              have y2 : wr.cell? ⟨b2, 2, none⟩ = some (.int .u16 0) := (blk_cell hL.k2 2).trans rfl
              have v2 : wr.frozen? ⟨b2, 2, none⟩ = false := blk_frozen hL.k2 2
              have e3 : wr.cell? ⟨wc.heap.size, 3, none⟩ = some (.int .u16 (g2 y n m m 3)) := (blk_cell hL.k5 3).trans (ar8_get _ 3 (by decide))
              have y3 : wr.cell? ⟨b2, 3, none⟩ = some (.int .u16 0) := (blk_cell hL.k2 3).trans rfl
              have v3 : wr.frozen? ⟨b2, 3, none⟩ = false := blk_frozen hL.k2 3
              have e4 : wr.cell? ⟨wc.heap.size, 4, none⟩ = some (.int .u16 (g2 y n m m 4)) := (blk_cell hL.k5 4).trans (ar8_get _ 4 (by decide))
              have y4 : wr.cell? ⟨b2, 4, none⟩ = some (.int .u16 0) := (blk_cell hL.k2 4).trans rfl
              have v4 : wr.frozen? ⟨b2, 4, none⟩ = false := blk_frozen hL.k2 4
              have e5 : wr.cell? ⟨wc.heap.size, 5, none⟩ = some (.int .u16 (g2 y n m m 5)) := (blk_cell hL.k5 5).trans (ar8_get _ 5 (by decide))
              have y5 : wr.cell? ⟨b2, 5, none⟩ = some (.int .u16 0) := (blk_cell hL.k2 5).trans rfl
              have v5 : wr.frozen? ⟨b2, 5, none⟩ = false := blk_frozen hL.k2 5
              have e6 : wr.cell? ⟨wc.heap.size, 6, none⟩ = some (.int .u16 (g2 y n m m 6)) := (blk_cell hL.k5 6).trans (ar8_get _ 6 (by decide))
              have y6 : wr.cell? ⟨b2, 6, none⟩ = some (.int .u16 0) := (blk_cell hL.k2 6).trans rfl
              have v6 : wr.frozen? ⟨b2, 6, none⟩ = false := blk_frozen hL.k2 6
              have e7 : wr.cell? ⟨wc.heap.size, 7, none⟩ = some (.int .u16 (g2 y n m m 7)) := (blk_cell hL.k5 7).trans (ar8_get _ 7 (by decide))
              have y7 : wr.cell? ⟨b2, 7, none⟩ = some (.int .u16 0) := (blk_cell hL.k2 7).trans rfl
              have v7 : wr.frozen? ⟨b2, 7, none⟩ = false := blk_frozen hL.k2 7
              have hne := hL.n25
              have hne' := hL.n25.symm
              have hne2 := hL.n12
              go_wp2_with fail
              go_region
              all_goals go_wp2_with fail
              try simp only [Exit.inBlock, Exit.then]
              refine bodyPost_ret (results_cell2 rfl rfl (ld8 (blk_drew (blk_put8 hL.k2 (g2 y n m m))))) rfl ?_
              refine ⟨g2 y n m m, decide (m ≤ 7), ?_, ?_, ?_, ?_⟩
              · simp
                omega
              · intro h
                have h7 : m ≤ 7 := of_decide_eq_true h
                refine ⟨_, HW.out.trans (by unfold Sc.fin; rw [HK.out, if_neg (by omega), if_pos (by rw [HM.out]; omega)]), ?_⟩
                intro j hj
                exact g2_fin y n m j HM.out hj
              · intro h
                have h7 : ¬ m ≤ 7 := of_decide_eq_false h
                exact HW.out.trans (by unfold Sc.fin; rw [HK.out, if_neg (by omega), if_neg (by rw [HM.out]; omega)])
              · exact (below_put8 hL.below hL.l2 _ _ _ _ _ _ _ _).drew
set_option maxHeartbeats 2000000 in
set_option maxRecDepth 100000 in
theorem whole_n0 (L : Nat → Int) (N k dg va te pa fo : Int) (w : World) :
    Calls Tryd.prog 48 #[scV ⟨L, N, k, 0, dg, va, te, pa, fo⟩] w (WholeRet ⟨L, N, k, 0, dg, va, te, pa, fo⟩ w) := by
  go_enter Tryd.func48, Tryd.ntmps48
  go_wp2_with fail
  try simp only [Exit.inBlock, Exit.then]
  refine bodyPost_ret (results_cell2 rfl rfl (ld8 (f := fun _ => 0) (blk_new1 w _ _))) rfl ?_
  refine ⟨fun _ => 0, false, rfl, fun h => (by cases h), fun _ => ?_, by go_grown⟩
  unfold Sc.whole
  rw [if_neg (by show ¬ (0 : Int) = 3; decide), if_neg (by show ¬ (0 : Int) = 4; decide), if_neg (by show ¬ (0 : Int) = 6; decide)]
set_option maxHeartbeats 2000000 in
set_option maxRecDepth 100000 in
theorem whole_n1 (L : Nat → Int) (N k dg va te pa fo : Int) (w : World) :
    Calls Tryd.prog 48 #[scV ⟨L, N, k, 1, dg, va, te, pa, fo⟩] w (WholeRet ⟨L, N, k, 1, dg, va, te, pa, fo⟩ w) := by
  go_enter Tryd.func48, Tryd.ntmps48
  go_wp2_with fail
  try simp only [Exit.inBlock, Exit.then]
  refine bodyPost_ret (results_cell2 rfl rfl (ld8 (f := fun _ => 0) (blk_new1 w _ _))) rfl ?_
  refine ⟨fun _ => 0, false, rfl, fun h => (by cases h), fun _ => ?_, by go_grown⟩
  unfold Sc.whole
  rw [if_neg (by show ¬ (1 : Int) = 3; decide), if_neg (by show ¬ (1 : Int) = 4; decide), if_neg (by show ¬ (1 : Int) = 6; decide)]
set_option maxHeartbeats 2000000 in
set_option maxRecDepth 100000 in
theorem whole_n2 (L : Nat → Int) (N k dg va te pa fo : Int) (w : World) :
    Calls Tryd.prog 48 #[scV ⟨L, N, k, 2, dg, va, te, pa, fo⟩] w (WholeRet ⟨L, N, k, 2, dg, va, te, pa, fo⟩ w) := by
  go_enter Tryd.func48, Tryd.ntmps48
  go_wp2_with fail
  try simp only [Exit.inBlock, Exit.then]
  refine bodyPost_ret (results_cell2 rfl rfl (ld8 (f := fun _ => 0) (blk_new1 w _ _))) rfl ?_
  refine ⟨fun _ => 0, false, rfl, fun h => (by cases h), fun _ => ?_, by go_grown⟩
  unfold Sc.whole
  rw [if_neg (by show ¬ (2 : Int) = 3; decide), if_neg (by show ¬ (2 : Int) = 4; decide), if_neg (by show ¬ (2 : Int) = 6; decide)]
set_option maxHeartbeats 2000000 in
set_option maxRecDepth 100000 in
theorem whole_n5 (L : Nat → Int) (N k dg va te pa fo : Int) (w : World) :
    Calls Tryd.prog 48 #[scV ⟨L, N, k, 5, dg, va, te, pa, fo⟩] w (WholeRet ⟨L, N, k, 5, dg, va, te, pa, fo⟩ w) := by
  go_enter Tryd.func48, Tryd.ntmps48
  go_wp2_with fail
  try simp only [Exit.inBlock, Exit.then]
  refine bodyPost_ret (results_cell2 rfl rfl (ld8 (f := fun _ => 0) (blk_new1 w _ _))) rfl ?_
  refine ⟨fun _ => 0, false, rfl, fun h => (by cases h), fun _ => ?_, by go_grown⟩
  unfold Sc.whole
  rw [if_neg (by show ¬ (5 : Int) = 3; decide), if_neg (by show ¬ (5 : Int) = 4; decide), if_neg (by show ¬ (5 : Int) = 6; decide)]
set_option maxHeartbeats 2000000 in
set_option maxRecDepth 100000 in
theorem whole_n6 (L : Nat → Int) (N k dg va te pa fo : Int) (hp : (pa != 3) = true) (w : World) :
    Calls Tryd.prog 48 #[scV ⟨L, N, k, 6, dg, va, te, pa, fo⟩] w (WholeRet ⟨L, N, k, 6, dg, va, te, pa, fo⟩ w) := by
  go_enter Tryd.func48, Tryd.ntmps48
  go_wp2_with fail
  try simp only [Exit.inBlock, Exit.then]
  refine bodyPost_ret (results_cell2 rfl rfl (ld8 (f := fun _ => 0) (blk_new1 w _ _))) rfl ?_
  refine ⟨fun _ => 0, false, rfl, fun h => (by cases h), fun _ => ?_, by go_grown⟩
  unfold Sc.whole
  rw [if_neg (by show ¬ (6 : Int) = 3; decide), if_neg (by show ¬ (6 : Int) = 4; decide), if_pos rfl, if_neg (by simpa using hp)]
theorem whole_walk (x : Sc) (s0 : 0 ≤ x.st) (s6 : x.st ≤ 6) (n0 : 0 ≤ x.N) (n7 : x.N ≤ 7) (k0 : -1 ≤ x.skip) (k7 : x.skip ≤ x.N) (h4 : x.st = 4 → 0 ≤ x.val ∧ x.val ≤ 65535)
    (h6 : x.st = 6 → x.N ≤ 6 ∧ 0 ≤ x.ten ∧ x.ten ≤ 255 ∧ 0 ≤ x.four ∧ x.four ≤ 16777215) (w : World) :
    Calls Tryd.prog 48 #[scV x] w (WholeRet x w) := by
  obtain ⟨L, N, k, st, dg, va, te, pa, fo⟩ := x
  dsimp only at s0 s6 n0 n7 k0 k7 h4 h6
  have hst : st = 0 ∨ st = 1 ∨ st = 2 ∨ st = 3 ∨ st = 4 ∨ st = 5 ∨ st = 6 := by omega
  rcases hst with rfl | rfl | rfl | rfl | rfl | rfl | rfl
  · exact whole_n0 L N k dg va te pa fo w
  · exact whole_n1 L N k dg va te pa fo w
  · exact whole_n2 L N k dg va te pa fo w
  · exact whole_3 L N k dg va te pa fo n0 n7 k0 k7 w
  · obtain ⟨v0, v1⟩ := h4 rfl
    exact whole_4 L N k dg va te pa fo n0 n7 k0 k7 v0 v1 w
  · exact whole_n5 L N k dg va te pa fo w
  · obtain ⟨N6, t0, t1, f0, f1⟩ := h6 rfl
    by_cases hp : pa = 3
    · exact whole_6 L N k dg va te pa fo n0 n7 k0 k7 hp N6 f0 f1 t0 t1 w
    · exact whole_n6 L N k dg va te pa fo (by simpa using hp) w
end Go.Proofs.YtcgdjnmfeibnoaaDoor
/-! SixOk -/
namespace Go.Proofs.YtcgdjnmfeibnoaaDoor
open Go.RowKit Go.Proofs.YtcgdjnmfeibnoaaDoorW.PrintWords
set_option linter.unusedVariables false
set_option linter.unusedSimpArgs false
theorem sc_ok {x : Sc} {l : List St} {t : List UInt8} (hs : Sim x l) (ht : TI x t) : ScOk x := by
  have hi : Inv x := by cases hs <;> assumption
  refine ⟨hi.n0, hi.n7, ?_, ?_, ?_, ?_⟩
  · cases hs <;> omega
  · cases hs <;> omega
  · intro h4
    have hv : 0 ≤ x.val ∧ x.val ≤ 65535 := by
      cases ht with
      | start h => omega
      | colon h => omega
      | single h => omega
      | piece h hb hc hd hv => rw [hv]; exact pcV_bound hc
      | stop h => omega
      | part h => omega
    cases hs with
    | ahead h => omega
    | piece h hi hr hp d1 d4 ht => unfold TenOk at ht; exact ⟨hp, by omega, by omega, hv.1, hv.2, by omega, by omega⟩
    | both h hi hr hp d1 d4 ht => unfold TenOk at ht; exact ⟨hp, by omega, by omega, hv.1, hv.2, by omega, by omega⟩
    | stop h => omega
    | part h => omega
  · intro h6
    have hf : 0 ≤ x.four ∧ x.four ≤ 16777215 := by
      cases ht with
      | start h => omega
      | colon h => omega
      | single h => omega
      | piece h => omega
      | stop h => omega
      | part h hb hn hno hr f0 f1 => omega
    cases hs with
    | ahead h => omega
    | piece h => omega
    | both h => omega
    | stop h => omega
    | part h hi hfi p1 p3 d1 ht t0 t1 => unfold TenOk at ht; exact ⟨by omega, by omega, t0, t1, by omega, hf.1, hf.2⟩
theorem whole_at {x : Sc} {l : List St} {t : List UInt8} (hs : Sim x l) (ht : TI x t) (w : World) :
    Calls Tryd.prog 48 #[scV x] w (WholeRet x w) := by
  have h := sc_ok hs ht
  have hi : Inv x := by cases hs <;> assumption
  refine whole_walk x h.s0 h.s6 hi.n0 hi.n7 hi.k0 hi.kn (fun e => ⟨(h.a4 e).2.2.2.1, (h.a4 e).2.2.2.2.1⟩) (fun e => ?_) w
  obtain ⟨_, _, t0, t1, _, f0, f1⟩ := h.a6 e
  refine ⟨?_, t0, t1, f0, f1⟩
  cases hs with
  | ahead h => omega
  | piece h => omega
  | both h => omega
  | stop h => omega
  | part h hi hfi => have := of_decide_eq_true hfi; omega
end Go.Proofs.YtcgdjnmfeibnoaaDoor
/-! SixRefParse -/
namespace Go.Proofs.YtcgdjnmfeibnoaaDoor
open Go.RowKit Go.Proofs.YtcgdjnmfeibnoaaDoorW.PrintWords
set_option linter.unusedVariables false
set_option linter.unusedSimpArgs false
/-- The boxes of Parse: the result's and the scan's. -/
structure PR (w : World) (x : Sc) (W : World) : Prop where
  k2 : W.heap[w.heap.size]? = some (.cells (ar8 fun _ => 0) 30 (0, 0))
  k5 : W.heap[w.heap.size + 1]? = some (.cells (scC x) 90 (0, 0))
  below : Below w.heap.size w W
theorem PR.keep {w : World} {x : Sc} {W W' : World} (h : PR w x W) (hb : Below W.heap.size W W') : PR w x W' := ⟨blk_below h.k2 hb, blk_below h.k5 hb, h.below.trans (hb.mono h.below.size)⟩
theorem PR.load {w : World} {x : Sc} {W : World} (h : PR w x W) : (loadS (.pointer (some ⟨w.heap.size + 1, 0, none⟩))).run Tryd.prog W = .ok (scV x) W := by
  unfold loadS
  simp only [Instr.loadAt, Instr.sureAddr, Sem.run_bind, Sem.run_pure, Result.andThen]
  exact run_loadVar_row _ _ 90 90 _ (0, 0) _ h.k5 Tryd.underlying90 rfl (by kernel_rfl)
theorem PR.store {w : World} {x : Sc} {W : World} (h : PR w x W) (y : Sc) : ∃ W', (storeS (.pointer (some ⟨w.heap.size + 1, 0, none⟩)) (scV y)).run Tryd.prog W = .ok () W' ∧ PR w y W' := by
  refine ⟨W.setRow (w.heap.size + 1) (scC y), ?_, ?_, ?_, ?_⟩
  · unfold storeS
    simp only [Instr.storeAt, Instr.sureAddr, Sem.run_bind, Sem.run_pure, Result.andThen]
    exact run_storeVar_row _ _ 90 90 _ _ h.k5 (by kernel_rfl) rfl (by simp [Value.oneCell'])
  · rw [show (W.setRow (w.heap.size + 1) (scC y)).heap[w.heap.size]? = W.heap[w.heap.size]? from by simp [World.setRow, Array.getElem?_modify]]
    exact h.k2
  · exact setRow_heap _ _ _ _ _ _ h.k5
  · exact ⟨h.below.os, h.below.tape, h.below.output, by simpa [World.setRow] using h.below.size, fun i hi => by
      rw [show (W.setRow (w.heap.size + 1) (scC y)).heap[i]? = W.heap[i]? from by simp [World.setRow, Array.getElem?_modify]; omega]
      exact h.below.block i hi⟩
theorem results_cell3 {fn : Func} {t u v : Tmp} {ty : TypeId} {P : Program} {tmps : Array Value} {w : World} {a : Addr} {x : Value} (h : fn.results = #[.cell t ty, .tmp u, .tmp v]) (ht : tmps.getD t undef = .pointer (some a)) (hl : (loadVar ty a).run P w = .ok x w) :
    (results fn tmps).run P w = .ok (.tuple #[x, tmps.getD u undef, tmps.getD v undef]) w := by
  have ht' := ht
  simp at ht'
  simp [results, h, ht', asAddr, hl]
/-- What stands at the head of a round. -/
def PRel (s : ByteArray) (w : World) (i : Value) (W : World) : Prop :=
  ∃ (n : Nat) (x : Sc) (l : List St), n ≤ s.size ∧ i = .int .i64 n ∧ scanV s.data.toList sc0 0 = scanV (s.data.toList.drop n) x n ∧ Sim x l ∧ TI x (s.data.toList.take n) ∧ PR w x W
def RefParsed (s : ByteArray) (w : World) (e : Ending) (w' : World) : Prop :=
  ∃ f : Nat → Int, e = .returned (.tuple #[.agg (ar8 f), .int .i64 (parseR s.data.toList).2.1, .int .i64 (parseR s.data.toList).2.2]) ∧ (∀ j, j < 8 → f j = (parseR s.data.toList).1 j) ∧ Below w.heap.size w w'
set_option maxHeartbeats 4000000 in
set_option maxRecDepth 100000 in
theorem refParse_walk (s : ByteArray) (hs : s.size ≤ 9223372036854775807) (w : World) : Calls Tryd.prog 16 #[.string s] w (RefParsed s w) := by
  have hz := size_len s
  go_enter Tryd.func16, Tryd.ntmps16
  go_wp2_with fail
  go_loopw [6] (fun i W => PRel s w i W) (fun i _ => s.size - (intOf i).toNat)
  case atStart =>
    refine ⟨0, sc0, [st0], Nat.zero_le _, rfl, rfl, sim0, ti0, ?_, ?_, by go_grown⟩
    · exact blk_alloc (blk_new _ _) _
    · exact blk_new1 w _ _
  case round =>
    obtain ⟨n, x, l, hn, rfl, hsc, hS, hT, hP⟩ := hrel
    by_cases hlt : n < s.size
    · have hd : s.data.toList.drop n = s[n] :: s.data.toList.drop (n + 1) := List.drop_eq_getElem_cons (by omega)
      have htk : s.data.toList.take (n + 1) = s.data.toList.take n ++ [s[n]] := by rw [List.take_succ_eq_append_getElem (by omega)]; rfl
      have hok := sc_ok hS hT
      have hst := step_sim hS ((s[n].toNat : Nat) : Int)
      have hti := step_ti hS hT s[n]
      have c1 : ((s[n].toNat : Nat) : Int) < 256 := by have := s[n].toNat_lt; omega
      have hltI : (n : Int) < s.size := by omega
      rw [hd, scanV] at hsc
      have HD := Lib.hid hd
      have HTK := Lib.hid htk
      have HSC := Lib.hid hsc
      have HST := Lib.hid hst
      have HTI := Lib.hid hti
      clear hd htk hsc hst hti hz
      have hld : ∀ X : Ext wr, (loadS (.pointer (some ⟨w.heap.size + 1, 0, none⟩))).run Tryd.prog X.wd = .ok (scV x) X.wd := fun X => (hP.keep X.below).load
      go_wp2_with fail
      refine wp_region_ext_tail 4 (by kernel_rfl) (by kernel_rfl) ?_
      dsimp only [List.take, List.drop]
      repeat (go_big_quiet_step (fail))
      refine wpQuiet_nil ?_
      rintro w2 ⟨⟨W2, hb2⟩, hw2⟩
      obtain rfl : W2 = w2 := hw2.symm
      have hP2 := hP.keep hb2
      clear hld
      go_wp2_with fail
      refine (step_walk x hok _ (by omega) c1 _).mono ?_
      rintro e w3 ⟨rfl, hg3⟩
      obtain ⟨y, hy⟩ : ∃ y, y = x.step ((s[n].toNat : Nat) : Int) := ⟨_, rfl⟩
      rw [← hy]
      have HY := Lib.hid hy
      clear hy
      obtain ⟨W4, hst4, hP4⟩ := (hP2.keep hg3.below).store y
      have c10 : W4.cell? ⟨w.heap.size + 1, 10, none⟩ = some (.int .i64 y.st) := (blk_cell hP4.k5 10).trans rfl
      by_cases h7 : y.st = 7
      · rw [h7] at c10
        have y0 : W4.cell? ⟨w.heap.size, 0, none⟩ = some (.int .u16 0) := (blk_cell hP4.k2 0).trans rfl
        have v0 : W4.frozen? ⟨w.heap.size, 0, none⟩ = false := blk_frozen hP4.k2 0
        have y1 : W4.cell? ⟨w.heap.size, 1, none⟩ = some (.int .u16 0) := (blk_cell hP4.k2 1).trans rfl
        have v1 : W4.frozen? ⟨w.heap.size, 1, none⟩ = false := blk_frozen hP4.k2 1
        have y2 : W4.cell? ⟨w.heap.size, 2, none⟩ = some (.int .u16 0) := (blk_cell hP4.k2 2).trans rfl
        have v2 : W4.frozen? ⟨w.heap.size, 2, none⟩ = false := blk_frozen hP4.k2 2
        have y3 : W4.cell? ⟨w.heap.size, 3, none⟩ = some (.int .u16 0) := (blk_cell hP4.k2 3).trans rfl
        have v3 : W4.frozen? ⟨w.heap.size, 3, none⟩ = false := blk_frozen hP4.k2 3
        have y4 : W4.cell? ⟨w.heap.size, 4, none⟩ = some (.int .u16 0) := (blk_cell hP4.k2 4).trans rfl
        have v4 : W4.frozen? ⟨w.heap.size, 4, none⟩ = false := blk_frozen hP4.k2 4
        have y5 : W4.cell? ⟨w.heap.size, 5, none⟩ = some (.int .u16 0) := (blk_cell hP4.k2 5).trans rfl
        have v5 : W4.frozen? ⟨w.heap.size, 5, none⟩ = false := blk_frozen hP4.k2 5
        have y6 : W4.cell? ⟨w.heap.size, 6, none⟩ = some (.int .u16 0) := (blk_cell hP4.k2 6).trans rfl
        have v6 : W4.frozen? ⟨w.heap.size, 6, none⟩ = false := blk_frozen hP4.k2 6
        have y7 : W4.cell? ⟨w.heap.size, 7, none⟩ = some (.int .u16 0) := (blk_cell hP4.k2 7).trans rfl
        have v7 : W4.frozen? ⟨w.heap.size, 7, none⟩ = false := blk_frozen hP4.k2 7
        go_wp2_with fail
        try simp only [Exit.inBlock, Exit.then]
        refine bodyPost_ret (results_cell3 rfl rfl (ld8 (blk_put8 hP4.k2 (fun _ => 0)))) rfl ?_
        have hsc' : scanV s.data.toList sc0 0 = .inl n := HSC.out.trans (by rw [← HY.out, if_pos h7])
        refine ⟨fun _ => 0, ?_, ?_, below_put8 hP4.below (Nat.le_refl _) _ _ _ _ _ _ _ _⟩
        · unfold parseR; rw [hsc']; rfl
        · intro j hj; unfold parseR; rw [hsc']
      · have h7b : (y.st == 7) = false := beq_eq_false_iff_ne.2 h7
        go_wp2_with fail
        refine ⟨⟨n + 1, y, l.flatMap (nextP · ((s[n].toNat : Nat) : Int)), by omega, by go_num, HSC.out.trans (by rw [← HY.out, if_neg h7]), ?_, ?_, hP4⟩, ?_⟩
        · rcases HST.out with q | q
          · exact absurd (by rw [HY.out]; exact q.1) h7
          · rw [HY.out]; exact q.2
        · rw [HTK.out, HY.out]
          exact HTI.out (by rw [← HY.out]; exact h7)
        · simp [intOf]; omega
    · obtain rfl : n = s.size := by omega
      have hsc' : scanV s.data.toList sc0 0 = .inr x := hsc.trans (by rw [List.drop_of_length_le (by omega)]; rfl)
      have HSC := Lib.hid hsc'
      clear hsc hsc' hz
      have hld := hP.load
      go_wp2_with fail
      refine (whole_at hS hT _).mono ?_
      rintro e w2 ⟨f, ok, rfl, hy, hno, hb2⟩
      have hP2 := hP.keep hb2
      have hlt2 : w.heap.size < w2.heap.size := blk_lt hP2.k2
      clear hld
      unfold ar8
      have HY := Lib.hid hy
      have HN := Lib.hid hno
      clear hy hno
      cases ok
      · go_upto_region 10 with fail
        generalize hW : w2.alloc (Obj.cells #[.int .u16 (f 0), .int .u16 (f 1), .int .u16 (f 2), .int .u16 (f 3), .int .u16 (f 4), .int .u16 (f 5), .int .u16 (f 6), .int .u16 (f 7)] 30) = W5
        have hP5 : PR w x W5 := by rw [← hW]; exact hP2.keep ((Below.refl _ _).alloc (Nat.le_refl _) _)
        have h5 : W5.heap[w2.heap.size]? = some (.cells (ar8 f) 30 (0, 0)) := by rw [← hW]; exact blk_new _ _
        clear hW
        have y0 : W5.cell? ⟨w.heap.size, 0, none⟩ = some (.int .u16 0) := (blk_cell hP5.k2 0).trans rfl
        have v0 : W5.frozen? ⟨w.heap.size, 0, none⟩ = false := blk_frozen hP5.k2 0
        have y1 : W5.cell? ⟨w.heap.size, 1, none⟩ = some (.int .u16 0) := (blk_cell hP5.k2 1).trans rfl
        have v1 : W5.frozen? ⟨w.heap.size, 1, none⟩ = false := blk_frozen hP5.k2 1
        have y2 : W5.cell? ⟨w.heap.size, 2, none⟩ = some (.int .u16 0) := (blk_cell hP5.k2 2).trans rfl
        have v2 : W5.frozen? ⟨w.heap.size, 2, none⟩ = false := blk_frozen hP5.k2 2
        have y3 : W5.cell? ⟨w.heap.size, 3, none⟩ = some (.int .u16 0) := (blk_cell hP5.k2 3).trans rfl
        have v3 : W5.frozen? ⟨w.heap.size, 3, none⟩ = false := blk_frozen hP5.k2 3
        have y4 : W5.cell? ⟨w.heap.size, 4, none⟩ = some (.int .u16 0) := (blk_cell hP5.k2 4).trans rfl
        have v4 : W5.frozen? ⟨w.heap.size, 4, none⟩ = false := blk_frozen hP5.k2 4
        have y5 : W5.cell? ⟨w.heap.size, 5, none⟩ = some (.int .u16 0) := (blk_cell hP5.k2 5).trans rfl
        have v5 : W5.frozen? ⟨w.heap.size, 5, none⟩ = false := blk_frozen hP5.k2 5
        have y6 : W5.cell? ⟨w.heap.size, 6, none⟩ = some (.int .u16 0) := (blk_cell hP5.k2 6).trans rfl
        have v6 : W5.frozen? ⟨w.heap.size, 6, none⟩ = false := blk_frozen hP5.k2 6
        have y7 : W5.cell? ⟨w.heap.size, 7, none⟩ = some (.int .u16 0) := (blk_cell hP5.k2 7).trans rfl
        have v7 : W5.frozen? ⟨w.heap.size, 7, none⟩ = false := blk_frozen hP5.k2 7
        go_wp2_with fail
        try simp only [Exit.inBlock, Exit.then]
        refine bodyPost_ret (results_cell3 rfl rfl (ld8 (blk_put8 hP5.k2 (fun _ => 0)))) rfl ?_
        refine ⟨fun _ => 0, ?_, ?_, below_put8 hP5.below (Nat.le_refl _) _ _ _ _ _ _ _ _⟩
        · unfold parseR; rw [HSC.out]; simp only [HN.out (by simp)]; rfl
        · intro j hj; unfold parseR; rw [HSC.out]; simp only [HN.out (by simp)]
      · go_upto_region 11 with fail
        generalize hW : w2.alloc (Obj.cells #[.int .u16 (f 0), .int .u16 (f 1), .int .u16 (f 2), .int .u16 (f 3), .int .u16 (f 4), .int .u16 (f 5), .int .u16 (f 6), .int .u16 (f 7)] 30) = W5
        have hP5 : PR w x W5 := by rw [← hW]; exact hP2.keep ((Below.refl _ _).alloc (Nat.le_refl _) _)
        have h5 : W5.heap[w2.heap.size]? = some (.cells (ar8 f) 30 (0, 0)) := by rw [← hW]; exact blk_new _ _
        clear hW
        have y0 : W5.cell? ⟨w.heap.size, 0, none⟩ = some (.int .u16 0) := (blk_cell hP5.k2 0).trans rfl
        have v0 : W5.frozen? ⟨w.heap.size, 0, none⟩ = false := blk_frozen hP5.k2 0
        have y1 : W5.cell? ⟨w.heap.size, 1, none⟩ = some (.int .u16 0) := (blk_cell hP5.k2 1).trans rfl
        have v1 : W5.frozen? ⟨w.heap.size, 1, none⟩ = false := blk_frozen hP5.k2 1
        have y2 : W5.cell? ⟨w.heap.size, 2, none⟩ = some (.int .u16 0) := (blk_cell hP5.k2 2).trans rfl
        have v2 : W5.frozen? ⟨w.heap.size, 2, none⟩ = false := blk_frozen hP5.k2 2
        have y3 : W5.cell? ⟨w.heap.size, 3, none⟩ = some (.int .u16 0) := (blk_cell hP5.k2 3).trans rfl
        have v3 : W5.frozen? ⟨w.heap.size, 3, none⟩ = false := blk_frozen hP5.k2 3
        have y4 : W5.cell? ⟨w.heap.size, 4, none⟩ = some (.int .u16 0) := (blk_cell hP5.k2 4).trans rfl
        have v4 : W5.frozen? ⟨w.heap.size, 4, none⟩ = false := blk_frozen hP5.k2 4
        have y5 : W5.cell? ⟨w.heap.size, 5, none⟩ = some (.int .u16 0) := (blk_cell hP5.k2 5).trans rfl
        have v5 : W5.frozen? ⟨w.heap.size, 5, none⟩ = false := blk_frozen hP5.k2 5
        have y6 : W5.cell? ⟨w.heap.size, 6, none⟩ = some (.int .u16 0) := (blk_cell hP5.k2 6).trans rfl
        have v6 : W5.frozen? ⟨w.heap.size, 6, none⟩ = false := blk_frozen hP5.k2 6
        have y7 : W5.cell? ⟨w.heap.size, 7, none⟩ = some (.int .u16 0) := (blk_cell hP5.k2 7).trans rfl
        have v7 : W5.frozen? ⟨w.heap.size, 7, none⟩ = false := blk_frozen hP5.k2 7
        have z0 : W5.cell? ⟨w2.heap.size, 0, none⟩ = some (.int .u16 (f 0)) := (blk_cell h5 0).trans rfl
        have z1 : W5.cell? ⟨w2.heap.size, 1, none⟩ = some (.int .u16 (f 1)) := (blk_cell h5 1).trans rfl
        have z2 : W5.cell? ⟨w2.heap.size, 2, none⟩ = some (.int .u16 (f 2)) := (blk_cell h5 2).trans rfl
        have z3 : W5.cell? ⟨w2.heap.size, 3, none⟩ = some (.int .u16 (f 3)) := (blk_cell h5 3).trans rfl
        have z4 : W5.cell? ⟨w2.heap.size, 4, none⟩ = some (.int .u16 (f 4)) := (blk_cell h5 4).trans rfl
        have z5 : W5.cell? ⟨w2.heap.size, 5, none⟩ = some (.int .u16 (f 5)) := (blk_cell h5 5).trans rfl
        have z6 : W5.cell? ⟨w2.heap.size, 6, none⟩ = some (.int .u16 (f 6)) := (blk_cell h5 6).trans rfl
        have z7 : W5.cell? ⟨w2.heap.size, 7, none⟩ = some (.int .u16 (f 7)) := (blk_cell h5 7).trans rfl
        have hne : ¬ w2.heap.size = w.heap.size := by omega
        have hne' : ¬ w.heap.size = w2.heap.size := by omega
        go_wp2_with fail
        try simp only [Exit.inBlock, Exit.then]
        obtain ⟨A, hA, hfA⟩ := HY.out (by simp)
        refine bodyPost_ret (results_cell3 rfl rfl (ld8 (blk_put8 hP5.k2 f))) rfl ?_
        refine ⟨f, ?_, ?_, below_put8 hP5.below (Nat.le_refl _) _ _ _ _ _ _ _ _⟩
        · unfold parseR; rw [HSC.out]; simp only [hA]; rfl
        · intro j hj; unfold parseR; rw [HSC.out]; simp only [hA]; exact hfA j hj
end Go.Proofs.YtcgdjnmfeibnoaaDoor
/-! StShelf -/
namespace Go.Proofs
open Go.Shelf
def Tryd.stIndex_ren : Go.Shelf.Ren := ⟨fun | 6 => 87 | n => n, fun | 22 => 81 | 23 => 80 | 25 => 84 | 3 => 3 | 0 => 0 | 4 => 4 | n => n, fun | n => n⟩
theorem Tryd.stIndex : Go.Proofs.SlLaysH0.n6 Tryd.prog Tryd.stIndex_ren := {
  mixed := by kernel_rfl
  f6 := ⟨Tryd.f87.name, by decide, Tryd.func87.trans (congrArg some (by kernel_rfl))⟩
  t0 := Tryd.underlying0
  a0 := Tryd.isAgg0
  z0 := Tryd.sizeOf0
  v0 := Tryd.zeroValue0
  t3 := Tryd.underlying3
  a3 := Tryd.isAgg3
  z3 := Tryd.sizeOf3
  v3 := Tryd.zeroValue3
  t4 := Tryd.underlying4
  a4 := Tryd.isAgg4
  z4 := Tryd.sizeOf4
  v4 := Tryd.zeroValue4
  t22 := Tryd.underlying81
  a22 := Tryd.isAgg81
  z22 := Tryd.sizeOf81
  v22 := Tryd.zeroValue81
  t25 := Tryd.underlying84
  a25 := Tryd.isAgg84
  z25 := Tryd.sizeOf84
  v25 := Tryd.zeroValue84 }
end Go.Proofs
/-! SixSt -/
namespace Go.Proofs.YtcgdjnmfeibnoaaDoor
open Go.RowKit Go.Proofs.YtcgdjnmfeibnoaaDoorW.PrintWords Go.Proofs.YtcgdjnmfeibnoaaDoor.X
set_option linter.unusedVariables false
set_option linter.unusedSimpArgs false
abbrev stV (x : St) : Value := .agg #[.int .i64 x.wh, .int .i64 x.pc, .bool x.gap, .int .i64 x.dg, .int .i64 x.nu, .int .i64 x.va]
set_option maxHeartbeats 1000000 in
set_option maxRecDepth 100000 in
theorem stMore_walk (a b : Int) (g : Bool) (d n v : Int) (w : World) :
    Calls Tryd.prog 85 #[.agg #[.int .i64 a, .int .i64 b, .bool g, .int .i64 d, .int .i64 n, .int .i64 v]] w fun e w' => e = .returned (.bool (moreP ⟨a, b, g, d, n, v⟩)) ∧ Below w.heap.size w w' := by
  unfold moreP
  cases g
  · go_enter Tryd.func85, Tryd.ntmps85
    go_wp2
    go_returns
    exact ⟨rfl, by go_grown⟩
  · go_enter Tryd.func85, Tryd.ntmps85
    go_wp2
    go_returns
    exact ⟨rfl, by go_grown⟩
set_option maxHeartbeats 1000000 in
set_option maxRecDepth 100000 in
theorem stMay_walk (a b : Int) (g : Bool) (d n v : Int) (w : World) :
    Calls Tryd.prog 117 #[.agg #[.int .i64 a, .int .i64 b, .bool g, .int .i64 d, .int .i64 n, .int .i64 v]] w fun e w' => e = .returned (.bool (mayP ⟨a, b, g, d, n, v⟩)) ∧ Below w.heap.size w w' := by
  unfold mayP
  cases g
  · go_enter Tryd.func117, Tryd.ntmps117
    go_wp2
    go_returns
    exact ⟨by first | rfl | (rw [Int.beq_eq]; rfl) | simp, by go_grown⟩
  · go_enter Tryd.func117, Tryd.ntmps117
    go_wp2
    go_returns
    exact ⟨rfl, by go_grown⟩
/-- The cells of states. -/
def stC (x : St) : List Value := [.int .i64 x.wh, .int .i64 x.pc, .bool x.gap, .int .i64 x.dg, .int .i64 x.nu, .int .i64 x.va]
def stCs (l : List St) : List Value := l.flatMap stC
/-- A row of states of the call's own. -/
def StRow (w : World) (l : List St) (e : Ending) (w' : World) : Prop := ∃ v, e = .returned v ∧ w'.ownsRow w.heap.size 80 6 v l.length (stCs l) ∧ Below w.heap.size w w'
theorem row_nil {w W : World} (hb : Below w.heap.size w W) : StRow w [] (.returned (.slice none 0 0)) W := ⟨_, rfl, own_nil _ _ _ _, hb⟩
theorem row_lit {w W : World} (x : St) (hb : Below w.heap.size w W) : StRow w [x] (.returned (.slice (some ⟨W.heap.size, 0, none⟩) 1 1)) (W.alloc (.cells #[.int .i64 x.wh, .int .i64 x.pc, .bool x.gap, .int .i64 x.dg, .int .i64 x.nu, .int .i64 x.va] 80)) := by
  refine ⟨_, rfl, ?_, hb.alloc hb.size _⟩
  have := World.ownsRow_lit (base := w.heap.size) (size := 6) (e := 80) W #[.int .i64 x.wh, .int .i64 x.pc, .bool x.gap, .int .i64 x.dg, .int .i64 x.nu, .int .i64 x.va] 1 hb.size (by unfold maxLen; omega) rfl
  exact this
theorem chain0 {w W W' : World} (h : Below w.heap.size w W) (k : Below W.heap.size W W') : Below w.heap.size w W' := h.trans (k.mono h.size)
theorem st_info : ∃ i, Tryd.prog.info? 80 = some i ∧ i.zero = some (.agg #[.int .i64 0, .int .i64 0, .bool false, .int .i64 0, .int .i64 0, .int .i64 0]) ∧ i.size = 6 ∧ i.bytes = 48 :=
  info_parts (show (Tryd.prog.info? 80).map (fun i => (i.zero, i.size, i.bytes)) = some (some (.agg #[.int .i64 0, .int .i64 0, .bool false, .int .i64 0, .int .i64 0, .int .i64 0]), 6, 48) by kernel_rfl)
set_option maxHeartbeats 2000000 in
set_option maxRecDepth 100000 in
theorem begin_no (a b : Int) (g : Bool) (d n v c : Int) (h0 : 0 ≤ c) (h1 : c < 256) (hd : decide (0 ≤ digV c 16) = false) (hk : decide (0 ≤ digV c 10) = false) (w : World) :
    Calls Tryd.prog 84 #[.agg #[.int .i64 a, .int .i64 b, .bool g, .int .i64 d, .int .i64 n, .int .i64 v], .int .u8 c] w (StRow w []) := by
  go_enter Tryd.func84, Tryd.ntmps84
  go_wp2_with fail
  refine (digit_walk c 16 h0 h1 _).mono ?_
  rintro e w0 ⟨rfl, rfl⟩
  go_wp2_with fail
  refine (digit_walk c 10 h0 h1 _).mono ?_
  rintro e w0 ⟨rfl, rfl⟩
  go_wp2_with fail
  go_returns
  exact row_nil (by go_grown)
set_option maxHeartbeats 2000000 in
set_option maxRecDepth 100000 in
theorem begin_full (a b : Int) (g : Bool) (d n v c : Int) (h0 : 0 ≤ c) (h1 : c < 256) (hd : decide (0 ≤ digV c 16) = true) (hk : decide (0 ≤ digV c 10) = false) (hm : moreP ⟨a, b, g, d, n, v⟩ = false) (w : World) :
    Calls Tryd.prog 84 #[.agg #[.int .i64 a, .int .i64 b, .bool g, .int .i64 d, .int .i64 n, .int .i64 v], .int .u8 c] w (StRow w []) := by
  go_enter Tryd.func84, Tryd.ntmps84
  go_wp2_with fail
  refine (digit_walk c 16 h0 h1 _).mono ?_
  rintro e w0 ⟨rfl, rfl⟩
  go_wp2_with fail
  refine (stMore_walk _ _ _ _ _ _ _).mono ?_
  rintro e w1 ⟨rfl, hb1⟩
  rw [hm]
  have B1 : Below w.heap.size w w1 := chain0 (by go_grown) hb1
  obtain ⟨hc1, hf1, hs1⟩ := after hb1
  try simp only [World.size_alloc] at hs1
  have l0 : w.heap.size < w1.heap.size := by omega
  clear hb1 hs1
  go_wp2_with fail
  refine (digit_walk c 10 h0 h1 _).mono ?_
  rintro e w0 ⟨rfl, rfl⟩
  go_wp2_with fail
  go_returns
  exact row_nil B1
set_option maxHeartbeats 2000000 in
set_option maxRecDepth 100000 in
theorem begin_full10 (a b : Int) (g : Bool) (d n v c : Int) (h0 : 0 ≤ c) (h1 : c < 256) (hd : decide (0 ≤ digV c 16) = true) (hk : decide (0 ≤ digV c 10) = true) (hm : moreP ⟨a, b, g, d, n, v⟩ = false) (hy : mayP ⟨a, b, g, d, n, v⟩ = false) (w : World) :
    Calls Tryd.prog 84 #[.agg #[.int .i64 a, .int .i64 b, .bool g, .int .i64 d, .int .i64 n, .int .i64 v], .int .u8 c] w (StRow w []) := by
  go_enter Tryd.func84, Tryd.ntmps84
  go_wp2_with fail
  refine (digit_walk c 16 h0 h1 _).mono ?_
  rintro e w0 ⟨rfl, rfl⟩
  go_wp2_with fail
  refine (stMore_walk _ _ _ _ _ _ _).mono ?_
  rintro e w1 ⟨rfl, hb1⟩
  rw [hm]
  have B1 : Below w.heap.size w w1 := chain0 (by go_grown) hb1
  obtain ⟨hc1, hf1, hs1⟩ := after hb1
  try simp only [World.size_alloc] at hs1
  have l0 : w.heap.size < w1.heap.size := by omega
  clear hb1 hs1
  go_wp2_with fail
  refine (digit_walk c 10 h0 h1 _).mono ?_
  rintro e w0 ⟨rfl, rfl⟩
  go_wp2_with fail
  refine (stMay_walk _ _ _ _ _ _ _).mono ?_
  rintro e w2 ⟨rfl, hb2⟩
  rw [hy]
  have B2 : Below w.heap.size w w2 := chain0 B1 hb2
  obtain ⟨hc2, hf2, hs2⟩ := after hb2
  try simp only [World.size_alloc] at hs2
  have l0 : w.heap.size < w2.heap.size := by omega
  clear hb2 hs2
  go_wp2_with fail
  go_returns
  exact row_nil B2
set_option maxHeartbeats 2000000 in
set_option maxRecDepth 100000 in
theorem begin_one (a b : Int) (g : Bool) (d n v c : Int) (h0 : 0 ≤ c) (h1 : c < 256) (hd : decide (0 ≤ digV c 16) = true) (hk : decide (0 ≤ digV c 10) = false) (hm : moreP ⟨a, b, g, d, n, v⟩ = true) (w : World) :
    Calls Tryd.prog 84 #[.agg #[.int .i64 a, .int .i64 b, .bool g, .int .i64 d, .int .i64 n, .int .i64 v], .int .u8 c] w (StRow w [⟨4, b, g, 1, n, v⟩]) := by
  go_enter Tryd.func84, Tryd.ntmps84
  obtain ⟨i0, hi, hz0, hz1, hz2⟩ := st_info
  have HI := Lib.hid hi
  have HZ0 := Lib.hid hz0
  have HZ1 := Lib.hid hz1
  have HZ2 := Lib.hid hz2
  clear hi hz0 hz1 hz2
  go_wp2_with fail
  refine (digit_walk c 16 h0 h1 _).mono ?_
  rintro e w0 ⟨rfl, rfl⟩
  obtain ⟨s0, hs0⟩ : ∃ s0, s0 = Value.slice none 0 0 := ⟨_, rfl⟩
  rw [← hs0]
  have own0 : ∀ W : World, W.ownsRow w.heap.size 80 6 s0 0 [] := fun W => by rw [hs0]; exact own_nil _ _ _ _
  have O0 := Lib.hid own0
  have O1 : Hid (s0.ownBlock = none) := Lib.hid (by rw [hs0]; rfl)
  clear hs0 own0
  go_wp2_with fail
  refine (stMore_walk _ _ _ _ _ _ _).mono ?_
  rintro e w1 ⟨rfl, hb1⟩
  rw [hm]
  have B1 : Below w.heap.size w w1 := chain0 (by go_grown) hb1
  obtain ⟨hc1, hf1, hs1⟩ := after hb1
  try simp only [World.size_alloc] at hs1
  have l0 : w.heap.size < w1.heap.size := by omega
  clear hb1 hs1
  go_wp2_with (at_builtin; refine app_one rfl _ _ 81 rfl w.heap.size 80 i0 (.agg #[.int .i64 0, .int .i64 0, .bool false, .int .i64 0, .int .i64 0, .int .i64 0]) 6 48 Tryd.underlying81 HI.out HZ0.out HZ1.out HZ2.out rfl (by decide) s0 0 [] rfl (O0.out _) [.int .i64 4, .int .i64 b, .bool g, .int .i64 1, .int .i64 n, .int .i64 v] (by first | rfl | (simp only [World.size_alloc]; rfl)) rfl (by simp [Value.oneCell']) (by unfold maxLen; omega) (by omega) (by simp; omega) ?_; intro G1 cap1 v3 hG1 own1 hgrow1 hbel1)
  go_wp2_with fail
  refine (digit_walk c 10 h0 h1 _).mono ?_
  rintro e w0 ⟨rfl, rfl⟩
  go_wp2_with fail
  go_returns
  exact ⟨_, rfl, own1, hbel1 _ _ (Nat.le_refl _) (B1.alloc (by omega) _)⟩
set_option maxHeartbeats 2000000 in
set_option maxRecDepth 100000 in
theorem begin_one10 (a b : Int) (g : Bool) (d n v c : Int) (h0 : 0 ≤ c) (h1 : c < 256) (hd : decide (0 ≤ digV c 16) = true) (hk : decide (0 ≤ digV c 10) = true) (hm : moreP ⟨a, b, g, d, n, v⟩ = true) (hy : mayP ⟨a, b, g, d, n, v⟩ = false) (w : World) :
    Calls Tryd.prog 84 #[.agg #[.int .i64 a, .int .i64 b, .bool g, .int .i64 d, .int .i64 n, .int .i64 v], .int .u8 c] w (StRow w [⟨4, b, g, 1, n, v⟩]) := by
  go_enter Tryd.func84, Tryd.ntmps84
  obtain ⟨i0, hi, hz0, hz1, hz2⟩ := st_info
  have HI := Lib.hid hi
  have HZ0 := Lib.hid hz0
  have HZ1 := Lib.hid hz1
  have HZ2 := Lib.hid hz2
  clear hi hz0 hz1 hz2
  go_wp2_with fail
  refine (digit_walk c 16 h0 h1 _).mono ?_
  rintro e w0 ⟨rfl, rfl⟩
  obtain ⟨s0, hs0⟩ : ∃ s0, s0 = Value.slice none 0 0 := ⟨_, rfl⟩
  rw [← hs0]
  have own0 : ∀ W : World, W.ownsRow w.heap.size 80 6 s0 0 [] := fun W => by rw [hs0]; exact own_nil _ _ _ _
  have O0 := Lib.hid own0
  have O1 : Hid (s0.ownBlock = none) := Lib.hid (by rw [hs0]; rfl)
  clear hs0 own0
  go_wp2_with fail
  refine (stMore_walk _ _ _ _ _ _ _).mono ?_
  rintro e w1 ⟨rfl, hb1⟩
  rw [hm]
  have B1 : Below w.heap.size w w1 := chain0 (by go_grown) hb1
  obtain ⟨hc1, hf1, hs1⟩ := after hb1
  try simp only [World.size_alloc] at hs1
  have l0 : w.heap.size < w1.heap.size := by omega
  clear hb1 hs1
  go_wp2_with (at_builtin; refine app_one rfl _ _ 81 rfl w.heap.size 80 i0 (.agg #[.int .i64 0, .int .i64 0, .bool false, .int .i64 0, .int .i64 0, .int .i64 0]) 6 48 Tryd.underlying81 HI.out HZ0.out HZ1.out HZ2.out rfl (by decide) s0 0 [] rfl (O0.out _) [.int .i64 4, .int .i64 b, .bool g, .int .i64 1, .int .i64 n, .int .i64 v] (by first | rfl | (simp only [World.size_alloc]; rfl)) rfl (by simp [Value.oneCell']) (by unfold maxLen; omega) (by omega) (by simp; omega) ?_; intro G1 cap1 v3 hG1 own1 hgrow1 hbel1)
  have B3 : Below w.heap.size w v3 := hbel1 _ _ (Nat.le_refl _) (B1.alloc (by omega) _)
  have hk3 : v3.cell? ⟨w.heap.size, 0, none⟩ = some (.int .i64 a) ∧ v3.cell? ⟨w.heap.size, 1, none⟩ = some (.int .i64 b) ∧ v3.cell? ⟨w.heap.size, 2, none⟩ = some (.bool g) ∧ v3.cell? ⟨w.heap.size, 3, none⟩ = some (.int .i64 d) ∧ v3.cell? ⟨w.heap.size, 4, none⟩ = some (.int .i64 n) ∧ v3.cell? ⟨w.heap.size, 5, none⟩ = some (.int .i64 v) := by
    have key : ∀ o, v3.cell? ⟨w.heap.size, o, none⟩ = w1.cell? ⟨w.heap.size, o, none⟩ := fun o => by
      have e := hgrow1.cell_far ⟨w.heap.size, o, none⟩ (by simp; omega) (by rw [O1.out]; simp)
      rw [e]
      go_simp
    exact ⟨(key 0).trans (by go_simp), (key 1).trans (by go_simp), (key 2).trans (by go_simp), (key 3).trans (by go_simp), (key 4).trans (by go_simp), (key 5).trans (by go_simp)⟩
  obtain ⟨q0, q1, q2, q3, q4, q5⟩ := hk3
  have hs3 : w.heap.size < v3.heap.size := by have := hgrow1.size; simp at this; omega
  clear hgrow1 hbel1
  go_wp2_with fail
  refine (digit_walk c 10 h0 h1 _).mono ?_
  rintro e w0 ⟨rfl, rfl⟩
  go_wp2_with fail
  refine (stMay_walk _ _ _ _ _ _ _).mono ?_
  rintro e w4 ⟨rfl, hb4⟩
  rw [hy]
  have B4 : Below w.heap.size w w4 := chain0 B3 hb4
  obtain ⟨hc4, hf4, hs4⟩ := after hb4
  try simp only [World.size_alloc] at hs4
  have l4 : w.heap.size < w4.heap.size := by omega
  have own4 := own1.kept (row := none) ⟨hb4.os, hb4.tape, hb4.output, hb4.size, fun i hi _ => hb4.block i hi⟩ (by simp [Value.ownBlock])
  clear own1 hb4 hs4
  go_wp2_with fail
  go_returns
  exact ⟨_, rfl, own4, B4⟩
set_option maxHeartbeats 2000000 in
set_option maxRecDepth 100000 in
theorem begin_both (a b : Int) (g : Bool) (d n v c : Int) (h0 : 0 ≤ c) (h1 : c < 256) (hd : decide (0 ≤ digV c 16) = true) (hk : decide (0 ≤ digV c 10) = true) (hm : moreP ⟨a, b, g, d, n, v⟩ = true) (hy : mayP ⟨a, b, g, d, n, v⟩ = true) (w : World) :
    Calls Tryd.prog 84 #[.agg #[.int .i64 a, .int .i64 b, .bool g, .int .i64 d, .int .i64 n, .int .i64 v], .int .u8 c] w (StRow w [⟨4, b, g, 1, n, v⟩, ⟨5, b, g, d, n, digV c 10⟩]) := by
  go_enter Tryd.func84, Tryd.ntmps84
  obtain ⟨i0, hi, hz0, hz1, hz2⟩ := st_info
  have HI := Lib.hid hi
  have HZ0 := Lib.hid hz0
  have HZ1 := Lib.hid hz1
  have HZ2 := Lib.hid hz2
  clear hi hz0 hz1 hz2
  go_wp2_with fail
  refine (digit_walk c 16 h0 h1 _).mono ?_
  rintro e w0 ⟨rfl, rfl⟩
  obtain ⟨s0, hs0⟩ : ∃ s0, s0 = Value.slice none 0 0 := ⟨_, rfl⟩
  rw [← hs0]
  have own0 : ∀ W : World, W.ownsRow w.heap.size 80 6 s0 0 [] := fun W => by rw [hs0]; exact own_nil _ _ _ _
  have O0 := Lib.hid own0
  have O1 : Hid (s0.ownBlock = none) := Lib.hid (by rw [hs0]; rfl)
  clear hs0 own0
  go_wp2_with fail
  refine (stMore_walk _ _ _ _ _ _ _).mono ?_
  rintro e w1 ⟨rfl, hb1⟩
  rw [hm]
  have B1 : Below w.heap.size w w1 := chain0 (by go_grown) hb1
  obtain ⟨hc1, hf1, hs1⟩ := after hb1
  try simp only [World.size_alloc] at hs1
  have l0 : w.heap.size < w1.heap.size := by omega
  clear hb1 hs1
  go_wp2_with (at_builtin; refine app_one rfl _ _ 81 rfl w.heap.size 80 i0 (.agg #[.int .i64 0, .int .i64 0, .bool false, .int .i64 0, .int .i64 0, .int .i64 0]) 6 48 Tryd.underlying81 HI.out HZ0.out HZ1.out HZ2.out rfl (by decide) s0 0 [] rfl (O0.out _) [.int .i64 4, .int .i64 b, .bool g, .int .i64 1, .int .i64 n, .int .i64 v] (by first | rfl | (simp only [World.size_alloc]; rfl)) rfl (by simp [Value.oneCell']) (by unfold maxLen; omega) (by omega) (by simp; omega) ?_; intro G1 cap1 v3 hG1 own1 hgrow1 hbel1)
  have B3 : Below w.heap.size w v3 := hbel1 _ _ (Nat.le_refl _) (B1.alloc (by omega) _)
  have hk3 : v3.cell? ⟨w.heap.size, 0, none⟩ = some (.int .i64 a) ∧ v3.cell? ⟨w.heap.size, 1, none⟩ = some (.int .i64 b) ∧ v3.cell? ⟨w.heap.size, 2, none⟩ = some (.bool g) ∧ v3.cell? ⟨w.heap.size, 3, none⟩ = some (.int .i64 d) ∧ v3.cell? ⟨w.heap.size, 4, none⟩ = some (.int .i64 n) ∧ v3.cell? ⟨w.heap.size, 5, none⟩ = some (.int .i64 v) := by
    have key : ∀ o, v3.cell? ⟨w.heap.size, o, none⟩ = w1.cell? ⟨w.heap.size, o, none⟩ := fun o => by
      have e := hgrow1.cell_far ⟨w.heap.size, o, none⟩ (by simp; omega) (by rw [O1.out]; simp)
      rw [e]
      go_simp
    exact ⟨(key 0).trans (by go_simp), (key 1).trans (by go_simp), (key 2).trans (by go_simp), (key 3).trans (by go_simp), (key 4).trans (by go_simp), (key 5).trans (by go_simp)⟩
  obtain ⟨q0, q1, q2, q3, q4, q5⟩ := hk3
  have hs3 : w.heap.size < v3.heap.size := by have := hgrow1.size; simp at this; omega
  clear hgrow1 hbel1
  go_wp2_with fail
  refine (digit_walk c 10 h0 h1 _).mono ?_
  rintro e w0 ⟨rfl, rfl⟩
  go_wp2_with fail
  refine (stMay_walk _ _ _ _ _ _ _).mono ?_
  rintro e w4 ⟨rfl, hb4⟩
  rw [hy]
  have B4 : Below w.heap.size w w4 := chain0 B3 hb4
  obtain ⟨hc4, hf4, hs4⟩ := after hb4
  try simp only [World.size_alloc] at hs4
  have l4 : w.heap.size < w4.heap.size := by omega
  have own4 := own1.kept (row := none) ⟨hb4.os, hb4.tape, hb4.output, hb4.size, fun i hi _ => hb4.block i hi⟩ (by simp [Value.ownBlock])
  clear own1 hb4 hs4
  have own5 : w4.ownsRow w.heap.size 80 6 (.slice (some ⟨G1, 0, none⟩) 1 cap1) 1 [.int .i64 4, .int .i64 b, .bool g, .int .i64 1, .int .i64 n, .int .i64 v] := own4
  clear own4
  go_wp2_with (at_builtin; refine app_one rfl _ _ 81 rfl w.heap.size 80 i0 (.agg #[.int .i64 0, .int .i64 0, .bool false, .int .i64 0, .int .i64 0, .int .i64 0]) 6 48 Tryd.underlying81 HI.out HZ0.out HZ1.out HZ2.out rfl (by decide) (.slice (some ⟨G1, 0, none⟩) 1 cap1) 1 _ rfl (own5.alloc _) [.int .i64 5, .int .i64 b, .bool g, .int .i64 d, .int .i64 n, .int .i64 (digV c 10)] (by first | rfl | (simp only [World.size_alloc]; rfl)) rfl (by simp [Value.oneCell']) (by unfold maxLen; omega) (by omega) (by simp; omega) ?_; intro G2 cap2 v5 hG2 own2 hgrow2 hbel2)
  go_returns
  exact ⟨_, rfl, own2, hbel2 _ _ (Nat.le_refl _) (B4.alloc (by omega) _)⟩
theorem begin_walk (x : St) (c : Int) (h0 : 0 ≤ c) (h1 : c < 256) (w : World) : Calls Tryd.prog 84 #[stV x, .int .u8 c] w (StRow w (beginP x c)) := by
  obtain ⟨a, b, g, d, n, v⟩ := x
  unfold beginP
  have e16 := digV16 c
  have e10 := digV10 c
  by_cases hd : 0 ≤ digV c 16
  · by_cases hm : moreP ⟨a, b, g, d, n, v⟩ = true
    · rw [if_pos ⟨hd, hm⟩]
      by_cases hk : 0 ≤ digV c 10
      · by_cases hy : mayP ⟨a, b, g, d, n, v⟩ = true
        · rw [if_pos ⟨hk, hy⟩]
          exact begin_both a b g d n v c h0 h1 (decide_eq_true hd) (decide_eq_true hk) hm hy w
        · rw [if_neg (fun q => hy q.2)]
          exact begin_one10 a b g d n v c h0 h1 (decide_eq_true hd) (decide_eq_true hk) hm (by simpa using hy) w
      · rw [if_neg (fun q => hk q.1)]
        exact begin_one a b g d n v c h0 h1 (decide_eq_true hd) (decide_eq_false hk) hm w
    · rw [if_neg (fun q => hm q.2)]
      have hm' : moreP ⟨a, b, g, d, n, v⟩ = false := by simpa using hm
      have hy : mayP ⟨a, b, g, d, n, v⟩ = false := by
        unfold moreP at hm'
        unfold mayP
        cases g
        · simp at hm' ⊢; omega
        · simp at hm' ⊢; omega
      rw [hy, if_neg (by simp)]
      by_cases hk : 0 ≤ digV c 10
      · exact begin_full10 a b g d n v c h0 h1 (decide_eq_true hd) (decide_eq_true hk) hm' hy w
      · exact begin_full a b g d n v c h0 h1 (decide_eq_true hd) (decide_eq_false hk) hm' w
  · have hk : ¬ 0 ≤ digV c 10 := by
      rw [e16] at hd
      rw [e10]
      split
      · rename_i q; rw [if_pos q] at hd; exact hd
      · omega
    rw [if_neg (fun q => hd q.1), if_neg (fun q => hk q.1)]
    exact begin_no a b g d n v c h0 h1 (decide_eq_false hd) (decide_eq_false hk) w
end Go.Proofs.YtcgdjnmfeibnoaaDoor
/-! SixNext2 -/
namespace Go.Proofs.YtcgdjnmfeibnoaaDoor
open Go.RowKit Go.Proofs.YtcgdjnmfeibnoaaDoorW.PrintWords Go.Proofs.YtcgdjnmfeibnoaaDoor.X
set_option linter.unusedVariables false
set_option linter.unusedSimpArgs false
theorem row_lit' {w W : World} {m : Nat} (x : St) (hm : m = W.heap.size) (hb : Below w.heap.size w W) : StRow w [x] (.returned (.slice (some ⟨m, 0, none⟩) 1 1)) (W.alloc (.cells #[.int .i64 x.wh, .int .i64 x.pc, .bool x.gap, .int .i64 x.dg, .int .i64 x.nu, .int .i64 x.va] 80)) := by
  subst hm
  exact row_lit x hb
theorem row_drew {w W : World} {l : List St} {e : Ending} (h : StRow w l e W) : StRow w l e W.drew := by
  obtain ⟨v, he, ho, hb⟩ := h
  exact ⟨v, he, ho.drew, ⟨hb.os, hb.tape, hb.output, hb.size, hb.block⟩⟩
theorem own_base {B B' : Nat} {W : World} {e : TypeId} {size : Nat} {v : Value} {n : Nat} {xs : List Value} (h : W.ownsRow B' e size v n xs) (hl : B ≤ B') : W.ownsRow B e size v n xs :=
  ⟨h.1, h.2.imp id (fun ⟨g, cap, cur, hv, hg, r⟩ => ⟨g, cap, cur, hv, Nat.le_trans hl hg, r⟩)⟩
set_option maxHeartbeats 2000000 in
set_option maxRecDepth 100000 in
theorem next_0c (p : Int) (g : Bool) (d n v : Int) (c : Int) (h0 : 0 ≤ c) (h1 : c < 256) (hc : c = 58) (w : World) :
    Calls Tryd.prog 42 #[.agg #[.int .i64 0, .int .i64 p, .bool g, .int .i64 d, .int .i64 n, .int .i64 v], .int .u8 c] w (StRow w [⟨1, p, g, d, n, v⟩]) := by
  go_enter Tryd.func42, Tryd.ntmps42
  subst hc
  go_wp2_with fail
  go_returns
  refine row_lit' ⟨1, p, g, d, n, v⟩ ?_ ?_
  · first | rfl | simp
  · go_grown
set_option maxHeartbeats 2000000 in
set_option maxRecDepth 100000 in
theorem next_0 (p : Int) (g : Bool) (d n v : Int) (c : Int) (h0 : 0 ≤ c) (h1 : c < 256) (hc : (c == 58) = false) (w : World) :
    Calls Tryd.prog 42 #[.agg #[.int .i64 0, .int .i64 p, .bool g, .int .i64 d, .int .i64 n, .int .i64 v], .int .u8 c] w (StRow w (beginP ⟨0, p, g, d, n, v⟩ c)) := by
  go_enter Tryd.func42, Tryd.ntmps42
  go_wp2_with fail
  refine (begin_walk ⟨0, p, g, d, n, v⟩ c h0 h1 _).mono ?_
  rintro e w1 ⟨z, rfl, ho, hb1⟩
  go_wp2_with fail
  go_returns
  exact ⟨_, rfl, own_base ho (by simp only [World.size_alloc]; omega), chain0 (by go_grown) hb1⟩
set_option maxHeartbeats 2000000 in
set_option maxRecDepth 100000 in
theorem next_1c (p : Int) (g : Bool) (d n v : Int) (c : Int) (h0 : 0 ≤ c) (h1 : c < 256) (hc : c = 58) (w : World) :
    Calls Tryd.prog 42 #[.agg #[.int .i64 1, .int .i64 p, .bool g, .int .i64 d, .int .i64 n, .int .i64 v], .int .u8 c] w (StRow w [⟨3, p, true, d, n, v⟩]) := by
  go_enter Tryd.func42, Tryd.ntmps42
  subst hc
  go_wp2_with fail
  go_returns
  refine row_lit' ⟨3, p, true, d, n, v⟩ ?_ ?_
  · first | rfl | simp
  · go_grown
set_option maxHeartbeats 2000000 in
set_option maxRecDepth 100000 in
theorem next_1 (p : Int) (g : Bool) (d n v : Int) (c : Int) (h0 : 0 ≤ c) (h1 : c < 256) (hc : (c == 58) = false) (w : World) :
    Calls Tryd.prog 42 #[.agg #[.int .i64 1, .int .i64 p, .bool g, .int .i64 d, .int .i64 n, .int .i64 v], .int .u8 c] w (StRow w []) := by
  go_enter Tryd.func42, Tryd.ntmps42
  go_wp2_with fail
  go_quiet (fail)
  go_wp2_with fail
  go_returns
  refine row_nil ?_
  exact bdn (by go_grown) _
set_option maxHeartbeats 2000000 in
set_option maxRecDepth 100000 in
theorem next_2c (p d n v : Int) (c : Int) (h0 : 0 ≤ c) (h1 : c < 256) (hc : c = 58) (w : World) :
    Calls Tryd.prog 42 #[.agg #[.int .i64 2, .int .i64 p, .bool false, .int .i64 d, .int .i64 n, .int .i64 v], .int .u8 c] w (StRow w [⟨3, p, true, d, n, v⟩]) := by
  go_enter Tryd.func42, Tryd.ntmps42
  subst hc
  go_wp2_with fail
  go_returns
  refine row_lit' ⟨3, p, true, d, n, v⟩ ?_ ?_
  · first | rfl | simp
  · go_grown
set_option maxHeartbeats 2000000 in
set_option maxRecDepth 100000 in
theorem next_2g (p d n v : Int) (c : Int) (h0 : 0 ≤ c) (h1 : c < 256) (w : World) :
    Calls Tryd.prog 42 #[.agg #[.int .i64 2, .int .i64 p, .bool true, .int .i64 d, .int .i64 n, .int .i64 v], .int .u8 c] w (StRow w (beginP ⟨2, p, true, d, n, v⟩ c)) := by
  go_enter Tryd.func42, Tryd.ntmps42
  go_wp2_with fail
  refine (begin_walk ⟨2, p, true, d, n, v⟩ c h0 h1 _).mono ?_
  rintro e w1 ⟨z, rfl, ho, hb1⟩
  go_wp2_with fail
  go_returns
  exact ⟨_, rfl, own_base ho (by simp only [World.size_alloc]; omega), chain0 (by go_grown) hb1⟩
set_option maxHeartbeats 2000000 in
set_option maxRecDepth 100000 in
theorem next_2 (p : Int) (g : Bool) (d n v : Int) (c : Int) (h0 : 0 ≤ c) (h1 : c < 256) (hc : (c == 58) = false) (w : World) :
    Calls Tryd.prog 42 #[.agg #[.int .i64 2, .int .i64 p, .bool g, .int .i64 d, .int .i64 n, .int .i64 v], .int .u8 c] w (StRow w (beginP ⟨2, p, g, d, n, v⟩ c)) := by
  go_enter Tryd.func42, Tryd.ntmps42
  cases g
  all_goals
    go_wp2_with fail
    refine (begin_walk ⟨2, p, _, d, n, v⟩ c h0 h1 _).mono ?_
    rintro e w1 ⟨z, rfl, ho, hb1⟩
    go_wp2_with fail
    go_returns
    exact ⟨_, rfl, own_base ho (by simp only [World.size_alloc]; omega), chain0 (by go_grown) hb1⟩
set_option maxHeartbeats 2000000 in
set_option maxRecDepth 100000 in
theorem next_3 (p : Int) (g : Bool) (d n v : Int) (c : Int) (h0 : 0 ≤ c) (h1 : c < 256) (w : World) :
    Calls Tryd.prog 42 #[.agg #[.int .i64 3, .int .i64 p, .bool g, .int .i64 d, .int .i64 n, .int .i64 v], .int .u8 c] w (StRow w (beginP ⟨3, p, g, d, n, v⟩ c)) := by
  go_enter Tryd.func42, Tryd.ntmps42
  go_wp2_with fail
  refine (begin_walk ⟨3, p, g, d, n, v⟩ c h0 h1 _).mono ?_
  rintro e w1 ⟨z, rfl, ho, hb1⟩
  go_wp2_with fail
  go_returns
  exact ⟨_, rfl, own_base ho (by simp only [World.size_alloc]; omega), chain0 (by go_grown) hb1⟩
set_option maxHeartbeats 2000000 in
set_option maxRecDepth 100000 in
theorem next_4c (p : Int) (g : Bool) (d n v : Int) (c : Int) (h0 : 0 ≤ c) (h1 : c < 256) (p0 : 0 ≤ p) (p1 : p ≤ 100) (hm : moreP ⟨2, p + 1, g, d, n, v⟩ = true) (hc : c = 58) (w : World) :
    Calls Tryd.prog 42 #[.agg #[.int .i64 4, .int .i64 p, .bool g, .int .i64 d, .int .i64 n, .int .i64 v], .int .u8 c] w (StRow w [⟨2, p + 1, g, d, n, v⟩]) := by
  go_enter Tryd.func42, Tryd.ntmps42
  subst hc
  go_upto_region 11 with fail
  go_region
  go_wp2_with fail
  refine (stMore_walk _ _ _ _ _ _ _).mono ?_
  rintro e w1 ⟨rfl, hb1⟩
  rw [hm]
  have B1 : Below w.heap.size w w1 := chain0 (by go_grown) hb1
  obtain ⟨hc1, hf1, hs1⟩ := after hb1
  try simp at hs1
  have l0 : w.heap.size < w1.heap.size := by omega
  have l1 : w.heap.size + 1 < w1.heap.size := by omega
  clear hb1 hs1
  go_wp2_with fail
  go_returns
  exact row_lit' ⟨2, p + 1, g, d, n, v⟩ rfl B1
set_option maxHeartbeats 2000000 in
set_option maxRecDepth 100000 in
theorem next_4cn (p : Int) (g : Bool) (d n v : Int) (c : Int) (h0 : 0 ≤ c) (h1 : c < 256) (p0 : 0 ≤ p) (p1 : p ≤ 100) (hm : moreP ⟨2, p + 1, g, d, n, v⟩ = false) (hc : c = 58) (w : World) :
    Calls Tryd.prog 42 #[.agg #[.int .i64 4, .int .i64 p, .bool g, .int .i64 d, .int .i64 n, .int .i64 v], .int .u8 c] w (StRow w []) := by
  go_enter Tryd.func42, Tryd.ntmps42
  subst hc
  go_upto_region 11 with fail
  go_region
  go_wp2_with fail
  refine (stMore_walk _ _ _ _ _ _ _).mono ?_
  rintro e w1 ⟨rfl, hb1⟩
  rw [hm]
  have B1 : Below w.heap.size w w1 := chain0 (by go_grown) hb1
  obtain ⟨hc1, hf1, hs1⟩ := after hb1
  try simp at hs1
  have l0 : w.heap.size < w1.heap.size := by omega
  have l1 : w.heap.size + 1 < w1.heap.size := by omega
  clear hb1 hs1
  go_wp2_with fail
  go_returns
  exact row_nil B1
set_option maxHeartbeats 2000000 in
set_option maxRecDepth 100000 in
theorem next_4d (p : Int) (g : Bool) (d n v : Int) (c : Int) (h0 : 0 ≤ c) (h1 : c < 256) (d0 : 0 ≤ d) (d1 : d < 4) (hd : decide (0 ≤ digV c 16) = true) (hc : (c == 58) = false) (w : World) :
    Calls Tryd.prog 42 #[.agg #[.int .i64 4, .int .i64 p, .bool g, .int .i64 d, .int .i64 n, .int .i64 v], .int .u8 c] w (StRow w [⟨4, p, g, d + 1, n, v⟩]) := by
  go_enter Tryd.func42, Tryd.ntmps42
  go_wp2_with fail
  refine (digit_walk c 16 h0 h1 _).mono ?_
  rintro e w0 ⟨rfl, rfl⟩
  go_wp2_with fail
  go_returns
  refine row_lit' ⟨4, p, g, d + 1, n, v⟩ ?_ ?_
  · first | rfl | simp
  · go_grown
set_option maxHeartbeats 2000000 in
set_option maxRecDepth 100000 in
theorem next_4n (p : Int) (g : Bool) (d n v : Int) (c : Int) (h0 : 0 ≤ c) (h1 : c < 256) (d1 : 4 ≤ d) (hd : decide (0 ≤ digV c 16) = true) (hc : (c == 58) = false) (w : World) :
    Calls Tryd.prog 42 #[.agg #[.int .i64 4, .int .i64 p, .bool g, .int .i64 d, .int .i64 n, .int .i64 v], .int .u8 c] w (StRow w []) := by
  go_enter Tryd.func42, Tryd.ntmps42
  go_wp2_with fail
  refine (digit_walk c 16 h0 h1 _).mono ?_
  rintro e w0 ⟨rfl, rfl⟩
  go_wp2_with fail
  go_quiet (fail)
  go_wp2_with fail
  go_returns
  refine row_nil ?_
  exact bdn (by go_grown) _
set_option maxHeartbeats 2000000 in
set_option maxRecDepth 100000 in
theorem next_4z (p : Int) (g : Bool) (d n v : Int) (c : Int) (h0 : 0 ≤ c) (h1 : c < 256) (hd : decide (0 ≤ digV c 16) = false) (hc : (c == 58) = false) (w : World) :
    Calls Tryd.prog 42 #[.agg #[.int .i64 4, .int .i64 p, .bool g, .int .i64 d, .int .i64 n, .int .i64 v], .int .u8 c] w (StRow w []) := by
  go_enter Tryd.func42, Tryd.ntmps42
  go_wp2_with fail
  refine (digit_walk c 16 h0 h1 _).mono ?_
  rintro e w0 ⟨rfl, rfl⟩
  go_wp2_with fail
  go_quiet (fail)
  go_wp2_with fail
  go_returns
  refine row_nil ?_
  exact bdn (by go_grown) _
set_option maxHeartbeats 2000000 in
set_option maxRecDepth 100000 in
theorem next_5s (p : Int) (g : Bool) (d n v : Int) (c : Int) (h0 : 0 ≤ c) (h1 : c < 256) (n0 : 0 ≤ n) (n1 : n < 3) (hc : c = 46) (w : World) :
    Calls Tryd.prog 42 #[.agg #[.int .i64 5, .int .i64 p, .bool g, .int .i64 d, .int .i64 n, .int .i64 v], .int .u8 c] w (StRow w [⟨6, p, g, d, n + 1, v⟩]) := by
  go_enter Tryd.func42, Tryd.ntmps42
  subst hc
  go_upto_region 18 with fail
  go_region
  go_wp2_with fail
  go_returns
  refine row_drew ?_
  refine row_lit' ⟨6, p, g, d, n + 1, v⟩ ?_ ?_
  · first | rfl | simp
  · go_grown
set_option maxHeartbeats 2000000 in
set_option maxRecDepth 100000 in
theorem next_5n (p : Int) (g : Bool) (d n v : Int) (c : Int) (h0 : 0 ≤ c) (h1 : c < 256) (n0 : 3 ≤ n) (hc : c = 46) (w : World) :
    Calls Tryd.prog 42 #[.agg #[.int .i64 5, .int .i64 p, .bool g, .int .i64 d, .int .i64 n, .int .i64 v], .int .u8 c] w (StRow w []) := by
  go_enter Tryd.func42, Tryd.ntmps42
  subst hc
  have hd : digV 46 10 = -1 := by rw [digV10]; decide
  go_wp2_with fail
  go_quiet (exact Calls.quiet_of_same ((digit_walk 46 10 h0 h1 _).mono fun e w' q => ⟨q.1.trans (by rw [hd]), q.2.symm⟩))
  go_wp2_with fail
  go_returns
  refine row_nil ?_
  exact bdn (by go_grown) _
set_option maxHeartbeats 2000000 in
set_option maxRecDepth 100000 in
theorem next_5z (p : Int) (g : Bool) (d n v : Int) (c : Int) (h0 : 0 ≤ c) (h1 : c < 256) (hs : (c == 46) = false) (hd : decide (0 ≤ digV c 10) = false) (w : World) :
    Calls Tryd.prog 42 #[.agg #[.int .i64 5, .int .i64 p, .bool g, .int .i64 d, .int .i64 n, .int .i64 v], .int .u8 c] w (StRow w []) := by
  go_enter Tryd.func42, Tryd.ntmps42
  go_wp2_with fail
  go_quiet ((exact Calls.quiet_of_same ((digit_walk c 10 h0 h1 _).mono fun e w' q => ⟨q.1, q.2.symm⟩)))
  go_wp2_with fail
  go_returns
  refine row_nil ?_
  exact bdn (by go_grown) _
set_option maxHeartbeats 2000000 in
set_option maxRecDepth 100000 in
theorem next_5v (p : Int) (g : Bool) (d n v : Int) (c : Int) (h0 : 0 ≤ c) (h1 : c < 256) (hs : (c == 46) = false) (hd : decide (0 ≤ digV c 10) = true) (hv : decide (0 < v) = false) (w : World) :
    Calls Tryd.prog 42 #[.agg #[.int .i64 5, .int .i64 p, .bool g, .int .i64 d, .int .i64 n, .int .i64 v], .int .u8 c] w (StRow w []) := by
  go_enter Tryd.func42, Tryd.ntmps42
  go_wp2_with fail
  go_quiet ((exact Calls.quiet_of_same ((digit_walk c 10 h0 h1 _).mono fun e w' q => ⟨q.1, q.2.symm⟩)))
  go_wp2_with fail
  go_returns
  refine row_nil ?_
  exact bdn (by go_grown) _
set_option maxHeartbeats 2000000 in
set_option maxRecDepth 100000 in
theorem next_5m (p : Int) (g : Bool) (d n v : Int) (c : Int) (h0 : 0 ≤ c) (h1 : c < 256) (hs : (c == 46) = false) (hd : decide (0 ≤ digV c 10) = true) (hv : decide (0 < v) = true) (hv0 : 0 ≤ v) (hdd : 0 ≤ digV c 10) (v1 : v ≤ 1000) (hd1 : digV c 10 ≤ 9) (hm : decide (10 * v + digV c 10 ≤ 255) = false) (w : World) :
    Calls Tryd.prog 42 #[.agg #[.int .i64 5, .int .i64 p, .bool g, .int .i64 d, .int .i64 n, .int .i64 v], .int .u8 c] w (StRow w []) := by
  go_enter Tryd.func42, Tryd.ntmps42
  have w0_ : IntKind.i64.wrap (10 * v) = 10 * v := IntWalk.i64_in _ (by omega)
  have w1_ : IntKind.i64.wrap (10 * v + digV c 10) = 10 * v + digV c 10 := IntWalk.i64_in _ (by omega)
  go_wp2_with fail
  go_quiet ((exact Calls.quiet_of_same ((digit_walk c 10 h0 h1 _).mono fun e w' q => ⟨q.1, q.2.symm⟩)))
  go_wp2_with fail
  go_returns
  refine row_nil ?_
  exact bdn (by go_grown) _
set_option maxHeartbeats 2000000 in
set_option maxRecDepth 100000 in
theorem next_5d (p : Int) (g : Bool) (d n v : Int) (c : Int) (h0 : 0 ≤ c) (h1 : c < 256) (hs : (c == 46) = false) (hd : decide (0 ≤ digV c 10) = true) (hv : decide (0 < v) = true) (hv0 : 0 ≤ v) (hdd : 0 ≤ digV c 10) (v1 : v ≤ 1000) (hd1 : digV c 10 ≤ 9) (hm : decide (10 * v + digV c 10 ≤ 255) = true) (w : World) :
    Calls Tryd.prog 42 #[.agg #[.int .i64 5, .int .i64 p, .bool g, .int .i64 d, .int .i64 n, .int .i64 v], .int .u8 c] w (StRow w [⟨5, p, g, d, n, 10 * v + digV c 10⟩]) := by
  go_enter Tryd.func42, Tryd.ntmps42
  have w0_ : IntKind.i64.wrap (10 * v) = 10 * v := IntWalk.i64_in _ (by omega)
  have w1_ : IntKind.i64.wrap (10 * v + digV c 10) = 10 * v + digV c 10 := IntWalk.i64_in _ (by omega)
  go_wp2_with fail
  go_quiet ((exact Calls.quiet_of_same ((digit_walk c 10 h0 h1 _).mono fun e w' q => ⟨q.1, q.2.symm⟩)))
  go_wp2_with fail
  refine wp_region_ext_tail 7 (by kernel_rfl) (by kernel_rfl) ?_
  dsimp only [List.take, List.drop]
  repeat (go_big_quiet_step (first | (with_reducible exact ext_of_same (digit_walk c 10 h0 h1 _))))
  refine wpQuiet_nil ?_
  rintro w2 ⟨⟨W2, hb2⟩, hw2⟩
  obtain rfl : W2 = w2 := hw2.symm
  have B2 : Below w.heap.size w W2 := chain0 (bdn (by go_grown) _) hb2
  obtain ⟨hc2, hf2, hs2⟩ := after hb2
  try simp at hs2
  have l0 : w.heap.size < W2.heap.size := by omega
  have l1 : w.heap.size + 1 < W2.heap.size := by omega
  clear hs2
  go_wp2_with fail
  go_returns
  exact row_lit' ⟨5, p, g, d, n, 10 * v + digV c 10⟩ (by simp) (B2.setCell (by simp) _)
set_option maxHeartbeats 2000000 in
set_option maxRecDepth 100000 in
theorem next_6d (p : Int) (g : Bool) (d n v : Int) (c : Int) (h0 : 0 ≤ c) (h1 : c < 256) (hd : decide (0 ≤ digV c 10) = true) (w : World) :
    Calls Tryd.prog 42 #[.agg #[.int .i64 6, .int .i64 p, .bool g, .int .i64 d, .int .i64 n, .int .i64 v], .int .u8 c] w (StRow w [⟨5, p, g, d, n, digV c 10⟩]) := by
  go_enter Tryd.func42, Tryd.ntmps42
  go_wp2_with fail
  refine (digit_walk c 10 h0 h1 _).mono ?_
  rintro e w0 ⟨rfl, rfl⟩
  go_wp2_with fail
  refine (digit_walk c 10 h0 h1 _).mono ?_
  rintro e w0 ⟨rfl, rfl⟩
  go_wp2_with fail
  go_returns
  refine row_lit' ⟨5, p, g, d, n, digV c 10⟩ ?_ ?_
  · first | rfl | simp
  · go_grown
set_option maxHeartbeats 2000000 in
set_option maxRecDepth 100000 in
theorem next_6 (p : Int) (g : Bool) (d n v : Int) (c : Int) (h0 : 0 ≤ c) (h1 : c < 256) (hd : decide (0 ≤ digV c 10) = false) (w : World) :
    Calls Tryd.prog 42 #[.agg #[.int .i64 6, .int .i64 p, .bool g, .int .i64 d, .int .i64 n, .int .i64 v], .int .u8 c] w (StRow w []) := by
  go_enter Tryd.func42, Tryd.ntmps42
  go_wp2_with fail
  refine (digit_walk c 10 h0 h1 _).mono ?_
  rintro e w0 ⟨rfl, rfl⟩
  go_wp2_with fail
  go_quiet (fail)
  go_wp2_with fail
  go_returns
  refine row_nil ?_
  exact bdn (by go_grown) _
theorem next_walk (x : St) (hw0 : 0 ≤ x.wh) (hw6 : x.wh ≤ 6) (hp0 : 0 ≤ x.pc) (hp1 : x.pc ≤ 100) (hd0 : 0 ≤ x.dg) (hn0 : 0 ≤ x.nu) (hv0 : 0 ≤ x.va) (hv1 : x.va ≤ 1000) (c : Int) (h0 : 0 ≤ c) (h1 : c < 256) (w : World) :
    Calls Tryd.prog 42 #[stV x, .int .u8 c] w (StRow w (nextP x c)) := by
  obtain ⟨wh, p, g, d, n, v⟩ := x
  simp only at hw0 hw6 hp0 hp1 hd0 hn0 hv0 hv1
  have e10 := digV10 c
  have e16 := digV16 c
  have hw : wh = 0 ∨ wh = 1 ∨ wh = 2 ∨ wh = 3 ∨ wh = 4 ∨ wh = 5 ∨ wh = 6 := by omega
  unfold nextP
  dsimp only
  by_cases hc : c = 58
  · have hd16 : ¬ 0 ≤ digV c 16 := by rw [e16, hc]; decide
    have hd10 : ¬ 0 ≤ digV c 10 := by rw [e10, hc]; decide
    rcases hw with rfl | rfl | rfl | rfl | rfl | rfl | rfl
    · simp only [hc, and_self, if_true]
      subst hc
      exact next_0c p g d n v 58 h0 h1 rfl w
    · simp only [hc]
      subst hc
      exact next_1c p g d n v 58 h0 h1 rfl w
    · cases g
      · simp only [hc]
        subst hc
        exact next_2c p d n v 58 h0 h1 rfl w
      · exact next_2g p d n v c h0 h1 w
    · exact next_3 p g d n v c h0 h1 w
    · rw [if_neg (by simp), if_neg (by simp), if_neg (by simp), if_pos ⟨rfl, hc⟩]
      by_cases hm : moreP ⟨2, p + 1, g, d, n, v⟩ = true
      · rw [if_pos hm]
        exact next_4c p g d n v c h0 h1 hp0 hp1 hm hc w
      · rw [if_neg hm]
        exact next_4cn p g d n v c h0 h1 hp0 hp1 (by simpa using hm) hc w
    · rw [if_neg (by simp), if_neg (by simp), if_neg (by simp), if_neg (by simp), if_neg (by simp), if_neg (by omega), if_neg (by simp), if_neg (by omega)]
      exact next_5z p g d n v c h0 h1 (by rw [hc]; rfl) (decide_eq_false hd10) w
    · rw [if_neg (by simp), if_neg (by simp), if_neg (by simp), if_neg (by simp), if_neg (by simp), if_neg (by simp), if_neg (by omega), if_neg (by simp)]
      exact next_6 p g d n v c h0 h1 (decide_eq_false hd10) w
  · have hb : (c == 58) = false := beq_eq_false_iff_ne.2 hc
    rcases hw with rfl | rfl | rfl | rfl | rfl | rfl | rfl
    · rw [if_neg (by omega), if_neg (by omega), if_pos (by omega)]
      exact next_0 p g d n v c h0 h1 hb w
    · rw [if_neg (by omega), if_neg (by omega), if_neg (by omega), if_neg (by omega), if_neg (by omega), if_neg (by omega), if_neg (by omega), if_neg (by omega)]
      exact next_1 p g d n v c h0 h1 hb w
    · rw [if_neg (by omega), if_neg (by omega), if_pos (by omega)]
      exact next_2 p g d n v c h0 h1 hb w
    · rw [if_neg (by omega), if_neg (by omega), if_pos (by omega)]
      exact next_3 p g d n v c h0 h1 w
    · rw [if_neg (by omega), if_neg (by omega), if_neg (by omega), if_neg (by omega)]
      by_cases hd : 0 ≤ digV c 16
      · by_cases h4 : d < 4
        · rw [if_pos ⟨rfl, hd, h4⟩]
          exact next_4d p g d n v c h0 h1 hd0 h4 (decide_eq_true hd) hb w
        · rw [if_neg (by omega), if_neg (by omega), if_neg (by omega), if_neg (by omega)]
          exact next_4n p g d n v c h0 h1 (by omega) (decide_eq_true hd) hb w
      · rw [if_neg (by omega), if_neg (by omega), if_neg (by omega), if_neg (by omega)]
        exact next_4z p g d n v c h0 h1 (decide_eq_false hd) hb w
    · rw [if_neg (by omega), if_neg (by omega), if_neg (by omega), if_neg (by omega), if_neg (by omega)]
      by_cases hs : c = 46
      · by_cases hn : n < 3
        · rw [if_pos ⟨rfl, hs, hn⟩]
          exact next_5s p g d n v c h0 h1 hn0 hn hs w
        · have hd10 : ¬ 0 ≤ digV c 10 := by rw [e10, hs]; decide
          rw [if_neg (by omega), if_neg (by omega), if_neg (by omega)]
          exact next_5n p g d n v c h0 h1 (by omega) hs w
      · have hsb : (c == 46) = false := beq_eq_false_iff_ne.2 hs
        rw [if_neg (by omega), if_neg (by omega)]
        by_cases hd : 0 ≤ digV c 10
        · have hd9 : digV c 10 ≤ 9 := by
            rw [e10]
            split <;> omega
          by_cases hv : 0 < v
          · by_cases hm : 10 * v + digV c 10 ≤ 255
            · rw [if_pos ⟨rfl, hd, hv, hm⟩]
              exact next_5d p g d n v c h0 h1 hsb (decide_eq_true hd) (decide_eq_true hv) hv0 hd hv1 hd9 (decide_eq_true hm) w
            · rw [if_neg (by omega)]
              exact next_5m p g d n v c h0 h1 hsb (decide_eq_true hd) (decide_eq_true hv) hv0 hd hv1 hd9 (decide_eq_false hm) w
          · rw [if_neg (by omega)]
            exact next_5v p g d n v c h0 h1 hsb (decide_eq_true hd) (decide_eq_false hv) w
        · rw [if_neg (by omega)]
          exact next_5z p g d n v c h0 h1 hsb (decide_eq_false hd) w
    · rw [if_neg (by omega), if_neg (by omega), if_neg (by omega), if_neg (by omega), if_neg (by omega), if_neg (by omega)]
      by_cases hd : 0 ≤ digV c 10
      · rw [if_pos ⟨rfl, hd⟩]
        exact next_6d p g d n v c h0 h1 (decide_eq_true hd) w
      · rw [if_neg (by omega), if_neg (by omega)]
        exact next_6 p g d n v c h0 h1 (decide_eq_false hd) w
set_option maxHeartbeats 1000000 in
set_option maxRecDepth 100000 in
theorem ends_walk (x : St) (w : World) :
    Calls Tryd.prog 44 #[stV x] w fun e w' => e = .returned (.bool (endsP x)) ∧ Below w.heap.size w w' := by
  obtain ⟨wh, p, g, d, n, v⟩ := x
  unfold endsP
  simp only
  by_cases h3 : wh = 3
  · subst h3
    go_enter Tryd.func44, Tryd.ntmps44
    go_wp2
    go_returns
    exact ⟨rfl, by go_grown⟩
  · have b3 : (wh == 3) = false := beq_eq_false_iff_ne.2 h3
    rw [if_neg h3]
    by_cases h4 : wh = 4
    · subst h4
      rw [if_pos rfl]
      cases g
      all_goals
        go_enter Tryd.func44, Tryd.ntmps44
        go_wp2
        go_returns
        exact ⟨by first | rfl | simp, by go_grown⟩
    · have b4 : (wh == 4) = false := beq_eq_false_iff_ne.2 h4
      rw [if_neg h4]
      by_cases h5 : wh = 5
      · subst h5
        rw [if_pos rfl]
        go_enter Tryd.func44, Tryd.ntmps44
        go_wp2
        go_returns
        exact ⟨by first | rfl | simp, by go_grown⟩
      · have b5 : (wh == 5) = false := beq_eq_false_iff_ne.2 h5
        rw [if_neg h5]
        go_enter Tryd.func44, Tryd.ntmps44
        go_wp2
        go_returns
        exact ⟨rfl, by go_grown⟩
end Go.Proofs.YtcgdjnmfeibnoaaDoor
/-! SixAny -/
namespace Go.Proofs.YtcgdjnmfeibnoaaDoor
open Go.RowKit Go.Proofs.YtcgdjnmfeibnoaaDoorW.PrintWords
set_option linter.unusedVariables false
set_option linter.unusedSimpArgs false
theorem eg_ends : ∀ args w, (callFunc 44 args).run Tryd.prog w = .ok (.enter 44 args) w := enters_of Tryd.func44 (by kernel_rfl) rfl
instance : Inhabited St := ⟨⟨0, 0, false, 0, 0, 0⟩⟩
theorem st_index (b off c : Nat) (zs : List St) (w : World) (hbig : zs.length ≤ 9223372036854775807) (hb : b < w.heap.size) (hc : ∀ j, j < zs.length → ∀ i v, (stC zs[j]!)[i]? = some v → w.cell? ⟨b, off + j * 6 + i, none⟩ = some v) :
    Calls Tryd.prog 87 #[.slice (some ⟨b, off, none⟩) zs.length c, .func (.func 44) #[] #[]] w fun e w' => e = .returned (.int .i64 (Lib.idxBy (fun _ y => endsP y) zs default)) ∧ Below w.heap.size w w' := by
  have h := AnyQ.slices_IndexFunc Tryd.stIndex 6 Tryd.isAgg80 Tryd.sizeOf80 stC (fun _ => rfl) endsP 44 #[] eg_ends b off zs.length c zs w (fun W x hB => (ends_walk x W).mono fun _ _ ⟨he, hw⟩ => ⟨he, below_step hB hw⟩) (Nat.le_refl _) hbig hb hc
  rw [List.take_length] at h
  exact h
end Go.Proofs.YtcgdjnmfeibnoaaDoor
/-! SixRow -/
namespace Go.Proofs.YtcgdjnmfeibnoaaDoor
open Go.RowKit Go.Proofs.YtcgdjnmfeibnoaaDoorW.PrintWords
set_option linter.unusedVariables false
set_option linter.unusedSimpArgs false
/-- The same as one step of a region that draws its order. -/
theorem step_app_row {P : Program} {w : World} {ops : Array Oper} {o : Oper} {a : Act} {K : Act → World → Prop} {Q : Exit → Act → World → Prop} {E : Prop} (hgd : o.guard = none) (s x : Operand) (t : TypeId)
    (ho : o.op = .call { callee := .builtin .append, args := #[s, x], argTypes := #[t, t] })
    (base : Nat) (e : TypeId) (i : TypeInfo) (z : Value) (size bytes : Nat) (ht : P.underlying t = some (.slice e)) (hi : P.info? e = some i) (hz : i.zero = some z)
    (hsize : i.size = size) (hby : i.bytes = bytes) (hzs : z.cells.size = size) (hsz : 0 < size)
    (v : Value) (n : Nat) (xs : List Value) (hs : a.eval s = v) (hown : w.ownsRow base e size v n xs)
    (u : Value) (B m : Nat) (news : List Value) (hx : a.eval x = u) (hu : w.ownsRow B e size u m news) (h1 : ∀ q ∈ news, q.oneCell' = true)
    (h63 : n + m ≤ maxLen) (hbytes : (n + m) * bytes ≤ 140737488355328) (hbase : base ≤ w.heap.size)
    (h : ∀ v' w', w'.ownsRow base e size v' (n + m) (xs ++ news) → (∀ B w0, B ≤ base → Below B w0 w → Below B w0 w') → w.grownBy w' v.ownBlock → K (a.put o.dst v') w') :
    if Region.wanted o (yielded ops a.tmps) = true then Oper.wp P o a w K Q else E := by
  have hw : Region.wanted o (yielded ops a.tmps) = true := by simp [Region.wanted, hgd]
  rw [if_pos hw]
  obtain ⟨hl, hu'⟩ := hu
  rcases hu' with ⟨rfl, h0⟩ | ⟨g, cap, cur, rfl, hg, hr⟩
  · subst h0
    obtain rfl : news = [] := List.eq_nil_of_length_eq_zero (by rw [hl]; simp)
    have hrun := run_append_owned_none (P := P) (w := w) base t o.type e i size ht hi v n xs hown
    unfold Oper.wp
    simp [execOp, ho, resolve, invoke, builtin, hs, hx, hrun, Result.andThen]
    exact h v w (by simpa using hown) (fun _ _ _ hb => hb) (World.grownBy.refl w _)
  · have hu2 : w.ownsRow B e size (.slice (some ⟨g, 0, none⟩) m cap) m news := ⟨hl, .inr ⟨g, cap, cur, rfl, hg, hr⟩⟩
    refine wp_append_own w s x t ho base e i z size bytes ht hi hz hsize hby hzs hsz v n xs hs hown ⟨g, 0, none⟩ m cap news hx hl (hu2.cells (by simp [Value.ownBlock])) h1 h63 hbytes hbase ?_
    intro v' w' hown' hgrow _
    exact h v' w' hown' (fun B w0 hb hw => hw.grown hgrow (by omega) (fun k hk => Nat.le_trans hb (hown.lt k hk).1)) hgrow
theorem own_belowS {W W' : World} {base size n : Nat} {e : TypeId} {v : Value} {xs : List Value} (h : W.ownsRow base e size v n xs) (hb : Below W.heap.size W W') : W'.ownsRow base e size v n xs :=
  h.kept (row := none) ⟨hb.os, hb.tape, hb.output, hb.size, fun k hk _ => hb.block k hk⟩ (by cases hv : v.ownBlock <;> simp)
theorem own_slice {w : World} {base : Nat} {e : TypeId} {size n : Nat} {v : Value} {xs : List Value} (h : w.ownsRow base e size v n xs) : ∃ A c, v = .slice A n c := by
  rcases h.2 with ⟨rfl, rfl⟩ | ⟨g, cap, cur, rfl, _⟩
  · exact ⟨_, _, rfl⟩
  · exact ⟨_, _, rfl⟩
theorem stCs_get : ∀ (l : List St) (j i : Nat) (hj : j < l.length), i < 6 → (stCs l)[j * 6 + i]? = (stC l[j])[i]?
  | x :: l, 0, i, _, hi => by
    show (stC x ++ stCs l)[0 * 6 + i]? = _
    rw [List.getElem?_append_left (by simp [stC]; omega)]
    simp
  | x :: l, j + 1, i, hj, hi => by
    show (stC x ++ stCs l)[(j + 1) * 6 + i]? = _
    rw [List.getElem?_append_right (by simp [stC]; omega), show (j + 1) * 6 + i - (stC x).length = j * 6 + i by simp [stC]; omega]
    exact stCs_get l j i (by simpa using hj) hi
theorem stCs_one (l : List St) : ∀ q ∈ stCs l, q.oneCell' = true := by
  intro q hq
  obtain ⟨x, _, hx⟩ := List.mem_flatMap.1 hq
  simp only [stC, List.mem_cons, List.not_mem_nil, or_false] at hx
  rcases hx with rfl | rfl | rfl | rfl | rfl | rfl <;> rfl
theorem stCs_app (a b : List St) : stCs (a ++ b) = stCs a ++ stCs b := by unfold stCs; rw [List.flatMap_append]
theorem own_state {W : World} {B g cap : Nat} {l : List St} (h : W.ownsRow B 80 6 (.slice (some ⟨g, 0, none⟩) l.length cap) l.length (stCs l)) (j : Nat) (hj : j < l.length) (i : Nat) (v : Value) (hv : (stC l[j])[i]? = some v) : W.cell? ⟨g, j * 6 + i, none⟩ = some v := by
  have hi : i < 6 := by
    have := (List.getElem?_eq_some_iff.1 hv).1
    simpa [stC] using this
  rw [h.cellAt (j * 6 + i) (by omega), stCs_get l j i hj hi]
  exact hv
theorem own_head {W : World} {B : Nat} {v : Value} {l : List St} (h : W.ownsRow B 80 6 v l.length (stCs l)) (hn : l ≠ []) : ∃ g cap, v = .slice (some ⟨g, 0, none⟩) l.length cap ∧ B ≤ g ∧ g < W.heap.size := by
  rcases h.2 with ⟨_, h0⟩ | ⟨g, cap, cur, rfl, hg, hr⟩
  · exact absurd (List.eq_nil_of_length_eq_zero h0) hn
  · exact ⟨g, cap, rfl, (h.lt g (by simp [Value.ownBlock])).1, (h.lt g (by simp [Value.ownBlock])).2⟩
set_option maxHeartbeats 1000000 in
set_option maxRecDepth 100000 in
theorem any_walk (g c B : Nat) (l : List St) (w : World) (hn : l ≠ []) (hl : l.length ≤ 9223372036854775807) (h : w.ownsRow B 80 6 (.slice (some ⟨g, 0, none⟩) l.length c) l.length (stCs l)) :
    Calls Tryd.prog 43 #[.slice (some ⟨g, 0, none⟩) l.length c, .func (.func 44) #[] #[]] w fun e w' => e = .returned (.bool (l.any endsP)) ∧ Below w.heap.size w w' := by
  have hI := st_index g 0 c l w hl (h.lt g (by simp [Value.ownBlock])).2 (fun j hj i v hv => by
    rw [getElem!_pos l j hj] at hv
    rw [Nat.zero_add]
    exact own_state h j hj i v hv)
  have hx := Lib.idxBy_nonneg_iff (fun _ y => endsP y) l default
  generalize Lib.idxBy (fun _ y => endsP y) l default = x at *
  rw [← hx]
  have HI := Lib.hid hI
  clear hI hx h
  go_enter Tryd.func43, Tryd.ntmps43
  go_wp2_with fail
  refine (HI.out).mono ?_
  rintro e w1 ⟨rfl, hb1⟩
  go_wp2_with fail
  go_returns
  exact ⟨rfl, hb1⟩
end Go.Proofs.YtcgdjnmfeibnoaaDoor
/-! SixCut -/
namespace Go.Proofs.YtcgdjnmfeibnoaaDoor
open Go.RowKit Go.Proofs.YtcgdjnmfeibnoaaDoorW.PrintWords
set_option linter.unusedVariables false
set_option linter.unusedSimpArgs false
theorem pre_58 (a : UInt8) (l : List UInt8) : ([58, 58] : List UInt8).isPrefixOf (a :: l) = decide (a = 58 ∧ l.head? = some 58) := by
  cases l with
  | nil => simp [List.isPrefixOf]
  | cons b l => 
    rw [Bool.eq_iff_iff]
    simp [List.isPrefixOf]
    constructor
    · rintro ⟨rfl, rfl⟩; exact ⟨rfl, rfl⟩
    · rintro ⟨rfl, rfl⟩; exact ⟨rfl, rfl⟩
theorem cut_58 (l : List UInt8) : Lib.cut l [58, 58] = cut2 l := by
  induction l with
  | nil => rfl
  | cons a l ih =>
    have hidx : Lib.index (a :: l) [58, 58] = if a = 58 ∧ l.head? = some 58 then 0 else if Lib.index l [58, 58] = -1 then -1 else Lib.index l [58, 58] + 1 := by
      rw [Lib.index, pre_58]
      simp only [decide_eq_true_eq, beq_iff_eq]
    have hg := Lib.index_ge l [58, 58]
    unfold Lib.cut at ih ⊢
    rw [cut2, hidx]
    by_cases h : a = 58 ∧ l.head? = some 58
    · rw [if_pos h, if_pos h]
      simp
    · rw [if_neg h, if_neg h, ← ih]
      by_cases hi : Lib.index l [58, 58] = -1
      · rw [hi]
        rfl
      · rw [if_neg hi, if_pos (show 0 ≤ Lib.index l [58, 58] + 1 by omega), if_pos (show 0 ≤ Lib.index l [58, 58] by omega)]
        have e : (Lib.index l [58, 58] + 1).toNat = (Lib.index l [58, 58]).toNat + 1 := by omega
        rw [e, List.take_succ_cons, Nat.add_right_comm, List.drop_succ_cons]
end Go.Proofs.YtcgdjnmfeibnoaaDoor
/-! SixWr -/
namespace Go.Proofs.YtcgdjnmfeibnoaaDoor
open Go.RowKit Go.Proofs.YtcgdjnmfeibnoaaDoorW.PrintWords Go.Proofs.YtcgdjnmfeibnoaaDoor.X Go.IntWalk
set_option linter.unusedVariables false
set_option linter.unusedSimpArgs false
theorem u16wr (x : Int) (h : 0 ≤ x) : IntKind.u16.wrap x = x % 65536 := rfl
theorem strictL_nonneg : ∀ (l : List UInt8) (i : Nat) (n : Int) (part size : Nat) (x : Int), 0 ≤ (strictL l i n part size x).1
  | [], i, n, part, size, x => by
    rw [strictL]
    split
    · exact Int.le_refl _
    · exact Int.emod_nonneg _ (by decide)
  | c :: l, i, n, part, size, x => by
    rw [strictL]
    split
    · exact strictL_nonneg l _ _ _ _ _
    · split
      · exact strictL_nonneg l _ _ _ _ _
      · exact Int.le_refl _
theorem numL_nonneg (base : Int) (hb : 0 ≤ base) : ∀ (l : List UInt8) (n i : Int), 0 ≤ n → 0 ≤ (numL base l n i).1
  | [], n, i, h => by
    rw [numL]
    split
    · exact Int.le_refl _
    · exact h
  | c :: l, n, i, h => by
    rw [numL]
    split
    · exact Int.le_refl _
    · exact numL_nonneg base hb l _ _ (by have := Int.mul_nonneg h hb; omega)
theorem written_loop (L : List (List UInt8)) (hL : ∀ p ∈ L, p.length ≤ 9223372036854775807) (hlen : L.length ≤ 4294967296) : ∀ (m i : Nat) (acc : List Int), i + m = L.length → acc.length ≤ 2 * i →
    Ev (fun k => six_written.l0 k acc (L.map BA) (L.length : Int) (i : Int)) (acc ++ (L.drop i).flatMap grpV) := by
  intro m
  induction m with
  | zero =>
    intro i acc hm ha
    rw [List.drop_of_length_le (by omega), List.flatMap_nil, List.append_nil]
    refine Ev.step (f := fun _ => some acc) (fun k => ?_) (Ev.now _)
    simp only [six_written.l0]
    rw [if_neg (by omega)]
  | succ m ih =>
    intro i acc hm ha
    have hi : i < L.length := by omega
    have hp := hL L[i] (List.getElem_mem hi)
    have hr : rdOf ByteArray.empty (L.map BA) (i : Int) = BA L[i] := rd_map L i hi
    have hs := strict_ev (BA L[i]) (by rw [ba_size]; exact hp)
    rw [ba_list] at hs
    have w1 : wrap64 ((i : Int) + 1) = ((i + 1 : Nat) : Int) := by rw [wrap64_in _ (by omega)]; omega
    rw [List.drop_eq_getElem_cons hi, List.flatMap_cons]
    refine Ev.step (f := fun k => (four_Strict.f k (BA L[i])).bind fun bt => (if bt.2.2 = 0 then ((some (([IntKind.u16.wrap (bt.1 / 65536), IntKind.u16.wrap (bt.1)] : List Int) : List Int)).bind fun y => (if acc.length + y.length < 70368744177664 then (six_written.l0 k (acc ++ y) (L.map BA) (L.length : Int) (((i + 1 : Nat) : Int))) else (none))) else ((octet_Number.f (BA L[i]) 16).bind fun b => (if acc.length < 70368744177664 then (six_written.l0 k (acc ++ [IntKind.u16.wrap (b.1)]) (L.map BA) (L.length : Int) (((i + 1 : Nat) : Int))) else (none))))) (fun k => ?_) ?_
    · simp only [six_written.l0]
      rw [if_pos (by omega), if_pos (by omega), if_pos (by rw [List.length_map]; omega), hr, w1]
    · refine Ev.bind hs ?_
      have hn : 0 ≤ (strictV L[i]).1 := strictL_nonneg L[i] 0 0 0 0 0
      unfold grpV
      by_cases h0 : (strictV L[i]).2.2 = 0
      · rw [if_pos h0]
        have ih' := ih (i + 1) (acc ++ [(strictV L[i]).1 / 65536 % 65536, (strictV L[i]).1 % 65536]) (by omega) (by simp; omega)
        rw [List.append_assoc] at ih'
        refine Ev.congr (fun k => ?_) ih'
        rw [if_pos h0, Option.bind_some, if_pos (by simp; omega), u16wr _ (by omega), u16wr _ hn]
      · rw [if_neg h0]
        have ih' := ih (i + 1) (acc ++ [(numV L[i] 16).1 % 65536]) (by omega) (by simp; omega)
        rw [List.append_assoc] at ih'
        have hnn : 0 ≤ (numV L[i] 16).1 := by
          unfold numV
          rw [if_neg (by decide)]
          split
          · exact Int.le_refl _
          · exact numL_nonneg 16 (by decide) _ _ _ (Int.le_refl _)
        refine Ev.congr (fun k => ?_) ih'
        unfold octet_Number.f
        rw [if_neg h0, if_pos (by rw [ba_size]; exact hp), Option.bind_some, if_pos (by omega), ba_list, u16wr _ hnn]
theorem written_ev (s : ByteArray) (hs : s.size ≤ 4294967280) : Ev (fun k => six_written.f k s) (writtenV s.data.toList) := by
  have hz := size_len s
  have hl := splitC_len 58 s.data.toList
  have hp := splitC_part 58 s.data.toList
  unfold writtenV
  by_cases h : s.data.toList = []
  · rw [if_pos h]
    refine Ev.congr (f := fun _ => some []) (fun k => ?_) (Ev.now _)
    unfold six_written.f
    rw [if_pos (by rw [toList_data]; exact h)]
  · rw [if_neg h]
    have e := written_loop (splitC 58 s.data.toList) (fun p q => by have := hp p q; omega) (by omega) _ 0 [] (Nat.zero_add _) (by simp)
    rw [List.nil_append, List.drop_zero] at e
    refine Ev.congr (fun k => ?_) e
    unfold six_written.f strings_Split.f
    rw [if_neg (by rw [toList_data]; exact h), if_pos ⟨by omega, by decide⟩, show (⟨#[58]⟩ : ByteArray) = BA [58] from rfl, splitB_one, Option.bind_some, List.length_map]
    rfl
end Go.Proofs.YtcgdjnmfeibnoaaDoor
/-! SixStOk -/
namespace Go.Proofs.YtcgdjnmfeibnoaaDoor
open Go.RowKit Go.Proofs.YtcgdjnmfeibnoaaDoorW.PrintWords
set_option linter.unusedVariables false
set_option linter.unusedSimpArgs false
structure StOk (x : St) : Prop where
  w0 : 0 ≤ x.wh
  w6 : x.wh ≤ 6
  p0 : 0 ≤ x.pc
  p8 : x.pc ≤ 8
  d0 : 0 ≤ x.dg
  n0 : 0 ≤ x.nu
  v0 : 0 ≤ x.va
  v1 : x.va ≤ 255
theorem begin_ok {x : St} (h : StOk x) (c : Int) : ∀ y ∈ beginP x c, StOk y := by
  have e := digV10 c
  intro y hy
  unfold beginP at hy
  rcases List.mem_append.1 hy with q | q
  · split at q
    · rw [List.mem_singleton] at q
      subst q
      exact ⟨(by decide : (0 : Int) ≤ 4), (by decide : (4 : Int) ≤ 6), h.p0, h.p8, (by decide : (0 : Int) ≤ 1), h.n0, h.v0, h.v1⟩
    · cases q
  · split at q
    · rename_i hd
      rw [List.mem_singleton] at q
      subst q
      exact ⟨(by decide : (0 : Int) ≤ 5), (by decide : (5 : Int) ≤ 6), h.p0, h.p8, h.d0, h.n0, hd.1, by show digV c 10 ≤ 255; rw [e]; split <;> omega⟩
    · cases q
theorem next_ok {x : St} (h : StOk x) (c : Int) : ∀ y ∈ nextP x c, StOk y := by
  have e := digV10 c
  have hd : digV c 10 ≤ 9 := by rw [e]; split <;> omega
  obtain ⟨w0, w6, p0, p8, d0, n0, v0, v1⟩ := h
  intro y hy
  unfold nextP at hy
  split at hy
  · rw [List.mem_singleton] at hy; subst hy
    exact ⟨(by decide : (0 : Int) ≤ 1), (by decide : (1 : Int) ≤ 6), p0, p8, d0, n0, v0, v1⟩
  split at hy
  · rw [List.mem_singleton] at hy; subst hy
    exact ⟨(by decide : (0 : Int) ≤ 3), (by decide : (3 : Int) ≤ 6), p0, p8, d0, n0, v0, v1⟩
  split at hy
  · exact begin_ok ⟨w0, w6, p0, p8, d0, n0, v0, v1⟩ c y hy
  split at hy
  · split at hy
    · rename_i hm
      rw [List.mem_singleton] at hy; subst hy
      refine ⟨(by decide : (0 : Int) ≤ 2), (by decide : (2 : Int) ≤ 6), by show 0 ≤ x.pc + 1; omega, ?_, d0, n0, v0, v1⟩
      show x.pc + 1 ≤ 8
      unfold moreP at hm
      dsimp only at hm
      split at hm
      · have := of_decide_eq_true hm; omega
      · have := of_decide_eq_true hm; omega
    · cases hy
  split at hy
  · rw [List.mem_singleton] at hy; subst hy
    exact ⟨w0, w6, p0, p8, by show 0 ≤ x.dg + 1; omega, n0, v0, v1⟩
  split at hy
  · rw [List.mem_singleton] at hy; subst hy
    exact ⟨(by decide : (0 : Int) ≤ 6), (by decide : (6 : Int) ≤ 6), p0, p8, d0, by show 0 ≤ x.nu + 1; omega, v0, v1⟩
  split at hy
  · rename_i hq
    rw [List.mem_singleton] at hy; subst hy
    exact ⟨(by decide : (0 : Int) ≤ 5), (by decide : (5 : Int) ≤ 6), p0, p8, d0, n0, hq.2, by show digV c 10 ≤ 255; omega⟩
  split at hy
  · rename_i hq
    rw [List.mem_singleton] at hy; subst hy
    exact ⟨w0, w6, p0, p8, d0, n0, by show 0 ≤ 10 * x.va + digV c 10; omega, hq.2.2.2⟩
  · cases hy
theorem st0_ok : StOk ⟨0, 0, false, 0, 0, 0⟩ := ⟨by decide, by decide, by decide, by decide, by decide, by decide, by decide, by decide⟩
theorem all_ok {l : List St} (h : ∀ x ∈ l, StOk x) (c : Int) : ∀ y ∈ l.flatMap (nextP · c), StOk y := by
  intro y hy
  obtain ⟨x, hx, hy⟩ := List.mem_flatMap.1 hy
  exact next_ok (h x hx) c y hy
end Go.Proofs.YtcgdjnmfeibnoaaDoor
/-! SixShort -/
namespace Go.Proofs.YtcgdjnmfeibnoaaDoor
open Go.RowKit Go.Proofs.YtcgdjnmfeibnoaaDoorW.PrintWords
set_option linter.unusedVariables false
set_option linter.unusedSimpArgs false
/-- How many digits a number of an IPv4 address has. -/
def ndig (v : Int) : Int := if v < 10 then 1 else if v < 100 then 2 else 3
/-- How far a reader is. -/
def restP (x : St) : Int := if x.wh = 1 then 1 else if x.wh = 4 then x.dg else if x.wh = 5 then 4 * x.nu + ndig x.va else if x.wh = 6 then 4 * x.nu else 0
def farP (x : St) : Int := 6 * x.pc + (if x.gap then 2 else 0) + restP x
structure FarOk (x : St) : Prop where
  p0 : 0 ≤ x.pc
  p8 : x.pc ≤ 8
  d4 : x.wh = 4 → 1 ≤ x.dg ∧ x.dg ≤ 4
  n0 : 0 ≤ x.nu
  n3 : x.nu ≤ 3
  v0 : x.wh = 5 → 0 ≤ x.va
  w : 0 ≤ x.wh ∧ x.wh ≤ 6
  g1 : x.wh ≤ 1 → x.gap = false
theorem ndig_lo (v : Int) : 1 ≤ ndig v ∧ ndig v ≤ 3 := by unfold ndig; split; omega; split <;> omega
theorem far_most {x : St} (h : FarOk x) : farP x ≤ 65 := by
  obtain ⟨p0, p8, d4, n0, n3, v0, w, g1⟩ := h
  have := ndig_lo x.va
  unfold farP restP
  have hg : (if x.gap then (2 : Int) else 0) ≤ 2 := by split <;> omega
  by_cases h4 : x.wh = 4
  · have := d4 h4
    rw [if_neg (by omega : ¬ x.wh = 1), if_pos h4]
    omega
  · rw [if_neg h4]
    by_cases h1 : x.wh = 1
    · rw [if_pos h1]; omega
    · rw [if_neg h1]
      by_cases h5 : x.wh = 5
      · rw [if_pos h5]; omega
      · rw [if_neg h5]; split <;> omega
theorem begin_far {x : St} (h : FarOk x) (hw : x.wh = 0 ∨ x.wh = 2 ∨ x.wh = 3) (c : Int) : ∀ y ∈ beginP x c, FarOk y ∧ farP x + 1 ≤ farP y := by
  have e := digV10 c
  obtain ⟨p0, p8, d4, n0, n3, v0, w, g1⟩ := h
  have hx : farP x = 6 * x.pc + (if x.gap then 2 else 0) := by
    have hr : restP x = 0 := by unfold restP; rw [if_neg (by omega), if_neg (by omega), if_neg (by omega), if_neg (by omega)]
    unfold farP
    rw [hr]
    omega
  intro y hy
  unfold beginP at hy
  rcases List.mem_append.1 hy with q | q
  · split at q
    · rw [List.mem_singleton] at q
      subst q
      refine ⟨⟨p0, p8, fun _ => ⟨by show (1 : Int) ≤ 1; omega, by show (1 : Int) ≤ 4; omega⟩, n0, n3, fun q => absurd (show (4 : Int) = 5 from q) (by decide), by show (0 : Int) ≤ 4 ∧ (4 : Int) ≤ 6; omega, fun q => absurd (show (4 : Int) ≤ 1 from q) (by decide)⟩, ?_⟩
      rw [hx]
      show _ ≤ 6 * x.pc + (if x.gap then 2 else 0) + (if (4 : Int) = 1 then (1 : Int) else if (4 : Int) = 4 then 1 else _)
      rw [if_neg (by decide : ¬ (4 : Int) = 1), if_pos rfl]
      omega
    · cases q
  · split at q
    · rename_i hd
      rw [List.mem_singleton] at q
      subst q
      refine ⟨⟨p0, p8, fun q => absurd (show (5 : Int) = 4 from q) (by decide), n0, n3, fun _ => hd.1, by show (0 : Int) ≤ 5 ∧ (5 : Int) ≤ 6; omega, fun q => absurd (show (5 : Int) ≤ 1 from q) (by decide)⟩, ?_⟩
      rw [hx]
      have := ndig_lo (digV c 10)
      show _ ≤ 6 * x.pc + (if x.gap then 2 else 0) + (if (5 : Int) = 1 then (1 : Int) else if (5 : Int) = 4 then x.dg else if (5 : Int) = 5 then 4 * x.nu + ndig (digV c 10) else _)
      rw [if_neg (by decide : ¬ (5 : Int) = 1), if_neg (by decide : ¬ (5 : Int) = 4), if_pos rfl]
      omega
    · cases q
theorem next_far {x : St} (h : FarOk x) (c : Int) : ∀ y ∈ nextP x c, FarOk y ∧ farP x + 1 ≤ farP y := by
  have e := digV10 c
  have hd : digV c 10 ≤ 9 := by rw [e]; split <;> omega
  have h0 := h
  obtain ⟨p0, p8, d4, n0, n3, v0, w, g1⟩ := h
  have nd := ndig_lo x.va
  intro y hy
  unfold nextP at hy
  split at hy
  · rename_i hc
    rw [List.mem_singleton] at hy; subst hy
    refine ⟨⟨p0, p8, fun q => absurd (show (1 : Int) = 4 from q) (by decide), n0, n3, fun q => absurd (show (1 : Int) = 5 from q) (by decide), by show (0 : Int) ≤ 1 ∧ (1 : Int) ≤ 6; omega, fun _ => g1 (by omega)⟩, ?_⟩
    have hx : farP x = 6 * x.pc + (if x.gap then 2 else 0) := by
      have hr : restP x = 0 := by unfold restP; rw [if_neg (by omega), if_neg (by omega), if_neg (by omega), if_neg (by omega)]
      unfold farP
      rw [hr]
      omega
    rw [hx]
    show _ ≤ 6 * x.pc + (if x.gap then 2 else 0) + (if (1 : Int) = 1 then (1 : Int) else _)
    rw [if_pos rfl]
    omega
  split at hy
  · rename_i _ hc
    rw [List.mem_singleton] at hy; subst hy
    refine ⟨⟨p0, p8, fun q => absurd (show (3 : Int) = 4 from q) (by decide), n0, n3, fun q => absurd (show (3 : Int) = 5 from q) (by decide), by show (0 : Int) ≤ 3 ∧ (3 : Int) ≤ 6; omega, fun q => absurd (show (3 : Int) ≤ 1 from q) (by decide)⟩, ?_⟩
    show _ ≤ 6 * x.pc + (if true = true then 2 else 0) + (if (3 : Int) = 1 then (1 : Int) else if (3 : Int) = 4 then x.dg else if (3 : Int) = 5 then 4 * x.nu + ndig x.va else if (3 : Int) = 6 then 4 * x.nu else 0)
    rw [if_pos rfl, if_neg (by decide : ¬ (3 : Int) = 1), if_neg (by decide : ¬ (3 : Int) = 4), if_neg (by decide : ¬ (3 : Int) = 5), if_neg (by decide : ¬ (3 : Int) = 6)]
    have hx : farP x ≤ 6 * x.pc + 1 := by
      unfold farP
      rcases hc.1 with h1 | ⟨h1, h2⟩
      · have hr : restP x = 1 := by unfold restP; rw [if_pos h1]
        rw [g1 (by omega), hr]
        simp
      · have hr : restP x = 0 := by unfold restP; rw [if_neg (by omega), if_neg (by omega), if_neg (by omega), if_neg (by omega)]
        rw [h2, hr]
        simp
        omega
    omega
  split at hy
  · rename_i _ _ hc
    exact begin_far h0 hc c y hy
  split at hy
  · rename_i hc
    have hdg := d4 hc.1
    have hx : farP x = 6 * x.pc + (if x.gap then 2 else 0) + x.dg := by
      have hr : restP x = x.dg := by unfold restP; rw [if_neg (by omega), if_pos hc.1]
      unfold farP
      rw [hr]
    split at hy
    · rename_i hm
      rw [List.mem_singleton] at hy; subst hy
      refine ⟨⟨by show 0 ≤ x.pc + 1; omega, ?_, fun q => absurd (show (2 : Int) = 4 from q) (by decide), n0, n3, fun q => absurd (show (2 : Int) = 5 from q) (by decide), by show (0 : Int) ≤ 2 ∧ (2 : Int) ≤ 6; omega, fun q => absurd (show (2 : Int) ≤ 1 from q) (by decide)⟩, ?_⟩
      · show x.pc + 1 ≤ 8
        unfold moreP at hm
        dsimp only at hm
        split at hm
        · have := of_decide_eq_true hm; omega
        · have := of_decide_eq_true hm; omega
      · rw [hx]
        show _ ≤ 6 * (x.pc + 1) + (if x.gap then 2 else 0) + (if (2 : Int) = 1 then (1 : Int) else if (2 : Int) = 4 then x.dg else if (2 : Int) = 5 then 4 * x.nu + ndig x.va else if (2 : Int) = 6 then 4 * x.nu else 0)
        rw [if_neg (by decide : ¬ (2 : Int) = 1), if_neg (by decide : ¬ (2 : Int) = 4), if_neg (by decide : ¬ (2 : Int) = 5), if_neg (by decide : ¬ (2 : Int) = 6)]
        omega
    · cases hy
  split at hy
  · rename_i hc
    have hx : farP x = 6 * x.pc + (if x.gap then 2 else 0) + x.dg := by
      have hr : restP x = x.dg := by unfold restP; rw [if_neg (by omega), if_pos hc.1]
      unfold farP
      rw [hr]
    rw [List.mem_singleton] at hy; subst hy
    refine ⟨⟨p0, p8, fun _ => ⟨by show 1 ≤ x.dg + 1; have := d4 hc.1; omega, by show x.dg + 1 ≤ 4; omega⟩, n0, n3, fun q => by have q' : x.wh = 5 := q; omega, w, g1⟩, ?_⟩
    rw [hx]
    show _ ≤ 6 * x.pc + (if x.gap then 2 else 0) + (if x.wh = 1 then (1 : Int) else if x.wh = 4 then x.dg + 1 else _)
    rw [if_neg (by omega : ¬ x.wh = 1), if_pos hc.1]
    omega
  split at hy
  · rename_i hc
    have hx : farP x = 6 * x.pc + (if x.gap then 2 else 0) + (4 * x.nu + ndig x.va) := by
      have hr : restP x = (4 * x.nu + ndig x.va) := by unfold restP; rw [if_neg (by omega), if_neg (by omega), if_pos hc.1]
      unfold farP
      rw [hr]
    rw [List.mem_singleton] at hy; subst hy
    refine ⟨⟨p0, p8, fun q => absurd (show (6 : Int) = 4 from q) (by decide), by show 0 ≤ x.nu + 1; omega, by show x.nu + 1 ≤ 3; omega, fun q => absurd (show (6 : Int) = 5 from q) (by decide), by show (0 : Int) ≤ 6 ∧ (6 : Int) ≤ 6; omega, fun q => absurd (show (6 : Int) ≤ 1 from q) (by decide)⟩, ?_⟩
    rw [hx]
    show _ ≤ 6 * x.pc + (if x.gap then 2 else 0) + (if (6 : Int) = 1 then (1 : Int) else if (6 : Int) = 4 then x.dg else if (6 : Int) = 5 then 4 * (x.nu + 1) + ndig x.va else if (6 : Int) = 6 then 4 * (x.nu + 1) else 0)
    rw [if_neg (by decide : ¬ (6 : Int) = 1), if_neg (by decide : ¬ (6 : Int) = 4), if_neg (by decide : ¬ (6 : Int) = 5), if_pos rfl]
    omega
  split at hy
  · rename_i hc
    have hx : farP x = 6 * x.pc + (if x.gap then 2 else 0) + 4 * x.nu := by
      have hr : restP x = 4 * x.nu := by unfold restP; rw [if_neg (by omega), if_neg (by omega), if_neg (by omega), if_pos hc.1]
      unfold farP
      rw [hr]
    rw [List.mem_singleton] at hy; subst hy
    refine ⟨⟨p0, p8, fun q => absurd (show (5 : Int) = 4 from q) (by decide), n0, n3, fun _ => hc.2, by show (0 : Int) ≤ 5 ∧ (5 : Int) ≤ 6; omega, fun q => absurd (show (5 : Int) ≤ 1 from q) (by decide)⟩, ?_⟩
    rw [hx]
    have := ndig_lo (digV c 10)
    show _ ≤ 6 * x.pc + (if x.gap then 2 else 0) + (if (5 : Int) = 1 then (1 : Int) else if (5 : Int) = 4 then x.dg else if (5 : Int) = 5 then 4 * x.nu + ndig (digV c 10) else _)
    rw [if_neg (by decide : ¬ (5 : Int) = 1), if_neg (by decide : ¬ (5 : Int) = 4), if_pos rfl]
    omega
  split at hy
  · rename_i hc
    obtain ⟨c1, c2, c3, c4⟩ := hc
    have hx : farP x = 6 * x.pc + (if x.gap then 2 else 0) + (4 * x.nu + ndig x.va) := by
      have hr : restP x = (4 * x.nu + ndig x.va) := by unfold restP; rw [if_neg (by omega), if_neg (by omega), if_pos c1]
      unfold farP
      rw [hr]
    rw [List.mem_singleton] at hy; subst hy
    refine ⟨⟨p0, p8, fun q => by have q' : x.wh = 4 := q; omega, n0, n3, fun _ => by show 0 ≤ 10 * x.va + digV c 10; omega, w, g1⟩, ?_⟩
    rw [hx]
    have hnd : ndig x.va + 1 ≤ ndig (10 * x.va + digV c 10) := by
      unfold ndig
      by_cases q1 : x.va < 10
      · rw [if_pos q1, if_neg (by omega)]
        split <;> omega
      · rw [if_neg q1, if_pos (by omega), if_neg (by omega), if_neg (by omega)]
        omega
    show _ ≤ 6 * x.pc + (if x.gap then 2 else 0) + (if x.wh = 1 then (1 : Int) else if x.wh = 4 then x.dg else if x.wh = 5 then 4 * x.nu + ndig (10 * x.va + digV c 10) else _)
    rw [if_neg (by omega : ¬ x.wh = 1), if_neg (by omega : ¬ x.wh = 4), if_pos c1]
    omega
  · cases hy
theorem states_short : ∀ (s : List UInt8) (l : List St) (k : Int) (i : Nat) (m : List St), l ≠ [] → (∀ x ∈ l, FarOk x ∧ k ≤ farP x) → statesV s l i = .inr m → k + (s.length : Int) ≤ 65
  | [], l, k, i, m, hn, h, _ => by
    cases l with
    | nil => exact absurd rfl hn
    | cons x l =>
      obtain ⟨a, b⟩ := h x (by simp)
      have := far_most a
      simp
      omega
  | c :: s, l, k, i, m, hn, h, hs => by
    rw [statesV] at hs
    split at hs
    · cases hs
    · rename_i hne
      have := states_short s _ (k + 1) _ m hne (fun y hy => by
        obtain ⟨x, hx, hy⟩ := List.mem_flatMap.1 hy
        obtain ⟨a, b⟩ := h x hx
        obtain ⟨a', b'⟩ := next_far a _ y hy
        exact ⟨a', by omega⟩) hs
      rw [List.length_cons]
      omega
/-- A text over which a reader comes to its end is short. -/
theorem parse_short {s : List UInt8} {m : List St} (h : statesV s [st0] 0 = .inr m) : s.length ≤ 65 := by
  have := states_short s [st0] 0 0 m (by simp) (fun x hx => by
    rw [List.mem_singleton.1 hx]
    exact ⟨⟨by decide, by decide, fun q => absurd (show (0 : Int) = 4 from q) (by decide), by decide, by decide, fun q => absurd (show (0 : Int) = 5 from q) (by decide), by decide, fun _ => rfl⟩, by decide⟩) h
  omega
end Go.Proofs.YtcgdjnmfeibnoaaDoor
