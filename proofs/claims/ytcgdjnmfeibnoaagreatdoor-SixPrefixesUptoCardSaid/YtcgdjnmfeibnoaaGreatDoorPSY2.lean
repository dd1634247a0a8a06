/- Several texts in one (wip/gen/pack.py): SixStep SixWhole SixOk SixRefParse StShelf SixSt SixNext2 SixAny SixRow SixCut SixWr SixStOk SixShort SixParse Builder Hex SixRun SixText SixPrint SixEq SixParses SixIs. -/
import Derived.Test.YtcgdjnmfeibnoaaGreatDoorPSY1
import Derived.Shelf.SlicesQ.IndexFunc
import Derived.Test.YtcgdjnmfeibnoaaGreatDoorProg
import Derived.Test.YtcgdjnmfeibnoaaGreatDoorPSY0
import Derived.IntWalk
import Derived.Deep.AppendLies
import Derived.Laws.AppendOwnNone
import Derived.Lib.SlBy
import Derived.Lib.IndexMore
import Derived.Deep.RegionHeld3
import Derived.Laws.CopyOwn
import Derived.Laws.BitsLemmas
import Derived.Laws.Externs
import Derived.Laws.IdiomCopy
import Derived.Lib.AppendStr
import Derived.Lib.Builder
import Derived.Lib.Slices
import Derived.Lib.Strings
import Derived.Lib.UnsafeStr
import Derived.Lib.Walk
import Derived.Deep.LoopGhost
import Derived.Laws.MakeOwn
import Derived.Laws.OwnMore
import Derived.Lib.ConvBytes
import Derived.Lib.Hide
/-! SixStep -/
namespace Go.Proofs.YtcgdjnmfeibnoaaGreatDoor
open Go.RowKit Go.Proofs.YtcgdjnmfeibnoaaGreatDoorW.PrintWords Go.Proofs.YtcgdjnmfeibnoaaGreatDoor.X
set_option linter.unusedVariables false
set_option linter.unusedSimpArgs false
set_option maxHeartbeats 2000000 in
set_option maxRecDepth 100000 in
theorem step_0c (l0 l1 l2 l3 l4 l5 l6 l7 N k dg va te pa fo c : Int) (h0 : 0 ≤ c) (h1 : c < 256) (hc : c = 58) (w : World) :
    Calls Tryz.prog 40 #[sv l0 l1 l2 l3 l4 l5 l6 l7 N k 0 dg va te pa fo, .int .u8 c] w fun e w' => e = .returned (sv l0 l1 l2 l3 l4 l5 l6 l7 N k 1 dg va te pa fo) ∧ Grw w w' := by
  subst hc
  go_enter Tryz.func40, Tryz.ntmps40
  go_wp2_with fail
  refine (refDigit_drew 58 h0 h1 _).mono ?_
  rintro e w1 ⟨rfl, m1, rfl⟩
  simp only [drewN_alloc, GA_drewN, GA_GA]
  obtain ⟨u1, hu, hz, hG1⟩ := drewN_grw w m1
  rw [← hu, ← hz]
  clear hu hz
  go_wp2_with fail
  try simp only [Exit.inBlock, Exit.then]
  refine bodyPost_ret (results_cell rfl rfl (by first | (refine scan_ld0 _ _ _ _ _ _ _ _ _ _ _ _ _ _ _ _ _ ?_; simp; done) | (refine scan_gld0 _ _ _ _ _ _ _ _ _ _ _ _ _ _ _ _ _ _ ?_; simp; done) | (refine scan_ld1 _ _ _ _ _ _ _ _ _ _ _ _ _ _ _ _ _ _ ?_; simp; done) | (refine scan_gld1 _ _ _ _ _ _ _ _ _ _ _ _ _ _ _ _ _ _ _ ?_; simp; done) | (refine scan_ld2 _ _ _ _ _ _ _ _ _ _ _ _ _ _ _ _ _ _ _ ?_; simp; done) | (refine scan_gld2 _ _ _ _ _ _ _ _ _ _ _ _ _ _ _ _ _ _ _ _ ?_; simp; done) | (refine scan_ld3 _ _ _ _ _ _ _ _ _ _ _ _ _ _ _ _ _ _ _ _ ?_; simp; done) | (refine scan_gld3 _ _ _ _ _ _ _ _ _ _ _ _ _ _ _ _ _ _ _ _ _ ?_; simp; done))) rfl ?_
  exact ⟨rfl, by repeat (first | exact hG1 | refine Grw.alloc ?_ _ | refine Grw.ga ?_ _)⟩
set_option maxHeartbeats 2000000 in
set_option maxRecDepth 100000 in
theorem step_0n (l0 l1 l2 l3 l4 l5 l6 l7 N k dg va te pa fo c : Int) (h0 : 0 ≤ c) (h1 : c < 256) (n0 : 0 ≤ N) (n7 : N ≤ 7) (x0 : -1 ≤ digV c 16) (x1 : digV c 16 ≤ 15) (hc : (c == 58) = false) (hf : (digV c 16 < 0 ∨ (if 0 ≤ k then 7 - N else 8 - N) < 1)) (w : World) :
    Calls Tryz.prog 40 #[sv l0 l1 l2 l3 l4 l5 l6 l7 N k 0 dg va te pa fo, .int .u8 c] w fun e w' => e = .returned (sv l0 l1 l2 l3 l4 l5 l6 l7 N k 7 0 0 0 pa fo) ∧ Grw w w' := by
  go_enter Tryz.func40, Tryz.ntmps40
  go_wp2_with fail
  refine (refDigit_drew c h0 h1 _).mono ?_
  rintro e w1 ⟨rfl, m1, rfl⟩
  simp only [drewN_alloc, GA_drewN, GA_GA]
  obtain ⟨u1, hu, hz, hG1⟩ := drewN_grw w m1
  rw [← hu, ← hz]
  clear hu hz
  go_wp2_with fail
  refine (first_walk _ _ _ _ _ _ _ _ _ _ _ _ _ _ _ _ c h0 h1 n0 (by omega) x0 x1 _).mono ?_
  rintro e w2 ⟨rfl, m2, g2, rfl⟩
  rw [if_pos hf]
  simp only [drewN_alloc, GA_drewN, GA_GA]
  obtain ⟨u2, hu, hz, hG2⟩ := drewN_grw u1 m2
  rw [← hu, ← hz]
  clear hu hz
  replace hG2 : Grw w u2 := hG1.trans hG2
  have q1_ : u2.heap.size < u2.heap.size + 1 + 1 + 1 := by omega
  have q2_ : u2.heap.size < u2.heap.size + 1 + 1 := by omega
  have q3_ : u2.heap.size < u2.heap.size + 1 := by omega
  go_wp2_with fail
  try simp only [Exit.inBlock, Exit.then]
  refine bodyPost_ret (results_cell rfl rfl (by first | (refine scan_ld0 _ _ _ _ _ _ _ _ _ _ _ _ _ _ _ _ _ ?_; simp; done) | (refine scan_gld0 _ _ _ _ _ _ _ _ _ _ _ _ _ _ _ _ _ _ ?_; simp; done) | (refine scan_ld1 _ _ _ _ _ _ _ _ _ _ _ _ _ _ _ _ _ _ ?_; simp; done) | (refine scan_gld1 _ _ _ _ _ _ _ _ _ _ _ _ _ _ _ _ _ _ _ ?_; simp; done) | (refine scan_ld2 _ _ _ _ _ _ _ _ _ _ _ _ _ _ _ _ _ _ _ ?_; simp; done) | (refine scan_gld2 _ _ _ _ _ _ _ _ _ _ _ _ _ _ _ _ _ _ _ _ ?_; simp; done) | (refine scan_ld3 _ _ _ _ _ _ _ _ _ _ _ _ _ _ _ _ _ _ _ _ ?_; simp; done) | (refine scan_gld3 _ _ _ _ _ _ _ _ _ _ _ _ _ _ _ _ _ _ _ _ _ ?_; simp; done))) rfl ?_
  exact ⟨rfl, by repeat (first | exact hG2 | refine Grw.alloc ?_ _ | refine Grw.ga ?_ _)⟩
set_option maxHeartbeats 2000000 in
set_option maxRecDepth 100000 in
theorem step_0y (l0 l1 l2 l3 l4 l5 l6 l7 N k dg va te pa fo c : Int) (h0 : 0 ≤ c) (h1 : c < 256) (n0 : 0 ≤ N) (n7 : N ≤ 7) (x0 : -1 ≤ digV c 16) (x1 : digV c 16 ≤ 15) (hc : (c == 58) = false) (hf : ¬ (digV c 16 < 0 ∨ (if 0 ≤ k then 7 - N else 8 - N) < 1)) (w : World) :
    Calls Tryz.prog 40 #[sv l0 l1 l2 l3 l4 l5 l6 l7 N k 0 dg va te pa fo, .int .u8 c] w fun e w' => e = .returned (sv l0 l1 l2 l3 l4 l5 l6 l7 N k 4 1 (digV c 16) (tenM 0 0 c) pa fo) ∧ Grw w w' := by
  go_enter Tryz.func40, Tryz.ntmps40
  go_wp2_with fail
  refine (refDigit_drew c h0 h1 _).mono ?_
  rintro e w1 ⟨rfl, m1, rfl⟩
  simp only [drewN_alloc, GA_drewN, GA_GA]
  obtain ⟨u1, hu, hz, hG1⟩ := drewN_grw w m1
  rw [← hu, ← hz]
  clear hu hz
  go_wp2_with fail
  refine (first_walk _ _ _ _ _ _ _ _ _ _ _ _ _ _ _ _ c h0 h1 n0 (by omega) x0 x1 _).mono ?_
  rintro e w2 ⟨rfl, m2, g2, rfl⟩
  rw [if_neg hf]
  simp only [drewN_alloc, GA_drewN, GA_GA]
  obtain ⟨u2, hu, hz, hG2⟩ := drewN_grw u1 m2
  rw [← hu, ← hz]
  clear hu hz
  replace hG2 : Grw w u2 := hG1.trans hG2
  have q1_ : u2.heap.size < u2.heap.size + 1 + 1 + 1 := by omega
  have q2_ : u2.heap.size < u2.heap.size + 1 + 1 := by omega
  have q3_ : u2.heap.size < u2.heap.size + 1 := by omega
  go_wp2_with fail
  try simp only [Exit.inBlock, Exit.then]
  refine bodyPost_ret (results_cell rfl rfl (by first | (refine scan_ld0 _ _ _ _ _ _ _ _ _ _ _ _ _ _ _ _ _ ?_; simp; done) | (refine scan_gld0 _ _ _ _ _ _ _ _ _ _ _ _ _ _ _ _ _ _ ?_; simp; done) | (refine scan_ld1 _ _ _ _ _ _ _ _ _ _ _ _ _ _ _ _ _ _ ?_; simp; done) | (refine scan_gld1 _ _ _ _ _ _ _ _ _ _ _ _ _ _ _ _ _ _ _ ?_; simp; done) | (refine scan_ld2 _ _ _ _ _ _ _ _ _ _ _ _ _ _ _ _ _ _ _ ?_; simp; done) | (refine scan_gld2 _ _ _ _ _ _ _ _ _ _ _ _ _ _ _ _ _ _ _ _ ?_; simp; done) | (refine scan_ld3 _ _ _ _ _ _ _ _ _ _ _ _ _ _ _ _ _ _ _ _ ?_; simp; done) | (refine scan_gld3 _ _ _ _ _ _ _ _ _ _ _ _ _ _ _ _ _ _ _ _ _ ?_; simp; done))) rfl ?_
  exact ⟨rfl, by repeat (first | exact hG2 | refine Grw.alloc ?_ _ | refine Grw.ga ?_ _)⟩
set_option maxHeartbeats 2000000 in
set_option maxRecDepth 100000 in
theorem step_1c (l0 l1 l2 l3 l4 l5 l6 l7 N k dg va te pa fo c : Int) (h0 : 0 ≤ c) (h1 : c < 256) (hc : c = 58) (w : World) :
    Calls Tryz.prog 40 #[sv l0 l1 l2 l3 l4 l5 l6 l7 N k 1 dg va te pa fo, .int .u8 c] w fun e w' => e = .returned (sv l0 l1 l2 l3 l4 l5 l6 l7 N 0 3 dg va te pa fo) ∧ Grw w w' := by
  subst hc
  go_enter Tryz.func40, Tryz.ntmps40
  go_wp2_with fail
  refine (refDigit_drew 58 h0 h1 _).mono ?_
  rintro e w1 ⟨rfl, m1, rfl⟩
  simp only [drewN_alloc, GA_drewN, GA_GA]
  obtain ⟨u1, hu, hz, hG1⟩ := drewN_grw w m1
  rw [← hu, ← hz]
  clear hu hz
  go_wp2_with fail
  try simp only [Exit.inBlock, Exit.then]
  refine bodyPost_ret (results_cell rfl rfl (by first | (refine scan_ld0 _ _ _ _ _ _ _ _ _ _ _ _ _ _ _ _ _ ?_; simp; done) | (refine scan_gld0 _ _ _ _ _ _ _ _ _ _ _ _ _ _ _ _ _ _ ?_; simp; done) | (refine scan_ld1 _ _ _ _ _ _ _ _ _ _ _ _ _ _ _ _ _ _ ?_; simp; done) | (refine scan_gld1 _ _ _ _ _ _ _ _ _ _ _ _ _ _ _ _ _ _ _ ?_; simp; done) | (refine scan_ld2 _ _ _ _ _ _ _ _ _ _ _ _ _ _ _ _ _ _ _ ?_; simp; done) | (refine scan_gld2 _ _ _ _ _ _ _ _ _ _ _ _ _ _ _ _ _ _ _ _ ?_; simp; done) | (refine scan_ld3 _ _ _ _ _ _ _ _ _ _ _ _ _ _ _ _ _ _ _ _ ?_; simp; done) | (refine scan_gld3 _ _ _ _ _ _ _ _ _ _ _ _ _ _ _ _ _ _ _ _ _ ?_; simp; done))) rfl ?_
  exact ⟨rfl, by repeat (first | exact hG1 | refine Grw.alloc ?_ _ | refine Grw.ga ?_ _)⟩
set_option maxHeartbeats 2000000 in
set_option maxRecDepth 100000 in
theorem step_1 (l0 l1 l2 l3 l4 l5 l6 l7 N k dg va te pa fo c : Int) (h0 : 0 ≤ c) (h1 : c < 256) (hc : (c == 58) = false) (w : World) :
    Calls Tryz.prog 40 #[sv l0 l1 l2 l3 l4 l5 l6 l7 N k 1 dg va te pa fo, .int .u8 c] w fun e w' => e = .returned (sv l0 l1 l2 l3 l4 l5 l6 l7 N k 7 dg va te pa fo) ∧ Grw w w' := by
  go_enter Tryz.func40, Tryz.ntmps40
  go_wp2_with fail
  refine (refDigit_drew c h0 h1 _).mono ?_
  rintro e w1 ⟨rfl, m1, rfl⟩
  simp only [drewN_alloc, GA_drewN, GA_GA]
  obtain ⟨u1, hu, hz, hG1⟩ := drewN_grw w m1
  rw [← hu, ← hz]
  clear hu hz
  go_wp2_with fail
  try simp only [Exit.inBlock, Exit.then]
  refine bodyPost_ret (results_cell rfl rfl (by first | (refine scan_ld0 _ _ _ _ _ _ _ _ _ _ _ _ _ _ _ _ _ ?_; simp; done) | (refine scan_gld0 _ _ _ _ _ _ _ _ _ _ _ _ _ _ _ _ _ _ ?_; simp; done) | (refine scan_ld1 _ _ _ _ _ _ _ _ _ _ _ _ _ _ _ _ _ _ ?_; simp; done) | (refine scan_gld1 _ _ _ _ _ _ _ _ _ _ _ _ _ _ _ _ _ _ _ ?_; simp; done) | (refine scan_ld2 _ _ _ _ _ _ _ _ _ _ _ _ _ _ _ _ _ _ _ ?_; simp; done) | (refine scan_gld2 _ _ _ _ _ _ _ _ _ _ _ _ _ _ _ _ _ _ _ _ ?_; simp; done) | (refine scan_ld3 _ _ _ _ _ _ _ _ _ _ _ _ _ _ _ _ _ _ _ _ ?_; simp; done) | (refine scan_gld3 _ _ _ _ _ _ _ _ _ _ _ _ _ _ _ _ _ _ _ _ _ ?_; simp; done))) rfl ?_
  exact ⟨rfl, by repeat (first | exact hG1 | refine Grw.alloc ?_ _ | refine Grw.ga ?_ _)⟩
set_option maxHeartbeats 2000000 in
set_option maxRecDepth 100000 in
theorem step_2c (l0 l1 l2 l3 l4 l5 l6 l7 N k dg va te pa fo c : Int) (h0 : 0 ≤ c) (h1 : c < 256) (hk : k < 0) (n7 : N ≤ 7) (hc : c = 58) (w : World) :
    Calls Tryz.prog 40 #[sv l0 l1 l2 l3 l4 l5 l6 l7 N k 2 dg va te pa fo, .int .u8 c] w fun e w' => e = .returned (sv l0 l1 l2 l3 l4 l5 l6 l7 N N 3 dg va te pa fo) ∧ Grw w w' := by
  subst hc
  go_enter Tryz.func40, Tryz.ntmps40
  go_wp2_with fail
  refine (refDigit_drew 58 h0 h1 _).mono ?_
  rintro e w1 ⟨rfl, m1, rfl⟩
  simp only [drewN_alloc, GA_drewN, GA_GA]
  obtain ⟨u1, hu, hz, hG1⟩ := drewN_grw w m1
  rw [← hu, ← hz]
  clear hu hz
  go_wp2_with fail
  try simp only [Exit.inBlock, Exit.then]
  refine bodyPost_ret (results_cell rfl rfl (by first | (refine scan_ld0 _ _ _ _ _ _ _ _ _ _ _ _ _ _ _ _ _ ?_; simp; done) | (refine scan_gld0 _ _ _ _ _ _ _ _ _ _ _ _ _ _ _ _ _ _ ?_; simp; done) | (refine scan_ld1 _ _ _ _ _ _ _ _ _ _ _ _ _ _ _ _ _ _ ?_; simp; done) | (refine scan_gld1 _ _ _ _ _ _ _ _ _ _ _ _ _ _ _ _ _ _ _ ?_; simp; done) | (refine scan_ld2 _ _ _ _ _ _ _ _ _ _ _ _ _ _ _ _ _ _ _ ?_; simp; done) | (refine scan_gld2 _ _ _ _ _ _ _ _ _ _ _ _ _ _ _ _ _ _ _ _ ?_; simp; done) | (refine scan_ld3 _ _ _ _ _ _ _ _ _ _ _ _ _ _ _ _ _ _ _ _ ?_; simp; done) | (refine scan_gld3 _ _ _ _ _ _ _ _ _ _ _ _ _ _ _ _ _ _ _ _ _ ?_; simp; done))) rfl ?_
  exact ⟨rfl, by repeat (first | exact hG1 | refine Grw.alloc ?_ _ | refine Grw.ga ?_ _)⟩
set_option maxHeartbeats 2000000 in
set_option maxRecDepth 100000 in
theorem step_2gn (l0 l1 l2 l3 l4 l5 l6 l7 N k dg va te pa fo c : Int) (h0 : 0 ≤ c) (h1 : c < 256) (n0 : 0 ≤ N) (n7 : N ≤ 7) (x0 : -1 ≤ digV c 16) (x1 : digV c 16 ≤ 15) (hk : 0 ≤ k) (hc : (c == 58) = true) (hf : (digV c 16 < 0 ∨ (if 0 ≤ k then 7 - N else 8 - N) < 1)) (w : World) :
    Calls Tryz.prog 40 #[sv l0 l1 l2 l3 l4 l5 l6 l7 N k 2 dg va te pa fo, .int .u8 c] w fun e w' => e = .returned (sv l0 l1 l2 l3 l4 l5 l6 l7 N k 7 0 0 0 pa fo) ∧ Grw w w' := by
  go_enter Tryz.func40, Tryz.ntmps40
  go_wp2_with fail
  refine (refDigit_drew c h0 h1 _).mono ?_
  rintro e w1 ⟨rfl, m1, rfl⟩
  simp only [drewN_alloc, GA_drewN, GA_GA]
  obtain ⟨u1, hu, hz, hG1⟩ := drewN_grw w m1
  rw [← hu, ← hz]
  clear hu hz
  go_wp2_with fail
  refine (first_walk _ _ _ _ _ _ _ _ _ _ _ _ _ _ _ _ c h0 h1 n0 (by omega) x0 x1 _).mono ?_
  rintro e w2 ⟨rfl, m2, g2, rfl⟩
  rw [if_pos hf]
  simp only [drewN_alloc, GA_drewN, GA_GA]
  obtain ⟨u2, hu, hz, hG2⟩ := drewN_grw u1 m2
  rw [← hu, ← hz]
  clear hu hz
  replace hG2 : Grw w u2 := hG1.trans hG2
  have q1_ : u2.heap.size < u2.heap.size + 1 + 1 + 1 := by omega
  have q2_ : u2.heap.size < u2.heap.size + 1 + 1 := by omega
  have q3_ : u2.heap.size < u2.heap.size + 1 := by omega
  go_wp2_with fail
  try simp only [Exit.inBlock, Exit.then]
  refine bodyPost_ret (results_cell rfl rfl (by first | (refine scan_ld0 _ _ _ _ _ _ _ _ _ _ _ _ _ _ _ _ _ ?_; simp; done) | (refine scan_gld0 _ _ _ _ _ _ _ _ _ _ _ _ _ _ _ _ _ _ ?_; simp; done) | (refine scan_ld1 _ _ _ _ _ _ _ _ _ _ _ _ _ _ _ _ _ _ ?_; simp; done) | (refine scan_gld1 _ _ _ _ _ _ _ _ _ _ _ _ _ _ _ _ _ _ _ ?_; simp; done) | (refine scan_ld2 _ _ _ _ _ _ _ _ _ _ _ _ _ _ _ _ _ _ _ ?_; simp; done) | (refine scan_gld2 _ _ _ _ _ _ _ _ _ _ _ _ _ _ _ _ _ _ _ _ ?_; simp; done) | (refine scan_ld3 _ _ _ _ _ _ _ _ _ _ _ _ _ _ _ _ _ _ _ _ ?_; simp; done) | (refine scan_gld3 _ _ _ _ _ _ _ _ _ _ _ _ _ _ _ _ _ _ _ _ _ ?_; simp; done))) rfl ?_
  exact ⟨rfl, by repeat (first | exact hG2 | refine Grw.alloc ?_ _ | refine Grw.ga ?_ _)⟩
set_option maxHeartbeats 2000000 in
set_option maxRecDepth 100000 in
theorem step_2n (l0 l1 l2 l3 l4 l5 l6 l7 N k dg va te pa fo c : Int) (h0 : 0 ≤ c) (h1 : c < 256) (n0 : 0 ≤ N) (n7 : N ≤ 7) (x0 : -1 ≤ digV c 16) (x1 : digV c 16 ≤ 15) (hc : (c == 58) = false) (hf : (digV c 16 < 0 ∨ (if 0 ≤ k then 7 - N else 8 - N) < 1)) (w : World) :
    Calls Tryz.prog 40 #[sv l0 l1 l2 l3 l4 l5 l6 l7 N k 2 dg va te pa fo, .int .u8 c] w fun e w' => e = .returned (sv l0 l1 l2 l3 l4 l5 l6 l7 N k 7 0 0 0 pa fo) ∧ Grw w w' := by
  go_enter Tryz.func40, Tryz.ntmps40
  go_wp2_with fail
  refine (refDigit_drew c h0 h1 _).mono ?_
  rintro e w1 ⟨rfl, m1, rfl⟩
  simp only [drewN_alloc, GA_drewN, GA_GA]
  obtain ⟨u1, hu, hz, hG1⟩ := drewN_grw w m1
  rw [← hu, ← hz]
  clear hu hz
  go_wp2_with fail
  refine (first_walk _ _ _ _ _ _ _ _ _ _ _ _ _ _ _ _ c h0 h1 n0 (by omega) x0 x1 _).mono ?_
  rintro e w2 ⟨rfl, m2, g2, rfl⟩
  rw [if_pos hf]
  simp only [drewN_alloc, GA_drewN, GA_GA]
  obtain ⟨u2, hu, hz, hG2⟩ := drewN_grw u1 m2
  rw [← hu, ← hz]
  clear hu hz
  replace hG2 : Grw w u2 := hG1.trans hG2
  have q1_ : u2.heap.size < u2.heap.size + 1 + 1 + 1 := by omega
  have q2_ : u2.heap.size < u2.heap.size + 1 + 1 := by omega
  have q3_ : u2.heap.size < u2.heap.size + 1 := by omega
  go_wp2_with fail
  try simp only [Exit.inBlock, Exit.then]
  refine bodyPost_ret (results_cell rfl rfl (by first | (refine scan_ld0 _ _ _ _ _ _ _ _ _ _ _ _ _ _ _ _ _ ?_; simp; done) | (refine scan_gld0 _ _ _ _ _ _ _ _ _ _ _ _ _ _ _ _ _ _ ?_; simp; done) | (refine scan_ld1 _ _ _ _ _ _ _ _ _ _ _ _ _ _ _ _ _ _ ?_; simp; done) | (refine scan_gld1 _ _ _ _ _ _ _ _ _ _ _ _ _ _ _ _ _ _ _ ?_; simp; done) | (refine scan_ld2 _ _ _ _ _ _ _ _ _ _ _ _ _ _ _ _ _ _ _ ?_; simp; done) | (refine scan_gld2 _ _ _ _ _ _ _ _ _ _ _ _ _ _ _ _ _ _ _ _ ?_; simp; done) | (refine scan_ld3 _ _ _ _ _ _ _ _ _ _ _ _ _ _ _ _ _ _ _ _ ?_; simp; done) | (refine scan_gld3 _ _ _ _ _ _ _ _ _ _ _ _ _ _ _ _ _ _ _ _ _ ?_; simp; done))) rfl ?_
  exact ⟨rfl, by repeat (first | exact hG2 | refine Grw.alloc ?_ _ | refine Grw.ga ?_ _)⟩
set_option maxHeartbeats 2000000 in
set_option maxRecDepth 100000 in
theorem step_2y (l0 l1 l2 l3 l4 l5 l6 l7 N k dg va te pa fo c : Int) (h0 : 0 ≤ c) (h1 : c < 256) (n0 : 0 ≤ N) (n7 : N ≤ 7) (x0 : -1 ≤ digV c 16) (x1 : digV c 16 ≤ 15) (hc : (c == 58) = false) (hf : ¬ (digV c 16 < 0 ∨ (if 0 ≤ k then 7 - N else 8 - N) < 1)) (w : World) :
    Calls Tryz.prog 40 #[sv l0 l1 l2 l3 l4 l5 l6 l7 N k 2 dg va te pa fo, .int .u8 c] w fun e w' => e = .returned (sv l0 l1 l2 l3 l4 l5 l6 l7 N k 4 1 (digV c 16) (tenM 0 0 c) pa fo) ∧ Grw w w' := by
  go_enter Tryz.func40, Tryz.ntmps40
  go_wp2_with fail
  refine (refDigit_drew c h0 h1 _).mono ?_
  rintro e w1 ⟨rfl, m1, rfl⟩
  simp only [drewN_alloc, GA_drewN, GA_GA]
  obtain ⟨u1, hu, hz, hG1⟩ := drewN_grw w m1
  rw [← hu, ← hz]
  clear hu hz
  go_wp2_with fail
  refine (first_walk _ _ _ _ _ _ _ _ _ _ _ _ _ _ _ _ c h0 h1 n0 (by omega) x0 x1 _).mono ?_
  rintro e w2 ⟨rfl, m2, g2, rfl⟩
  rw [if_neg hf]
  simp only [drewN_alloc, GA_drewN, GA_GA]
  obtain ⟨u2, hu, hz, hG2⟩ := drewN_grw u1 m2
  rw [← hu, ← hz]
  clear hu hz
  replace hG2 : Grw w u2 := hG1.trans hG2
  have q1_ : u2.heap.size < u2.heap.size + 1 + 1 + 1 := by omega
  have q2_ : u2.heap.size < u2.heap.size + 1 + 1 := by omega
  have q3_ : u2.heap.size < u2.heap.size + 1 := by omega
  go_wp2_with fail
  try simp only [Exit.inBlock, Exit.then]
  refine bodyPost_ret (results_cell rfl rfl (by first | (refine scan_ld0 _ _ _ _ _ _ _ _ _ _ _ _ _ _ _ _ _ ?_; simp; done) | (refine scan_gld0 _ _ _ _ _ _ _ _ _ _ _ _ _ _ _ _ _ _ ?_; simp; done) | (refine scan_ld1 _ _ _ _ _ _ _ _ _ _ _ _ _ _ _ _ _ _ ?_; simp; done) | (refine scan_gld1 _ _ _ _ _ _ _ _ _ _ _ _ _ _ _ _ _ _ _ ?_; simp; done) | (refine scan_ld2 _ _ _ _ _ _ _ _ _ _ _ _ _ _ _ _ _ _ _ ?_; simp; done) | (refine scan_gld2 _ _ _ _ _ _ _ _ _ _ _ _ _ _ _ _ _ _ _ _ ?_; simp; done) | (refine scan_ld3 _ _ _ _ _ _ _ _ _ _ _ _ _ _ _ _ _ _ _ _ ?_; simp; done) | (refine scan_gld3 _ _ _ _ _ _ _ _ _ _ _ _ _ _ _ _ _ _ _ _ _ ?_; simp; done))) rfl ?_
  exact ⟨rfl, by repeat (first | exact hG2 | refine Grw.alloc ?_ _ | refine Grw.ga ?_ _)⟩
set_option maxHeartbeats 2000000 in
set_option maxRecDepth 100000 in
theorem step_3n (l0 l1 l2 l3 l4 l5 l6 l7 N k dg va te pa fo c : Int) (h0 : 0 ≤ c) (h1 : c < 256) (n0 : 0 ≤ N) (n7 : N ≤ 7) (x0 : -1 ≤ digV c 16) (x1 : digV c 16 ≤ 15) (hf : (digV c 16 < 0 ∨ (if 0 ≤ k then 7 - N else 8 - N) < 1)) (w : World) :
    Calls Tryz.prog 40 #[sv l0 l1 l2 l3 l4 l5 l6 l7 N k 3 dg va te pa fo, .int .u8 c] w fun e w' => e = .returned (sv l0 l1 l2 l3 l4 l5 l6 l7 N k 7 0 0 0 pa fo) ∧ Grw w w' := by
  go_enter Tryz.func40, Tryz.ntmps40
  go_wp2_with fail
  refine (refDigit_drew c h0 h1 _).mono ?_
  rintro e w1 ⟨rfl, m1, rfl⟩
  simp only [drewN_alloc, GA_drewN, GA_GA]
  obtain ⟨u1, hu, hz, hG1⟩ := drewN_grw w m1
  rw [← hu, ← hz]
  clear hu hz
  go_wp2_with fail
  refine (first_walk _ _ _ _ _ _ _ _ _ _ _ _ _ _ _ _ c h0 h1 n0 (by omega) x0 x1 _).mono ?_
  rintro e w2 ⟨rfl, m2, g2, rfl⟩
  rw [if_pos hf]
  simp only [drewN_alloc, GA_drewN, GA_GA]
  obtain ⟨u2, hu, hz, hG2⟩ := drewN_grw u1 m2
  rw [← hu, ← hz]
  clear hu hz
  replace hG2 : Grw w u2 := hG1.trans hG2
  have q1_ : u2.heap.size < u2.heap.size + 1 + 1 + 1 := by omega
  have q2_ : u2.heap.size < u2.heap.size + 1 + 1 := by omega
  have q3_ : u2.heap.size < u2.heap.size + 1 := by omega
  go_wp2_with fail
  try simp only [Exit.inBlock, Exit.then]
  refine bodyPost_ret (results_cell rfl rfl (by first | (refine scan_ld0 _ _ _ _ _ _ _ _ _ _ _ _ _ _ _ _ _ ?_; simp; done) | (refine scan_gld0 _ _ _ _ _ _ _ _ _ _ _ _ _ _ _ _ _ _ ?_; simp; done) | (refine scan_ld1 _ _ _ _ _ _ _ _ _ _ _ _ _ _ _ _ _ _ ?_; simp; done) | (refine scan_gld1 _ _ _ _ _ _ _ _ _ _ _ _ _ _ _ _ _ _ _ ?_; simp; done) | (refine scan_ld2 _ _ _ _ _ _ _ _ _ _ _ _ _ _ _ _ _ _ _ ?_; simp; done) | (refine scan_gld2 _ _ _ _ _ _ _ _ _ _ _ _ _ _ _ _ _ _ _ _ ?_; simp; done) | (refine scan_ld3 _ _ _ _ _ _ _ _ _ _ _ _ _ _ _ _ _ _ _ _ ?_; simp; done) | (refine scan_gld3 _ _ _ _ _ _ _ _ _ _ _ _ _ _ _ _ _ _ _ _ _ ?_; simp; done))) rfl ?_
  exact ⟨rfl, by repeat (first | exact hG2 | refine Grw.alloc ?_ _ | refine Grw.ga ?_ _)⟩
set_option maxHeartbeats 2000000 in
set_option maxRecDepth 100000 in
theorem step_3y (l0 l1 l2 l3 l4 l5 l6 l7 N k dg va te pa fo c : Int) (h0 : 0 ≤ c) (h1 : c < 256) (n0 : 0 ≤ N) (n7 : N ≤ 7) (x0 : -1 ≤ digV c 16) (x1 : digV c 16 ≤ 15) (hf : ¬ (digV c 16 < 0 ∨ (if 0 ≤ k then 7 - N else 8 - N) < 1)) (w : World) :
    Calls Tryz.prog 40 #[sv l0 l1 l2 l3 l4 l5 l6 l7 N k 3 dg va te pa fo, .int .u8 c] w fun e w' => e = .returned (sv l0 l1 l2 l3 l4 l5 l6 l7 N k 4 1 (digV c 16) (tenM 0 0 c) pa fo) ∧ Grw w w' := by
  go_enter Tryz.func40, Tryz.ntmps40
  go_wp2_with fail
  refine (refDigit_drew c h0 h1 _).mono ?_
  rintro e w1 ⟨rfl, m1, rfl⟩
  simp only [drewN_alloc, GA_drewN, GA_GA]
  obtain ⟨u1, hu, hz, hG1⟩ := drewN_grw w m1
  rw [← hu, ← hz]
  clear hu hz
  go_wp2_with fail
  refine (first_walk _ _ _ _ _ _ _ _ _ _ _ _ _ _ _ _ c h0 h1 n0 (by omega) x0 x1 _).mono ?_
  rintro e w2 ⟨rfl, m2, g2, rfl⟩
  rw [if_neg hf]
  simp only [drewN_alloc, GA_drewN, GA_GA]
  obtain ⟨u2, hu, hz, hG2⟩ := drewN_grw u1 m2
  rw [← hu, ← hz]
  clear hu hz
  replace hG2 : Grw w u2 := hG1.trans hG2
  have q1_ : u2.heap.size < u2.heap.size + 1 + 1 + 1 := by omega
  have q2_ : u2.heap.size < u2.heap.size + 1 + 1 := by omega
  have q3_ : u2.heap.size < u2.heap.size + 1 := by omega
  go_wp2_with fail
  try simp only [Exit.inBlock, Exit.then]
  refine bodyPost_ret (results_cell rfl rfl (by first | (refine scan_ld0 _ _ _ _ _ _ _ _ _ _ _ _ _ _ _ _ _ ?_; simp; done) | (refine scan_gld0 _ _ _ _ _ _ _ _ _ _ _ _ _ _ _ _ _ _ ?_; simp; done) | (refine scan_ld1 _ _ _ _ _ _ _ _ _ _ _ _ _ _ _ _ _ _ ?_; simp; done) | (refine scan_gld1 _ _ _ _ _ _ _ _ _ _ _ _ _ _ _ _ _ _ _ ?_; simp; done) | (refine scan_ld2 _ _ _ _ _ _ _ _ _ _ _ _ _ _ _ _ _ _ _ ?_; simp; done) | (refine scan_gld2 _ _ _ _ _ _ _ _ _ _ _ _ _ _ _ _ _ _ _ _ ?_; simp; done) | (refine scan_ld3 _ _ _ _ _ _ _ _ _ _ _ _ _ _ _ _ _ _ _ _ ?_; simp; done) | (refine scan_gld3 _ _ _ _ _ _ _ _ _ _ _ _ _ _ _ _ _ _ _ _ _ ?_; simp; done))) rfl ?_
  exact ⟨rfl, by repeat (first | exact hG2 | refine Grw.alloc ?_ _ | refine Grw.ga ?_ _)⟩
set_option maxHeartbeats 2000000 in
set_option maxRecDepth 100000 in
theorem step_4m (l0 l1 l2 l3 l4 l5 l6 l7 N k dg va te pa fo c : Int) (h0 : 0 ≤ c) (h1 : c < 256) (n0 : 0 ≤ N) (n7 : N ≤ 7) (x0 : -1 ≤ digV c 16) (x1 : digV c 16 ≤ 15) (d0 : 0 ≤ dg) (d1 : dg ≤ 100) (v0 : 0 ≤ va) (v1 : va ≤ 65535) (t0 : -1 ≤ te) (t1 : te ≤ 255) (hx : 0 ≤ digV c 16) (h4 : (dg == 4) = false) (w : World) :
    Calls Tryz.prog 40 #[sv l0 l1 l2 l3 l4 l5 l6 l7 N k 4 dg va te pa fo, .int .u8 c] w fun e w' => e = .returned (sv l0 l1 l2 l3 l4 l5 l6 l7 N k 4 (dg + 1) (16 * va + digV c 16) (tenM dg te c) pa fo) ∧ Grw w w' := by
  go_enter Tryz.func40, Tryz.ntmps40
  go_wp2_with fail
  refine (refDigit_drew c h0 h1 _).mono ?_
  rintro e w1 ⟨rfl, m1, rfl⟩
  simp only [drewN_alloc, GA_drewN, GA_GA]
  obtain ⟨u1, hu, hz, hG1⟩ := drewN_grw w m1
  rw [← hu, ← hz]
  clear hu hz
  go_wp2_with fail
  refine (more_walk _ _ _ _ _ _ _ _ _ _ _ _ _ _ _ _ c h0 h1 d0 d1 v0 v1 x0 x1 t0 t1 _).mono ?_
  rintro e w2 ⟨rfl, m2, g2, rfl⟩
  simp only [drewN_alloc, GA_drewN, GA_GA]
  obtain ⟨u2, hu, hz, hG2⟩ := drewN_grw u1 m2
  rw [← hu, ← hz]
  clear hu hz
  replace hG2 : Grw w u2 := hG1.trans hG2
  have q1_ : u2.heap.size < u2.heap.size + 1 + 1 + 1 := by omega
  have q2_ : u2.heap.size < u2.heap.size + 1 + 1 := by omega
  have q3_ : u2.heap.size < u2.heap.size + 1 := by omega
  go_wp2_with fail
  try simp only [Exit.inBlock, Exit.then]
  refine bodyPost_ret (results_cell rfl rfl (by first | (refine scan_ld0 _ _ _ _ _ _ _ _ _ _ _ _ _ _ _ _ _ ?_; simp; done) | (refine scan_gld0 _ _ _ _ _ _ _ _ _ _ _ _ _ _ _ _ _ _ ?_; simp; done) | (refine scan_ld1 _ _ _ _ _ _ _ _ _ _ _ _ _ _ _ _ _ _ ?_; simp; done) | (refine scan_gld1 _ _ _ _ _ _ _ _ _ _ _ _ _ _ _ _ _ _ _ ?_; simp; done) | (refine scan_ld2 _ _ _ _ _ _ _ _ _ _ _ _ _ _ _ _ _ _ _ ?_; simp; done) | (refine scan_gld2 _ _ _ _ _ _ _ _ _ _ _ _ _ _ _ _ _ _ _ _ ?_; simp; done) | (refine scan_ld3 _ _ _ _ _ _ _ _ _ _ _ _ _ _ _ _ _ _ _ _ ?_; simp; done) | (refine scan_gld3 _ _ _ _ _ _ _ _ _ _ _ _ _ _ _ _ _ _ _ _ _ ?_; simp; done))) rfl ?_
  exact ⟨rfl, by repeat (first | exact hG2 | refine Grw.alloc ?_ _ | refine Grw.ga ?_ _)⟩
set_option maxHeartbeats 2000000 in
set_option maxRecDepth 100000 in
theorem step_4x (l0 l1 l2 l3 l4 l5 l6 l7 N k dg va te pa fo c : Int) (h0 : 0 ≤ c) (h1 : c < 256) (hx : 0 ≤ digV c 16) (h4 : dg = 4) (w : World) :
    Calls Tryz.prog 40 #[sv l0 l1 l2 l3 l4 l5 l6 l7 N k 4 dg va te pa fo, .int .u8 c] w fun e w' => e = .returned (sv l0 l1 l2 l3 l4 l5 l6 l7 N k 7 4 va te pa fo) ∧ Grw w w' := by
  subst h4
  go_enter Tryz.func40, Tryz.ntmps40
  go_wp2_with fail
  refine (refDigit_drew c h0 h1 _).mono ?_
  rintro e w1 ⟨rfl, m1, rfl⟩
  simp only [drewN_alloc, GA_drewN, GA_GA]
  obtain ⟨u1, hu, hz, hG1⟩ := drewN_grw w m1
  rw [← hu, ← hz]
  clear hu hz
  go_wp2_with fail
  try simp only [Exit.inBlock, Exit.then]
  refine bodyPost_ret (results_cell rfl rfl (by first | (refine scan_ld0 _ _ _ _ _ _ _ _ _ _ _ _ _ _ _ _ _ ?_; simp; done) | (refine scan_gld0 _ _ _ _ _ _ _ _ _ _ _ _ _ _ _ _ _ _ ?_; simp; done) | (refine scan_ld1 _ _ _ _ _ _ _ _ _ _ _ _ _ _ _ _ _ _ ?_; simp; done) | (refine scan_gld1 _ _ _ _ _ _ _ _ _ _ _ _ _ _ _ _ _ _ _ ?_; simp; done) | (refine scan_ld2 _ _ _ _ _ _ _ _ _ _ _ _ _ _ _ _ _ _ _ ?_; simp; done) | (refine scan_gld2 _ _ _ _ _ _ _ _ _ _ _ _ _ _ _ _ _ _ _ _ ?_; simp; done) | (refine scan_ld3 _ _ _ _ _ _ _ _ _ _ _ _ _ _ _ _ _ _ _ _ ?_; simp; done) | (refine scan_gld3 _ _ _ _ _ _ _ _ _ _ _ _ _ _ _ _ _ _ _ _ _ ?_; simp; done))) rfl ?_
  exact ⟨rfl, by repeat (first | exact hG1 | refine Grw.alloc ?_ _ | refine Grw.ga ?_ _)⟩
set_option maxHeartbeats 2000000 in
set_option maxRecDepth 100000 in
theorem step_4c8 (l0 l1 l2 l3 l4 l5 l6 l7 N k dg va te pa fo c : Int) (h0 : 0 ≤ c) (h1 : c < 256) (n0 : 0 ≤ N) (n7 : N ≤ 7) (v0 : 0 ≤ va) (v1 : va ≤ 65535) (hx : digV c 16 < 0) (hp : pa = 0) (hN : N = 7) (hc : c = 58) (w : World) :
    Calls Tryz.prog 40 #[sv l0 l1 l2 l3 l4 l5 l6 l7 N k 4 dg va te pa fo, .int .u8 c] w fun e w' => e = .returned (sv l0 l1 l2 l3 l4 l5 l6 l7 7 k 7 dg va te 0 fo) ∧ Grw w w' := by
  subst hN hp
  subst hc
  go_enter Tryz.func40, Tryz.ntmps40
  go_wp2_with fail
  refine (refDigit_drew 58 h0 h1 _).mono ?_
  rintro e w1 ⟨rfl, m1, rfl⟩
  simp only [drewN_alloc, GA_drewN, GA_GA]
  obtain ⟨u1, hu, hz, hG1⟩ := drewN_grw w m1
  rw [← hu, ← hz]
  clear hu hz
  go_wp2_with fail
  refine (closed_walk _ _ _ _ _ _ _ _ _ _ _ _ _ _ _ _ n0 n7 v0 v1 _).mono ?_
  rintro e w2 ⟨rfl, m2, g2, rfl⟩
  simp only [drewN_alloc, GA_drewN, GA_GA]
  obtain ⟨u2, hu, hz, hG2⟩ := drewN_grw u1 m2
  rw [← hu, ← hz]
  clear hu hz
  replace hG2 : Grw w u2 := hG1.trans hG2
  have q1_ : u2.heap.size < u2.heap.size + 1 + 1 + 1 := by omega
  have q2_ : u2.heap.size < u2.heap.size + 1 + 1 := by omega
  have q3_ : u2.heap.size < u2.heap.size + 1 := by omega
  go_wp2_with fail
  try simp only [Exit.inBlock, Exit.then]
  refine bodyPost_ret (results_cell rfl rfl (by first | (refine scan_ld0 _ _ _ _ _ _ _ _ _ _ _ _ _ _ _ _ _ ?_; simp; done) | (refine scan_gld0 _ _ _ _ _ _ _ _ _ _ _ _ _ _ _ _ _ _ ?_; simp; done) | (refine scan_ld1 _ _ _ _ _ _ _ _ _ _ _ _ _ _ _ _ _ _ ?_; simp; done) | (refine scan_gld1 _ _ _ _ _ _ _ _ _ _ _ _ _ _ _ _ _ _ _ ?_; simp; done) | (refine scan_ld2 _ _ _ _ _ _ _ _ _ _ _ _ _ _ _ _ _ _ _ ?_; simp; done) | (refine scan_gld2 _ _ _ _ _ _ _ _ _ _ _ _ _ _ _ _ _ _ _ _ ?_; simp; done) | (refine scan_ld3 _ _ _ _ _ _ _ _ _ _ _ _ _ _ _ _ _ _ _ _ ?_; simp; done) | (refine scan_gld3 _ _ _ _ _ _ _ _ _ _ _ _ _ _ _ _ _ _ _ _ _ ?_; simp; done))) rfl ?_
  exact ⟨rfl, by repeat (first | exact hG2 | refine Grw.alloc ?_ _ | refine Grw.ga ?_ _)⟩
set_option maxHeartbeats 2000000 in
set_option maxRecDepth 100000 in
theorem step_4c7 (l0 l1 l2 l3 l4 l5 l6 l7 N k dg va te pa fo c : Int) (h0 : 0 ≤ c) (h1 : c < 256) (n0 : 0 ≤ N) (n7 : N ≤ 7) (v0 : 0 ≤ va) (v1 : va ≤ 65535) (hx : digV c 16 < 0) (hp : pa = 0) (hk : 0 ≤ k) (hN : N = 6) (hc : c = 58) (w : World) :
    Calls Tryz.prog 40 #[sv l0 l1 l2 l3 l4 l5 l6 l7 N k 4 dg va te pa fo, .int .u8 c] w fun e w' => e = .returned (sv l0 l1 l2 l3 l4 l5 l6 l7 6 k 7 dg va te 0 fo) ∧ Grw w w' := by
  subst hN hp
  subst hc
  go_enter Tryz.func40, Tryz.ntmps40
  go_wp2_with fail
  refine (refDigit_drew 58 h0 h1 _).mono ?_
  rintro e w1 ⟨rfl, m1, rfl⟩
  simp only [drewN_alloc, GA_drewN, GA_GA]
  obtain ⟨u1, hu, hz, hG1⟩ := drewN_grw w m1
  rw [← hu, ← hz]
  clear hu hz
  go_wp2_with fail
  refine (closed_walk _ _ _ _ _ _ _ _ _ _ _ _ _ _ _ _ n0 n7 v0 v1 _).mono ?_
  rintro e w2 ⟨rfl, m2, g2, rfl⟩
  simp only [drewN_alloc, GA_drewN, GA_GA]
  obtain ⟨u2, hu, hz, hG2⟩ := drewN_grw u1 m2
  rw [← hu, ← hz]
  clear hu hz
  replace hG2 : Grw w u2 := hG1.trans hG2
  have q1_ : u2.heap.size < u2.heap.size + 1 + 1 + 1 := by omega
  have q2_ : u2.heap.size < u2.heap.size + 1 + 1 := by omega
  have q3_ : u2.heap.size < u2.heap.size + 1 := by omega
  go_wp2_with fail
  try simp only [Exit.inBlock, Exit.then]
  refine bodyPost_ret (results_cell rfl rfl (by first | (refine scan_ld0 _ _ _ _ _ _ _ _ _ _ _ _ _ _ _ _ _ ?_; simp; done) | (refine scan_gld0 _ _ _ _ _ _ _ _ _ _ _ _ _ _ _ _ _ _ ?_; simp; done) | (refine scan_ld1 _ _ _ _ _ _ _ _ _ _ _ _ _ _ _ _ _ _ ?_; simp; done) | (refine scan_gld1 _ _ _ _ _ _ _ _ _ _ _ _ _ _ _ _ _ _ _ ?_; simp; done) | (refine scan_ld2 _ _ _ _ _ _ _ _ _ _ _ _ _ _ _ _ _ _ _ ?_; simp; done) | (refine scan_gld2 _ _ _ _ _ _ _ _ _ _ _ _ _ _ _ _ _ _ _ _ ?_; simp; done) | (refine scan_ld3 _ _ _ _ _ _ _ _ _ _ _ _ _ _ _ _ _ _ _ _ ?_; simp; done) | (refine scan_gld3 _ _ _ _ _ _ _ _ _ _ _ _ _ _ _ _ _ _ _ _ _ ?_; simp; done))) rfl ?_
  exact ⟨rfl, by repeat (first | exact hG2 | refine Grw.alloc ?_ _ | refine Grw.ga ?_ _)⟩
set_option maxHeartbeats 2000000 in
set_option maxRecDepth 100000 in
theorem step_4ck (l0 l1 l2 l3 l4 l5 l6 l7 N k dg va te pa fo c : Int) (h0 : 0 ≤ c) (h1 : c < 256) (n0 : 0 ≤ N) (n7 : N ≤ 7) (v0 : 0 ≤ va) (v1 : va ≤ 65535) (hx : digV c 16 < 0) (hp : pa = 0) (hk : 0 ≤ k) (hN : N < 6) (hN7 : (N + 1 == 7) = false) (hc : c = 58) (w : World) :
    Calls Tryz.prog 40 #[sv l0 l1 l2 l3 l4 l5 l6 l7 N k 4 dg va te pa fo, .int .u8 c] w fun e w' => e = .returned (sv (cl N 0 l0 va) (cl N 1 l1 va) (cl N 2 l2 va) (cl N 3 l3 va) (cl N 4 l4 va) (cl N 5 l5 va) (cl N 6 l6 va) (cl N 7 l7 va) (N + 1) k 2 dg va te 0 fo) ∧ Grw w w' := by
  subst hp
  subst hc
  go_enter Tryz.func40, Tryz.ntmps40
  go_wp2_with fail
  refine (refDigit_drew 58 h0 h1 _).mono ?_
  rintro e w1 ⟨rfl, m1, rfl⟩
  simp only [drewN_alloc, GA_drewN, GA_GA]
  obtain ⟨u1, hu, hz, hG1⟩ := drewN_grw w m1
  rw [← hu, ← hz]
  clear hu hz
  go_wp2_with fail
  refine (closed_walk _ _ _ _ _ _ _ _ _ _ _ _ _ _ _ _ n0 n7 v0 v1 _).mono ?_
  rintro e w2 ⟨rfl, m2, g2, rfl⟩
  simp only [drewN_alloc, GA_drewN, GA_GA]
  obtain ⟨u2, hu, hz, hG2⟩ := drewN_grw u1 m2
  rw [← hu, ← hz]
  clear hu hz
  replace hG2 : Grw w u2 := hG1.trans hG2
  have q1_ : u2.heap.size < u2.heap.size + 1 + 1 + 1 := by omega
  have q2_ : u2.heap.size < u2.heap.size + 1 + 1 := by omega
  have q3_ : u2.heap.size < u2.heap.size + 1 := by omega
  go_wp2_with fail
  try simp only [Exit.inBlock, Exit.then]
  refine bodyPost_ret (results_cell rfl rfl (by first | (refine scan_ld0 _ _ _ _ _ _ _ _ _ _ _ _ _ _ _ _ _ ?_; simp; done) | (refine scan_gld0 _ _ _ _ _ _ _ _ _ _ _ _ _ _ _ _ _ _ ?_; simp; done) | (refine scan_ld1 _ _ _ _ _ _ _ _ _ _ _ _ _ _ _ _ _ _ ?_; simp; done) | (refine scan_gld1 _ _ _ _ _ _ _ _ _ _ _ _ _ _ _ _ _ _ _ ?_; simp; done) | (refine scan_ld2 _ _ _ _ _ _ _ _ _ _ _ _ _ _ _ _ _ _ _ ?_; simp; done) | (refine scan_gld2 _ _ _ _ _ _ _ _ _ _ _ _ _ _ _ _ _ _ _ _ ?_; simp; done) | (refine scan_ld3 _ _ _ _ _ _ _ _ _ _ _ _ _ _ _ _ _ _ _ _ ?_; simp; done) | (refine scan_gld3 _ _ _ _ _ _ _ _ _ _ _ _ _ _ _ _ _ _ _ _ _ ?_; simp; done))) rfl ?_
  exact ⟨rfl, by repeat (first | exact hG2 | refine Grw.alloc ?_ _ | refine Grw.ga ?_ _)⟩
set_option maxHeartbeats 2000000 in
set_option maxRecDepth 100000 in
theorem step_4cn (l0 l1 l2 l3 l4 l5 l6 l7 N k dg va te pa fo c : Int) (h0 : 0 ≤ c) (h1 : c < 256) (n0 : 0 ≤ N) (n7 : N ≤ 7) (v0 : 0 ≤ va) (v1 : va ≤ 65535) (hx : digV c 16 < 0) (hp : pa = 0) (hk : k < 0) (hN : N < 7) (hc : c = 58) (w : World) :
    Calls Tryz.prog 40 #[sv l0 l1 l2 l3 l4 l5 l6 l7 N k 4 dg va te pa fo, .int .u8 c] w fun e w' => e = .returned (sv (cl N 0 l0 va) (cl N 1 l1 va) (cl N 2 l2 va) (cl N 3 l3 va) (cl N 4 l4 va) (cl N 5 l5 va) (cl N 6 l6 va) (cl N 7 l7 va) (N + 1) k 2 dg va te 0 fo) ∧ Grw w w' := by
  subst hp
  subst hc
  go_enter Tryz.func40, Tryz.ntmps40
  go_wp2_with fail
  refine (refDigit_drew 58 h0 h1 _).mono ?_
  rintro e w1 ⟨rfl, m1, rfl⟩
  simp only [drewN_alloc, GA_drewN, GA_GA]
  obtain ⟨u1, hu, hz, hG1⟩ := drewN_grw w m1
  rw [← hu, ← hz]
  clear hu hz
  go_wp2_with fail
  refine (closed_walk _ _ _ _ _ _ _ _ _ _ _ _ _ _ _ _ n0 n7 v0 v1 _).mono ?_
  rintro e w2 ⟨rfl, m2, g2, rfl⟩
  simp only [drewN_alloc, GA_drewN, GA_GA]
  obtain ⟨u2, hu, hz, hG2⟩ := drewN_grw u1 m2
  rw [← hu, ← hz]
  clear hu hz
  replace hG2 : Grw w u2 := hG1.trans hG2
  have q1_ : u2.heap.size < u2.heap.size + 1 + 1 + 1 := by omega
  have q2_ : u2.heap.size < u2.heap.size + 1 + 1 := by omega
  have q3_ : u2.heap.size < u2.heap.size + 1 := by omega
  go_wp2_with fail
  try simp only [Exit.inBlock, Exit.then]
  refine bodyPost_ret (results_cell rfl rfl (by first | (refine scan_ld0 _ _ _ _ _ _ _ _ _ _ _ _ _ _ _ _ _ ?_; simp; done) | (refine scan_gld0 _ _ _ _ _ _ _ _ _ _ _ _ _ _ _ _ _ _ ?_; simp; done) | (refine scan_ld1 _ _ _ _ _ _ _ _ _ _ _ _ _ _ _ _ _ _ ?_; simp; done) | (refine scan_gld1 _ _ _ _ _ _ _ _ _ _ _ _ _ _ _ _ _ _ _ ?_; simp; done) | (refine scan_ld2 _ _ _ _ _ _ _ _ _ _ _ _ _ _ _ _ _ _ _ ?_; simp; done) | (refine scan_gld2 _ _ _ _ _ _ _ _ _ _ _ _ _ _ _ _ _ _ _ _ ?_; simp; done) | (refine scan_ld3 _ _ _ _ _ _ _ _ _ _ _ _ _ _ _ _ _ _ _ _ ?_; simp; done) | (refine scan_gld3 _ _ _ _ _ _ _ _ _ _ _ _ _ _ _ _ _ _ _ _ _ ?_; simp; done))) rfl ?_
  exact ⟨rfl, by repeat (first | exact hG2 | refine Grw.alloc ?_ _ | refine Grw.ga ?_ _)⟩
set_option maxHeartbeats 2000000 in
set_option maxRecDepth 100000 in
theorem step_4pn (l0 l1 l2 l3 l4 l5 l6 l7 N k dg va te pa fo c : Int) (h0 : 0 ≤ c) (h1 : c < 256) (hx : digV c 16 < 0) (hc : c = 46) (hf : te < 0 ∨ ¬ (N = 6 ∧ k < 0 ∨ N ≤ 5 ∧ 0 ≤ k)) (w : World) :
    Calls Tryz.prog 40 #[sv l0 l1 l2 l3 l4 l5 l6 l7 N k 4 dg va te pa fo, .int .u8 c] w fun e w' => e = .returned (sv l0 l1 l2 l3 l4 l5 l6 l7 N k 7 dg va te pa fo) ∧ Grw w w' := by
  subst hc
  go_enter Tryz.func40, Tryz.ntmps40
  go_wp2_with fail
  refine (refDigit_drew 46 h0 h1 _).mono ?_
  rintro e w1 ⟨rfl, m1, rfl⟩
  simp only [drewN_alloc, GA_drewN, GA_GA]
  obtain ⟨u1, hu, hz, hG1⟩ := drewN_grw w m1
  rw [← hu, ← hz]
  clear hu hz
  go_wp2_with fail
  refine (dotted_walk _ _ _ _ _ _ _ _ _ _ _ _ _ _ _ _ _).mono ?_
  rintro e w2 ⟨rfl, m2, g2, rfl⟩
  rw [if_pos hf]
  simp only [drewN_alloc, GA_drewN, GA_GA]
  obtain ⟨u2, hu, hz, hG2⟩ := drewN_grw u1 m2
  rw [← hu, ← hz]
  clear hu hz
  replace hG2 : Grw w u2 := hG1.trans hG2
  have q1_ : u2.heap.size < u2.heap.size + 1 + 1 + 1 := by omega
  have q2_ : u2.heap.size < u2.heap.size + 1 + 1 := by omega
  have q3_ : u2.heap.size < u2.heap.size + 1 := by omega
  go_wp2_with fail
  try simp only [Exit.inBlock, Exit.then]
  refine bodyPost_ret (results_cell rfl rfl (by first | (refine scan_ld0 _ _ _ _ _ _ _ _ _ _ _ _ _ _ _ _ _ ?_; simp; done) | (refine scan_gld0 _ _ _ _ _ _ _ _ _ _ _ _ _ _ _ _ _ _ ?_; simp; done) | (refine scan_ld1 _ _ _ _ _ _ _ _ _ _ _ _ _ _ _ _ _ _ ?_; simp; done) | (refine scan_gld1 _ _ _ _ _ _ _ _ _ _ _ _ _ _ _ _ _ _ _ ?_; simp; done) | (refine scan_ld2 _ _ _ _ _ _ _ _ _ _ _ _ _ _ _ _ _ _ _ ?_; simp; done) | (refine scan_gld2 _ _ _ _ _ _ _ _ _ _ _ _ _ _ _ _ _ _ _ _ ?_; simp; done) | (refine scan_ld3 _ _ _ _ _ _ _ _ _ _ _ _ _ _ _ _ _ _ _ _ ?_; simp; done) | (refine scan_gld3 _ _ _ _ _ _ _ _ _ _ _ _ _ _ _ _ _ _ _ _ _ ?_; simp; done))) rfl ?_
  exact ⟨rfl, by repeat (first | exact hG2 | refine Grw.alloc ?_ _ | refine Grw.ga ?_ _)⟩
set_option maxHeartbeats 2000000 in
set_option maxRecDepth 100000 in
theorem step_4py (l0 l1 l2 l3 l4 l5 l6 l7 N k dg va te pa fo c : Int) (h0 : 0 ≤ c) (h1 : c < 256) (hx : digV c 16 < 0) (hc : c = 46) (hf : ¬ (te < 0 ∨ ¬ (N = 6 ∧ k < 0 ∨ N ≤ 5 ∧ 0 ≤ k))) (w : World) :
    Calls Tryz.prog 40 #[sv l0 l1 l2 l3 l4 l5 l6 l7 N k 4 dg va te pa fo, .int .u8 c] w fun e w' => e = .returned (sv l0 l1 l2 l3 l4 l5 l6 l7 N k 5 dg va te 1 te) ∧ Grw w w' := by
  subst hc
  go_enter Tryz.func40, Tryz.ntmps40
  go_wp2_with fail
  refine (refDigit_drew 46 h0 h1 _).mono ?_
  rintro e w1 ⟨rfl, m1, rfl⟩
  simp only [drewN_alloc, GA_drewN, GA_GA]
  obtain ⟨u1, hu, hz, hG1⟩ := drewN_grw w m1
  rw [← hu, ← hz]
  clear hu hz
  go_wp2_with fail
  refine (dotted_walk _ _ _ _ _ _ _ _ _ _ _ _ _ _ _ _ _).mono ?_
  rintro e w2 ⟨rfl, m2, g2, rfl⟩
  rw [if_neg hf]
  simp only [drewN_alloc, GA_drewN, GA_GA]
  obtain ⟨u2, hu, hz, hG2⟩ := drewN_grw u1 m2
  rw [← hu, ← hz]
  clear hu hz
  replace hG2 : Grw w u2 := hG1.trans hG2
  have q1_ : u2.heap.size < u2.heap.size + 1 + 1 + 1 := by omega
  have q2_ : u2.heap.size < u2.heap.size + 1 + 1 := by omega
  have q3_ : u2.heap.size < u2.heap.size + 1 := by omega
  go_wp2_with fail
  try simp only [Exit.inBlock, Exit.then]
  refine bodyPost_ret (results_cell rfl rfl (by first | (refine scan_ld0 _ _ _ _ _ _ _ _ _ _ _ _ _ _ _ _ _ ?_; simp; done) | (refine scan_gld0 _ _ _ _ _ _ _ _ _ _ _ _ _ _ _ _ _ _ ?_; simp; done) | (refine scan_ld1 _ _ _ _ _ _ _ _ _ _ _ _ _ _ _ _ _ _ ?_; simp; done) | (refine scan_gld1 _ _ _ _ _ _ _ _ _ _ _ _ _ _ _ _ _ _ _ ?_; simp; done) | (refine scan_ld2 _ _ _ _ _ _ _ _ _ _ _ _ _ _ _ _ _ _ _ ?_; simp; done) | (refine scan_gld2 _ _ _ _ _ _ _ _ _ _ _ _ _ _ _ _ _ _ _ _ ?_; simp; done) | (refine scan_ld3 _ _ _ _ _ _ _ _ _ _ _ _ _ _ _ _ _ _ _ _ ?_; simp; done) | (refine scan_gld3 _ _ _ _ _ _ _ _ _ _ _ _ _ _ _ _ _ _ _ _ _ ?_; simp; done))) rfl ?_
  exact ⟨rfl, by repeat (first | exact hG2 | refine Grw.alloc ?_ _ | refine Grw.ga ?_ _)⟩
set_option maxHeartbeats 2000000 in
set_option maxRecDepth 100000 in
theorem step_4z (l0 l1 l2 l3 l4 l5 l6 l7 N k dg va te pa fo c : Int) (h0 : 0 ≤ c) (h1 : c < 256) (hx : digV c 16 < 0) (hc : (c == 58) = false) (hs : (c == 46) = false) (w : World) :
    Calls Tryz.prog 40 #[sv l0 l1 l2 l3 l4 l5 l6 l7 N k 4 dg va te pa fo, .int .u8 c] w fun e w' => e = .returned (sv l0 l1 l2 l3 l4 l5 l6 l7 N k 7 dg va te pa fo) ∧ Grw w w' := by
  go_enter Tryz.func40, Tryz.ntmps40
  go_wp2_with fail
  refine (refDigit_drew c h0 h1 _).mono ?_
  rintro e w1 ⟨rfl, m1, rfl⟩
  simp only [drewN_alloc, GA_drewN, GA_GA]
  obtain ⟨u1, hu, hz, hG1⟩ := drewN_grw w m1
  rw [← hu, ← hz]
  clear hu hz
  go_wp2_with fail
  try simp only [Exit.inBlock, Exit.then]
  refine bodyPost_ret (results_cell rfl rfl (by first | (refine scan_ld0 _ _ _ _ _ _ _ _ _ _ _ _ _ _ _ _ _ ?_; simp; done) | (refine scan_gld0 _ _ _ _ _ _ _ _ _ _ _ _ _ _ _ _ _ _ ?_; simp; done) | (refine scan_ld1 _ _ _ _ _ _ _ _ _ _ _ _ _ _ _ _ _ _ ?_; simp; done) | (refine scan_gld1 _ _ _ _ _ _ _ _ _ _ _ _ _ _ _ _ _ _ _ ?_; simp; done) | (refine scan_ld2 _ _ _ _ _ _ _ _ _ _ _ _ _ _ _ _ _ _ _ ?_; simp; done) | (refine scan_gld2 _ _ _ _ _ _ _ _ _ _ _ _ _ _ _ _ _ _ _ _ ?_; simp; done) | (refine scan_ld3 _ _ _ _ _ _ _ _ _ _ _ _ _ _ _ _ _ _ _ _ ?_; simp; done) | (refine scan_gld3 _ _ _ _ _ _ _ _ _ _ _ _ _ _ _ _ _ _ _ _ _ ?_; simp; done))) rfl ?_
  exact ⟨rfl, by repeat (first | exact hG1 | refine Grw.alloc ?_ _ | refine Grw.ga ?_ _)⟩
set_option maxHeartbeats 2000000 in
set_option maxRecDepth 100000 in
theorem step_5d (l0 l1 l2 l3 l4 l5 l6 l7 N k dg va te pa fo c : Int) (h0 : 0 ≤ c) (h1 : c < 256) (a : 48 ≤ c) (b : c ≤ 57) (w : World) :
    Calls Tryz.prog 40 #[sv l0 l1 l2 l3 l4 l5 l6 l7 N k 5 dg va te pa fo, .int .u8 c] w fun e w' => e = .returned (sv l0 l1 l2 l3 l4 l5 l6 l7 N k 6 1 va (c - 48) pa fo) ∧ Grw w w' := by
  go_enter Tryz.func40, Tryz.ntmps40
  go_wp2_with fail
  refine (refDigit_drew c h0 h1 _).mono ?_
  rintro e w1 ⟨rfl, m1, rfl⟩
  simp only [drewN_alloc, GA_drewN, GA_GA]
  obtain ⟨u1, hu, hz, hG1⟩ := drewN_grw w m1
  rw [← hu, ← hz]
  clear hu hz
  go_wp2_with fail
  try simp only [Exit.inBlock, Exit.then]
  refine bodyPost_ret (results_cell rfl rfl (by first | (refine scan_ld0 _ _ _ _ _ _ _ _ _ _ _ _ _ _ _ _ _ ?_; simp; done) | (refine scan_gld0 _ _ _ _ _ _ _ _ _ _ _ _ _ _ _ _ _ _ ?_; simp; done) | (refine scan_ld1 _ _ _ _ _ _ _ _ _ _ _ _ _ _ _ _ _ _ ?_; simp; done) | (refine scan_gld1 _ _ _ _ _ _ _ _ _ _ _ _ _ _ _ _ _ _ _ ?_; simp; done) | (refine scan_ld2 _ _ _ _ _ _ _ _ _ _ _ _ _ _ _ _ _ _ _ ?_; simp; done) | (refine scan_gld2 _ _ _ _ _ _ _ _ _ _ _ _ _ _ _ _ _ _ _ _ ?_; simp; done) | (refine scan_ld3 _ _ _ _ _ _ _ _ _ _ _ _ _ _ _ _ _ _ _ _ ?_; simp; done) | (refine scan_gld3 _ _ _ _ _ _ _ _ _ _ _ _ _ _ _ _ _ _ _ _ _ ?_; simp; done))) rfl ?_
  exact ⟨rfl, by repeat (first | exact hG1 | refine Grw.alloc ?_ _ | refine Grw.ga ?_ _)⟩
set_option maxHeartbeats 2000000 in
set_option maxRecDepth 100000 in
theorem step_5y (l0 l1 l2 l3 l4 l5 l6 l7 N k dg va te pa fo c : Int) (h0 : 0 ≤ c) (h1 : c < 256) (a : c < 48) (w : World) :
    Calls Tryz.prog 40 #[sv l0 l1 l2 l3 l4 l5 l6 l7 N k 5 dg va te pa fo, .int .u8 c] w fun e w' => e = .returned (sv l0 l1 l2 l3 l4 l5 l6 l7 N k 7 dg va te pa fo) ∧ Grw w w' := by
  go_enter Tryz.func40, Tryz.ntmps40
  go_wp2_with fail
  refine (refDigit_drew c h0 h1 _).mono ?_
  rintro e w1 ⟨rfl, m1, rfl⟩
  simp only [drewN_alloc, GA_drewN, GA_GA]
  obtain ⟨u1, hu, hz, hG1⟩ := drewN_grw w m1
  rw [← hu, ← hz]
  clear hu hz
  go_wp2_with fail
  try simp only [Exit.inBlock, Exit.then]
  refine bodyPost_ret (results_cell rfl rfl (by first | (refine scan_ld0 _ _ _ _ _ _ _ _ _ _ _ _ _ _ _ _ _ ?_; simp; done) | (refine scan_gld0 _ _ _ _ _ _ _ _ _ _ _ _ _ _ _ _ _ _ ?_; simp; done) | (refine scan_ld1 _ _ _ _ _ _ _ _ _ _ _ _ _ _ _ _ _ _ ?_; simp; done) | (refine scan_gld1 _ _ _ _ _ _ _ _ _ _ _ _ _ _ _ _ _ _ _ ?_; simp; done) | (refine scan_ld2 _ _ _ _ _ _ _ _ _ _ _ _ _ _ _ _ _ _ _ ?_; simp; done) | (refine scan_gld2 _ _ _ _ _ _ _ _ _ _ _ _ _ _ _ _ _ _ _ _ ?_; simp; done) | (refine scan_ld3 _ _ _ _ _ _ _ _ _ _ _ _ _ _ _ _ _ _ _ _ ?_; simp; done) | (refine scan_gld3 _ _ _ _ _ _ _ _ _ _ _ _ _ _ _ _ _ _ _ _ _ ?_; simp; done))) rfl ?_
  exact ⟨rfl, by repeat (first | exact hG1 | refine Grw.alloc ?_ _ | refine Grw.ga ?_ _)⟩
set_option maxHeartbeats 2000000 in
set_option maxRecDepth 100000 in
theorem step_5z (l0 l1 l2 l3 l4 l5 l6 l7 N k dg va te pa fo c : Int) (h0 : 0 ≤ c) (h1 : c < 256) (b : 57 < c) (w : World) :
    Calls Tryz.prog 40 #[sv l0 l1 l2 l3 l4 l5 l6 l7 N k 5 dg va te pa fo, .int .u8 c] w fun e w' => e = .returned (sv l0 l1 l2 l3 l4 l5 l6 l7 N k 7 dg va te pa fo) ∧ Grw w w' := by
  go_enter Tryz.func40, Tryz.ntmps40
  go_wp2_with fail
  refine (refDigit_drew c h0 h1 _).mono ?_
  rintro e w1 ⟨rfl, m1, rfl⟩
  simp only [drewN_alloc, GA_drewN, GA_GA]
  obtain ⟨u1, hu, hz, hG1⟩ := drewN_grw w m1
  rw [← hu, ← hz]
  clear hu hz
  go_wp2_with fail
  try simp only [Exit.inBlock, Exit.then]
  refine bodyPost_ret (results_cell rfl rfl (by first | (refine scan_ld0 _ _ _ _ _ _ _ _ _ _ _ _ _ _ _ _ _ ?_; simp; done) | (refine scan_gld0 _ _ _ _ _ _ _ _ _ _ _ _ _ _ _ _ _ _ ?_; simp; done) | (refine scan_ld1 _ _ _ _ _ _ _ _ _ _ _ _ _ _ _ _ _ _ ?_; simp; done) | (refine scan_gld1 _ _ _ _ _ _ _ _ _ _ _ _ _ _ _ _ _ _ _ ?_; simp; done) | (refine scan_ld2 _ _ _ _ _ _ _ _ _ _ _ _ _ _ _ _ _ _ _ ?_; simp; done) | (refine scan_gld2 _ _ _ _ _ _ _ _ _ _ _ _ _ _ _ _ _ _ _ _ ?_; simp; done) | (refine scan_ld3 _ _ _ _ _ _ _ _ _ _ _ _ _ _ _ _ _ _ _ _ ?_; simp; done) | (refine scan_gld3 _ _ _ _ _ _ _ _ _ _ _ _ _ _ _ _ _ _ _ _ _ ?_; simp; done))) rfl ?_
  exact ⟨rfl, by repeat (first | exact hG1 | refine Grw.alloc ?_ _ | refine Grw.ga ?_ _)⟩
set_option maxHeartbeats 2000000 in
set_option maxRecDepth 100000 in
theorem step_6d (l0 l1 l2 l3 l4 l5 l6 l7 N k dg va te pa fo c : Int) (h0 : 0 ≤ c) (h1 : c < 256) (a : 48 ≤ c) (b : c ≤ 57) (d1 : 0 < dg) (d2 : dg ≤ 1000) (e0 : 0 < te) (e1 : te ≤ 255) (hm : 10 * te + (c - 48) ≤ 255) (w : World) :
    Calls Tryz.prog 40 #[sv l0 l1 l2 l3 l4 l5 l6 l7 N k 6 dg va te pa fo, .int .u8 c] w fun e w' => e = .returned (sv l0 l1 l2 l3 l4 l5 l6 l7 N k 6 (dg + 1) va (10 * te + (c - 48)) pa fo) ∧ Grw w w' := by
  go_enter Tryz.func40, Tryz.ntmps40
  go_wp2_with fail
  refine (refDigit_drew c h0 h1 _).mono ?_
  rintro e w1 ⟨rfl, m1, rfl⟩
  simp only [drewN_alloc, GA_drewN, GA_GA]
  obtain ⟨u1, hu, hz, hG1⟩ := drewN_grw w m1
  rw [← hu, ← hz]
  clear hu hz
  go_wp2_with fail
  try simp only [Exit.inBlock, Exit.then]
  refine bodyPost_ret (results_cell rfl rfl (by first | (refine scan_ld0 _ _ _ _ _ _ _ _ _ _ _ _ _ _ _ _ _ ?_; simp; done) | (refine scan_gld0 _ _ _ _ _ _ _ _ _ _ _ _ _ _ _ _ _ _ ?_; simp; done) | (refine scan_ld1 _ _ _ _ _ _ _ _ _ _ _ _ _ _ _ _ _ _ ?_; simp; done) | (refine scan_gld1 _ _ _ _ _ _ _ _ _ _ _ _ _ _ _ _ _ _ _ ?_; simp; done) | (refine scan_ld2 _ _ _ _ _ _ _ _ _ _ _ _ _ _ _ _ _ _ _ ?_; simp; done) | (refine scan_gld2 _ _ _ _ _ _ _ _ _ _ _ _ _ _ _ _ _ _ _ _ ?_; simp; done) | (refine scan_ld3 _ _ _ _ _ _ _ _ _ _ _ _ _ _ _ _ _ _ _ _ ?_; simp; done) | (refine scan_gld3 _ _ _ _ _ _ _ _ _ _ _ _ _ _ _ _ _ _ _ _ _ ?_; simp; done))) rfl ?_
  exact ⟨rfl, by repeat (first | exact hG1 | refine Grw.alloc ?_ _ | refine Grw.ga ?_ _)⟩
set_option maxHeartbeats 2000000 in
set_option maxRecDepth 100000 in
theorem step_6t (l0 l1 l2 l3 l4 l5 l6 l7 N k dg va te pa fo c : Int) (h0 : 0 ≤ c) (h1 : c < 256) (a : 48 ≤ c) (b : c ≤ 57) (d1 : 0 < dg) (e0 : te = 0) (w : World) :
    Calls Tryz.prog 40 #[sv l0 l1 l2 l3 l4 l5 l6 l7 N k 6 dg va te pa fo, .int .u8 c] w fun e w' => e = .returned (sv l0 l1 l2 l3 l4 l5 l6 l7 N k 7 dg va 0 pa fo) ∧ Grw w w' := by
  subst e0
  go_enter Tryz.func40, Tryz.ntmps40
  go_wp2_with fail
  refine (refDigit_drew c h0 h1 _).mono ?_
  rintro e w1 ⟨rfl, m1, rfl⟩
  simp only [drewN_alloc, GA_drewN, GA_GA]
  obtain ⟨u1, hu, hz, hG1⟩ := drewN_grw w m1
  rw [← hu, ← hz]
  clear hu hz
  go_wp2_with fail
  try simp only [Exit.inBlock, Exit.then]
  refine bodyPost_ret (results_cell rfl rfl (by first | (refine scan_ld0 _ _ _ _ _ _ _ _ _ _ _ _ _ _ _ _ _ ?_; simp; done) | (refine scan_gld0 _ _ _ _ _ _ _ _ _ _ _ _ _ _ _ _ _ _ ?_; simp; done) | (refine scan_ld1 _ _ _ _ _ _ _ _ _ _ _ _ _ _ _ _ _ _ ?_; simp; done) | (refine scan_gld1 _ _ _ _ _ _ _ _ _ _ _ _ _ _ _ _ _ _ _ ?_; simp; done) | (refine scan_ld2 _ _ _ _ _ _ _ _ _ _ _ _ _ _ _ _ _ _ _ ?_; simp; done) | (refine scan_gld2 _ _ _ _ _ _ _ _ _ _ _ _ _ _ _ _ _ _ _ _ ?_; simp; done) | (refine scan_ld3 _ _ _ _ _ _ _ _ _ _ _ _ _ _ _ _ _ _ _ _ ?_; simp; done) | (refine scan_gld3 _ _ _ _ _ _ _ _ _ _ _ _ _ _ _ _ _ _ _ _ _ ?_; simp; done))) rfl ?_
  exact ⟨rfl, by repeat (first | exact hG1 | refine Grw.alloc ?_ _ | refine Grw.ga ?_ _)⟩
set_option maxHeartbeats 2000000 in
set_option maxRecDepth 100000 in
theorem step_6m (l0 l1 l2 l3 l4 l5 l6 l7 N k dg va te pa fo c : Int) (h0 : 0 ≤ c) (h1 : c < 256) (a : 48 ≤ c) (b : c ≤ 57) (d1 : 0 < dg) (e0 : 0 < te) (e1 : te ≤ 255) (hm : 255 < 10 * te + (c - 48)) (w : World) :
    Calls Tryz.prog 40 #[sv l0 l1 l2 l3 l4 l5 l6 l7 N k 6 dg va te pa fo, .int .u8 c] w fun e w' => e = .returned (sv l0 l1 l2 l3 l4 l5 l6 l7 N k 7 dg va te pa fo) ∧ Grw w w' := by
  go_enter Tryz.func40, Tryz.ntmps40
  go_wp2_with fail
  refine (refDigit_drew c h0 h1 _).mono ?_
  rintro e w1 ⟨rfl, m1, rfl⟩
  simp only [drewN_alloc, GA_drewN, GA_GA]
  obtain ⟨u1, hu, hz, hG1⟩ := drewN_grw w m1
  rw [← hu, ← hz]
  clear hu hz
  go_wp2_with fail
  try simp only [Exit.inBlock, Exit.then]
  refine bodyPost_ret (results_cell rfl rfl (by first | (refine scan_ld0 _ _ _ _ _ _ _ _ _ _ _ _ _ _ _ _ _ ?_; simp; done) | (refine scan_gld0 _ _ _ _ _ _ _ _ _ _ _ _ _ _ _ _ _ _ ?_; simp; done) | (refine scan_ld1 _ _ _ _ _ _ _ _ _ _ _ _ _ _ _ _ _ _ ?_; simp; done) | (refine scan_gld1 _ _ _ _ _ _ _ _ _ _ _ _ _ _ _ _ _ _ _ ?_; simp; done) | (refine scan_ld2 _ _ _ _ _ _ _ _ _ _ _ _ _ _ _ _ _ _ _ ?_; simp; done) | (refine scan_gld2 _ _ _ _ _ _ _ _ _ _ _ _ _ _ _ _ _ _ _ _ ?_; simp; done) | (refine scan_ld3 _ _ _ _ _ _ _ _ _ _ _ _ _ _ _ _ _ _ _ _ ?_; simp; done) | (refine scan_gld3 _ _ _ _ _ _ _ _ _ _ _ _ _ _ _ _ _ _ _ _ _ ?_; simp; done))) rfl ?_
  exact ⟨rfl, by repeat (first | exact hG1 | refine Grw.alloc ?_ _ | refine Grw.ga ?_ _)⟩
set_option maxHeartbeats 2000000 in
set_option maxRecDepth 100000 in
theorem step_6y (l0 l1 l2 l3 l4 l5 l6 l7 N k dg va te pa fo c : Int) (h0 : 0 ≤ c) (h1 : c < 256) (a : c < 48) (hs : (c == 46) = false) (w : World) :
    Calls Tryz.prog 40 #[sv l0 l1 l2 l3 l4 l5 l6 l7 N k 6 dg va te pa fo, .int .u8 c] w fun e w' => e = .returned (sv l0 l1 l2 l3 l4 l5 l6 l7 N k 7 dg va te pa fo) ∧ Grw w w' := by
  go_enter Tryz.func40, Tryz.ntmps40
  go_wp2_with fail
  refine (refDigit_drew c h0 h1 _).mono ?_
  rintro e w1 ⟨rfl, m1, rfl⟩
  simp only [drewN_alloc, GA_drewN, GA_GA]
  obtain ⟨u1, hu, hz, hG1⟩ := drewN_grw w m1
  rw [← hu, ← hz]
  clear hu hz
  go_wp2_with fail
  try simp only [Exit.inBlock, Exit.then]
  refine bodyPost_ret (results_cell rfl rfl (by first | (refine scan_ld0 _ _ _ _ _ _ _ _ _ _ _ _ _ _ _ _ _ ?_; simp; done) | (refine scan_gld0 _ _ _ _ _ _ _ _ _ _ _ _ _ _ _ _ _ _ ?_; simp; done) | (refine scan_ld1 _ _ _ _ _ _ _ _ _ _ _ _ _ _ _ _ _ _ ?_; simp; done) | (refine scan_gld1 _ _ _ _ _ _ _ _ _ _ _ _ _ _ _ _ _ _ _ ?_; simp; done) | (refine scan_ld2 _ _ _ _ _ _ _ _ _ _ _ _ _ _ _ _ _ _ _ ?_; simp; done) | (refine scan_gld2 _ _ _ _ _ _ _ _ _ _ _ _ _ _ _ _ _ _ _ _ ?_; simp; done) | (refine scan_ld3 _ _ _ _ _ _ _ _ _ _ _ _ _ _ _ _ _ _ _ _ ?_; simp; done) | (refine scan_gld3 _ _ _ _ _ _ _ _ _ _ _ _ _ _ _ _ _ _ _ _ _ ?_; simp; done))) rfl ?_
  exact ⟨rfl, by repeat (first | exact hG1 | refine Grw.alloc ?_ _ | refine Grw.ga ?_ _)⟩
set_option maxHeartbeats 2000000 in
set_option maxRecDepth 100000 in
theorem step_6z (l0 l1 l2 l3 l4 l5 l6 l7 N k dg va te pa fo c : Int) (h0 : 0 ≤ c) (h1 : c < 256) (b : 57 < c) (w : World) :
    Calls Tryz.prog 40 #[sv l0 l1 l2 l3 l4 l5 l6 l7 N k 6 dg va te pa fo, .int .u8 c] w fun e w' => e = .returned (sv l0 l1 l2 l3 l4 l5 l6 l7 N k 7 dg va te pa fo) ∧ Grw w w' := by
  go_enter Tryz.func40, Tryz.ntmps40
  go_wp2_with fail
  refine (refDigit_drew c h0 h1 _).mono ?_
  rintro e w1 ⟨rfl, m1, rfl⟩
  simp only [drewN_alloc, GA_drewN, GA_GA]
  obtain ⟨u1, hu, hz, hG1⟩ := drewN_grw w m1
  rw [← hu, ← hz]
  clear hu hz
  go_wp2_with fail
  try simp only [Exit.inBlock, Exit.then]
  refine bodyPost_ret (results_cell rfl rfl (by first | (refine scan_ld0 _ _ _ _ _ _ _ _ _ _ _ _ _ _ _ _ _ ?_; simp; done) | (refine scan_gld0 _ _ _ _ _ _ _ _ _ _ _ _ _ _ _ _ _ _ ?_; simp; done) | (refine scan_ld1 _ _ _ _ _ _ _ _ _ _ _ _ _ _ _ _ _ _ ?_; simp; done) | (refine scan_gld1 _ _ _ _ _ _ _ _ _ _ _ _ _ _ _ _ _ _ _ ?_; simp; done) | (refine scan_ld2 _ _ _ _ _ _ _ _ _ _ _ _ _ _ _ _ _ _ _ ?_; simp; done) | (refine scan_gld2 _ _ _ _ _ _ _ _ _ _ _ _ _ _ _ _ _ _ _ _ ?_; simp; done) | (refine scan_ld3 _ _ _ _ _ _ _ _ _ _ _ _ _ _ _ _ _ _ _ _ ?_; simp; done) | (refine scan_gld3 _ _ _ _ _ _ _ _ _ _ _ _ _ _ _ _ _ _ _ _ _ ?_; simp; done))) rfl ?_
  exact ⟨rfl, by repeat (first | exact hG1 | refine Grw.alloc ?_ _ | refine Grw.ga ?_ _)⟩
set_option maxHeartbeats 2000000 in
set_option maxRecDepth 100000 in
theorem step_6s (l0 l1 l2 l3 l4 l5 l6 l7 N k dg va te pa fo c : Int) (h0 : 0 ≤ c) (h1 : c < 256) (p1 : pa < 3) (p0 : 0 ≤ pa) (f0 : 0 ≤ fo) (f1 : fo ≤ 16777215) (e0 : 0 ≤ te) (e1 : te ≤ 255) (hc : c = 46) (w : World) :
    Calls Tryz.prog 40 #[sv l0 l1 l2 l3 l4 l5 l6 l7 N k 6 dg va te pa fo, .int .u8 c] w fun e w' => e = .returned (sv l0 l1 l2 l3 l4 l5 l6 l7 N k 5 dg va te (pa + 1) (256 * fo + te)) ∧ Grw w w' := by
  subst hc
  go_enter Tryz.func40, Tryz.ntmps40
  go_wp2_with fail
  refine (refDigit_drew 46 h0 h1 _).mono ?_
  rintro e w1 ⟨rfl, m1, rfl⟩
  simp only [drewN_alloc, GA_drewN, GA_GA]
  obtain ⟨u1, hu, hz, hG1⟩ := drewN_grw w m1
  rw [← hu, ← hz]
  clear hu hz
  go_wp2_with fail
  try simp only [Exit.inBlock, Exit.then]
  refine bodyPost_ret (results_cell rfl rfl (by first | (refine scan_ld0 _ _ _ _ _ _ _ _ _ _ _ _ _ _ _ _ _ ?_; simp; done) | (refine scan_gld0 _ _ _ _ _ _ _ _ _ _ _ _ _ _ _ _ _ _ ?_; simp; done) | (refine scan_ld1 _ _ _ _ _ _ _ _ _ _ _ _ _ _ _ _ _ _ ?_; simp; done) | (refine scan_gld1 _ _ _ _ _ _ _ _ _ _ _ _ _ _ _ _ _ _ _ ?_; simp; done) | (refine scan_ld2 _ _ _ _ _ _ _ _ _ _ _ _ _ _ _ _ _ _ _ ?_; simp; done) | (refine scan_gld2 _ _ _ _ _ _ _ _ _ _ _ _ _ _ _ _ _ _ _ _ ?_; simp; done) | (refine scan_ld3 _ _ _ _ _ _ _ _ _ _ _ _ _ _ _ _ _ _ _ _ ?_; simp; done) | (refine scan_gld3 _ _ _ _ _ _ _ _ _ _ _ _ _ _ _ _ _ _ _ _ _ ?_; simp; done))) rfl ?_
  exact ⟨rfl, by repeat (first | exact hG1 | refine Grw.alloc ?_ _ | refine Grw.ga ?_ _)⟩
set_option maxHeartbeats 2000000 in
set_option maxRecDepth 100000 in
theorem step_6r (l0 l1 l2 l3 l4 l5 l6 l7 N k dg va te pa fo c : Int) (h0 : 0 ≤ c) (h1 : c < 256) (p1 : 3 ≤ pa) (hc : c = 46) (w : World) :
    Calls Tryz.prog 40 #[sv l0 l1 l2 l3 l4 l5 l6 l7 N k 6 dg va te pa fo, .int .u8 c] w fun e w' => e = .returned (sv l0 l1 l2 l3 l4 l5 l6 l7 N k 7 dg va te pa fo) ∧ Grw w w' := by
  subst hc
  go_enter Tryz.func40, Tryz.ntmps40
  go_wp2_with fail
  refine (refDigit_drew 46 h0 h1 _).mono ?_
  rintro e w1 ⟨rfl, m1, rfl⟩
  simp only [drewN_alloc, GA_drewN, GA_GA]
  obtain ⟨u1, hu, hz, hG1⟩ := drewN_grw w m1
  rw [← hu, ← hz]
  clear hu hz
  go_wp2_with fail
  try simp only [Exit.inBlock, Exit.then]
  refine bodyPost_ret (results_cell rfl rfl (by first | (refine scan_ld0 _ _ _ _ _ _ _ _ _ _ _ _ _ _ _ _ _ ?_; simp; done) | (refine scan_gld0 _ _ _ _ _ _ _ _ _ _ _ _ _ _ _ _ _ _ ?_; simp; done) | (refine scan_ld1 _ _ _ _ _ _ _ _ _ _ _ _ _ _ _ _ _ _ ?_; simp; done) | (refine scan_gld1 _ _ _ _ _ _ _ _ _ _ _ _ _ _ _ _ _ _ _ ?_; simp; done) | (refine scan_ld2 _ _ _ _ _ _ _ _ _ _ _ _ _ _ _ _ _ _ _ ?_; simp; done) | (refine scan_gld2 _ _ _ _ _ _ _ _ _ _ _ _ _ _ _ _ _ _ _ _ ?_; simp; done) | (refine scan_ld3 _ _ _ _ _ _ _ _ _ _ _ _ _ _ _ _ _ _ _ _ ?_; simp; done) | (refine scan_gld3 _ _ _ _ _ _ _ _ _ _ _ _ _ _ _ _ _ _ _ _ _ ?_; simp; done))) rfl ?_
  exact ⟨rfl, by repeat (first | exact hG1 | refine Grw.alloc ?_ _ | refine Grw.ga ?_ _)⟩
theorem first_eq (L : Nat → Int) (N k pa fo c : Int) (u : Unit) : sv (L 0) (L 1) (L 2) (L 3) (L 4) (L 5) (L 6) (L 7) N k 4 1 (digV c 16) (tenM 0 0 c) pa fo =
    scV ⟨L, N, k, 4, 0 + 1, 16 * 0 + digV c 16, if c < 48 ∨ 57 < c ∨ (0 : Int) < 0 ∧ (0 : Int) = 0 ∨ (0 : Int) < 0 ∨ 255 < 10 * 0 + (c - 48) then -1 else 10 * 0 + (c - 48), pa, fo⟩ := by
  show _ = sv (L 0) (L 1) (L 2) (L 3) (L 4) (L 5) (L 6) (L 7) N k 4 (0 + 1) (16 * 0 + digV c 16) (if c < 48 ∨ 57 < c ∨ (0 : Int) < 0 ∧ (0 : Int) = 0 ∨ (0 : Int) < 0 ∨ 255 < 10 * 0 + (c - 48) then -1 else 10 * 0 + (c - 48)) pa fo
  rw [show 16 * (0 : Int) + digV c 16 = digV c 16 by omega]
  rfl
/-- What is known of a scan, that a step may be walked. -/
structure ScOk (x : Sc) : Prop where
  n0 : 0 ≤ x.N
  n7 : x.N ≤ 7
  s0 : 0 ≤ x.st
  s6 : x.st ≤ 6
  a4 : x.st = 4 → x.parts = 0 ∧ 0 ≤ x.digs ∧ x.digs ≤ 100 ∧ 0 ≤ x.val ∧ x.val ≤ 65535 ∧ -1 ≤ x.ten ∧ x.ten ≤ 255
  a6 : x.st = 6 → 0 < x.digs ∧ x.digs ≤ 100 ∧ 0 ≤ x.ten ∧ x.ten ≤ 255 ∧ 0 ≤ x.parts ∧ 0 ≤ x.four ∧ x.four ≤ 16777215
theorem sc_ret {w W : World} {e : Ending} {y : Sc} {v : Value} (h : e = .returned v ∧ Grw w W) (hv : v = scV y) : e = .returned (scV y) ∧ Grw w W := ⟨h.1.trans (by rw [hv]), h.2⟩
theorem step_walk (x : Sc) (h : ScOk x) (c : Int) (h0 : 0 ≤ c) (h1 : c < 256) (w : World) :
    Calls Tryz.prog 40 #[scV x, .int .u8 c] w fun e w' => e = .returned (scV (x.step c)) ∧ Grw w w' := by
  obtain ⟨L, N, k, st, dg, va, te, pa, fo⟩ := x
  obtain ⟨n0, n7, s0, s6, a4, a6⟩ := h
  dsimp only at n0 n7 s0 s6 a4 a6
  have x0 := digV_lo c 16
  have x1 : digV c 16 ≤ 15 := by have := digV_lt (b := c) (base := 16) (by decide); omega
  have e16 := digV16 c
  have hst : st = 0 ∨ st = 1 ∨ st = 2 ∨ st = 3 ∨ st = 4 ∨ st = 5 ∨ st = 6 := by omega
  unfold Sc.step Sc.first Sc.more Sc.dotted Sc.closed Sc.bad Sc.room Sc.fits
  dsimp only
  by_cases hc : c = 58
  · have hcb : (c == 58) = true := beq_iff_eq.2 hc
    have hx : digV c 16 < 0 := by rw [e16, hc]; decide
    rcases hst with rfl | rfl | rfl | rfl | rfl | rfl | rfl
    · rw [if_pos rfl, if_pos hc]
      exact (step_0c _ _ _ _ _ _ _ _ N k dg va te pa fo c h0 h1 hc w).mono fun _ _ q => sc_ret q rfl
    · rw [if_neg (by decide), if_pos rfl, if_pos hc]
      exact (step_1c _ _ _ _ _ _ _ _ N k dg va te pa fo c h0 h1 hc w).mono fun _ _ q => sc_ret q rfl
    · rw [if_neg (by decide), if_neg (by decide), if_pos rfl]
      by_cases hk : k < 0
      · rw [if_pos ⟨hc, hk, n7⟩]
        exact (step_2c _ _ _ _ _ _ _ _ N k dg va te pa fo c h0 h1 hk n7 hc w).mono fun _ _ q => sc_ret q rfl
      · rw [if_neg (by omega)]
        rw [if_pos (.inl hx)]
        exact (step_2gn _ _ _ _ _ _ _ _ N k dg va te pa fo c h0 h1 n0 n7 x0 x1 (by omega) hcb (.inl hx) w).mono fun _ _ q => sc_ret q rfl
    · rw [if_neg (by decide), if_neg (by decide), if_neg (by decide), if_pos rfl, if_pos (.inl hx)]
      exact (step_3n _ _ _ _ _ _ _ _ N k dg va te pa fo c h0 h1 n0 n7 x0 x1 (.inl hx) w).mono fun _ _ q => sc_ret q rfl
    · obtain ⟨rfl, d0, d1, v0, v1, t0, t1⟩ := a4 rfl
      rw [if_neg (by decide), if_neg (by decide), if_neg (by decide), if_neg (by decide), if_pos rfl, if_neg (by omega), if_pos ⟨hc, rfl⟩]
      by_cases hN : N = 7
      · rw [if_pos (.inl (by omega))]
        subst hN
        exact (step_4c8 _ _ _ _ _ _ _ _ 7 k dg va te 0 fo c h0 h1 (by decide) (by decide) v0 v1 hx rfl rfl hc w).mono fun _ _ q => sc_ret q rfl
      · by_cases hk : 0 ≤ k
        · by_cases h6 : N = 6
          · rw [if_pos (.inr (by omega))]
            subst h6
            exact (step_4c7 _ _ _ _ _ _ _ _ 6 k dg va te 0 fo c h0 h1 (by decide) (by decide) v0 v1 hx rfl hk rfl hc w).mono fun _ _ q => sc_ret q rfl
          · rw [if_neg (by omega)]
            exact (step_4ck _ _ _ _ _ _ _ _ N k dg va te 0 fo c h0 h1 n0 n7 v0 v1 hx rfl hk (by omega) (beq_eq_false_iff_ne.2 (by omega)) hc w).mono fun _ _ q => sc_ret q (by simp only [cl_eq v0 v1]; rfl)
        · rw [if_neg (by omega)]
          exact (step_4cn _ _ _ _ _ _ _ _ N k dg va te 0 fo c h0 h1 n0 n7 v0 v1 hx rfl (by omega) (by omega) hc w).mono fun _ _ q => sc_ret q (by simp only [cl_eq v0 v1]; rfl)
    · rw [if_neg (by decide), if_neg (by decide), if_neg (by decide), if_neg (by decide), if_neg (by decide), if_pos rfl, if_neg (by omega)]
      exact (step_5z _ _ _ _ _ _ _ _ N k dg va te pa fo c h0 h1 (by omega) w).mono fun _ _ q => sc_ret q rfl
    · rw [if_neg (by decide), if_neg (by decide), if_neg (by decide), if_neg (by decide), if_neg (by decide), if_neg (by decide), if_pos rfl, if_neg (by omega), if_neg (by omega)]
      exact (step_6z _ _ _ _ _ _ _ _ N k dg va te pa fo c h0 h1 (by omega) w).mono fun _ _ q => sc_ret q rfl
  · have hcb : (c == 58) = false := beq_eq_false_iff_ne.2 hc
    rcases hst with rfl | rfl | rfl | rfl | rfl | rfl | rfl
    · rw [if_pos rfl, if_neg hc]
      by_cases hf : digV c 16 < 0 ∨ (if 0 ≤ k then 7 - N else 8 - N) < 1
      · rw [if_pos hf]
        exact (step_0n _ _ _ _ _ _ _ _ N k dg va te pa fo c h0 h1 n0 n7 x0 x1 hcb hf w).mono fun _ _ q => sc_ret q rfl
      · rw [if_neg hf]
        exact (step_0y _ _ _ _ _ _ _ _ N k dg va te pa fo c h0 h1 n0 n7 x0 x1 hcb hf w).mono fun _ _ q => sc_ret q (first_eq L N k pa fo c ())
    · rw [if_neg (by decide), if_pos rfl, if_neg hc]
      exact (step_1 _ _ _ _ _ _ _ _ N k dg va te pa fo c h0 h1 hcb w).mono fun _ _ q => sc_ret q rfl
    · rw [if_neg (by decide), if_neg (by decide), if_pos rfl, if_neg (by omega)]
      by_cases hf : digV c 16 < 0 ∨ (if 0 ≤ k then 7 - N else 8 - N) < 1
      · rw [if_pos hf]
        exact (step_2n _ _ _ _ _ _ _ _ N k dg va te pa fo c h0 h1 n0 n7 x0 x1 hcb hf w).mono fun _ _ q => sc_ret q rfl
      · rw [if_neg hf]
        exact (step_2y _ _ _ _ _ _ _ _ N k dg va te pa fo c h0 h1 n0 n7 x0 x1 hcb hf w).mono fun _ _ q => sc_ret q (first_eq L N k pa fo c ())
    · rw [if_neg (by decide), if_neg (by decide), if_neg (by decide), if_pos rfl]
      by_cases hf : digV c 16 < 0 ∨ (if 0 ≤ k then 7 - N else 8 - N) < 1
      · rw [if_pos hf]
        exact (step_3n _ _ _ _ _ _ _ _ N k dg va te pa fo c h0 h1 n0 n7 x0 x1 hf w).mono fun _ _ q => sc_ret q rfl
      · rw [if_neg hf]
        exact (step_3y _ _ _ _ _ _ _ _ N k dg va te pa fo c h0 h1 n0 n7 x0 x1 hf w).mono fun _ _ q => sc_ret q (first_eq L N k pa fo c ())
    · obtain ⟨rfl, d0, d1, v0, v1, t0, t1⟩ := a4 rfl
      rw [if_neg (by decide), if_neg (by decide), if_neg (by decide), if_neg (by decide), if_pos rfl]
      by_cases hx : 0 ≤ digV c 16
      · rw [if_pos hx]
        by_cases h4 : dg = 4
        · rw [if_pos h4]
          subst h4
          exact (step_4x _ _ _ _ _ _ _ _ N k 4 va te 0 fo c h0 h1 hx rfl w).mono fun _ _ q => sc_ret q rfl
        · rw [if_neg h4]
          exact (step_4m _ _ _ _ _ _ _ _ N k dg va te 0 fo c h0 h1 n0 n7 x0 x1 d0 d1 v0 v1 t0 t1 hx (beq_eq_false_iff_ne.2 h4) w).mono fun _ _ q => sc_ret q rfl
      · rw [if_neg hx, if_neg (by omega)]
        by_cases hs : c = 46
        · rw [if_pos hs]
          have hfe : (te < 0 ∨ decide (N = 6 ∧ k < 0 ∨ N ≤ 5 ∧ 0 ≤ k) = false) ↔ (te < 0 ∨ ¬ (N = 6 ∧ k < 0 ∨ N ≤ 5 ∧ 0 ≤ k)) := by rw [decide_eq_false_iff_not]
          by_cases hf : te < 0 ∨ ¬ (N = 6 ∧ k < 0 ∨ N ≤ 5 ∧ 0 ≤ k)
          · rw [if_pos (hfe.2 hf)]
            exact (step_4pn _ _ _ _ _ _ _ _ N k dg va te 0 fo c h0 h1 (by omega) hs hf w).mono fun _ _ q => sc_ret q rfl
          · rw [if_neg (fun z => hf (hfe.1 z))]
            exact (step_4py _ _ _ _ _ _ _ _ N k dg va te 0 fo c h0 h1 (by omega) hs hf w).mono fun _ _ q => sc_ret q rfl
        · rw [if_neg hs]
          exact (step_4z _ _ _ _ _ _ _ _ N k dg va te 0 fo c h0 h1 (by omega) hcb (beq_eq_false_iff_ne.2 hs) w).mono fun _ _ q => sc_ret q rfl
    · rw [if_neg (by decide), if_neg (by decide), if_neg (by decide), if_neg (by decide), if_neg (by decide), if_pos rfl]
      by_cases a : 48 ≤ c
      · by_cases b : c ≤ 57
        · rw [if_pos ⟨a, b⟩]
          exact (step_5d _ _ _ _ _ _ _ _ N k dg va te pa fo c h0 h1 a b w).mono fun _ _ q => sc_ret q rfl
        · rw [if_neg (by omega)]
          exact (step_5z _ _ _ _ _ _ _ _ N k dg va te pa fo c h0 h1 (by omega) w).mono fun _ _ q => sc_ret q rfl
      · rw [if_neg (by omega)]
        exact (step_5y _ _ _ _ _ _ _ _ N k dg va te pa fo c h0 h1 (by omega) w).mono fun _ _ q => sc_ret q rfl
    · obtain ⟨d6', d1, t6', t1, p0, f0, f1⟩ := a6 rfl
      rw [if_neg (by decide), if_neg (by decide), if_neg (by decide), if_neg (by decide), if_neg (by decide), if_neg (by decide), if_pos rfl]
      by_cases hs : c = 46
      · rw [if_neg (by omega)]
        by_cases hp : pa < 3
        · rw [if_pos ⟨hs, hp⟩]
          exact (step_6s _ _ _ _ _ _ _ _ N k dg va te pa fo c h0 h1 hp p0 f0 f1 t6' t1 hs w).mono fun _ _ q => sc_ret q rfl
        · rw [if_neg (by omega)]
          exact (step_6r _ _ _ _ _ _ _ _ N k dg va te pa fo c h0 h1 (by omega) hs w).mono fun _ _ q => sc_ret q rfl
      · by_cases a : 48 ≤ c
        · by_cases b : c ≤ 57
          · by_cases ht : te = 0
            · rw [if_neg (by omega), if_neg (by omega)]
              subst ht
              exact (step_6t _ _ _ _ _ _ _ _ N k dg va 0 pa fo c h0 h1 a b d6' rfl w).mono fun _ _ q => sc_ret q rfl
            · by_cases hm : 10 * te + (c - 48) ≤ 255
              · rw [if_pos ⟨a, b, d6', by omega, hm⟩]
                exact (step_6d _ _ _ _ _ _ _ _ N k dg va te pa fo c h0 h1 a b d6' (by omega) (by omega) t1 hm w).mono fun _ _ q => sc_ret q rfl
              · rw [if_neg (by omega), if_neg (by omega)]
                exact (step_6m _ _ _ _ _ _ _ _ N k dg va te pa fo c h0 h1 a b d6' (by omega) t1 (by omega) w).mono fun _ _ q => sc_ret q rfl
          · rw [if_neg (by omega), if_neg (by omega)]
            exact (step_6z _ _ _ _ _ _ _ _ N k dg va te pa fo c h0 h1 (by omega) w).mono fun _ _ q => sc_ret q rfl
        · rw [if_neg (by omega), if_neg (by omega)]
          exact (step_6y _ _ _ _ _ _ _ _ N k dg va te pa fo c h0 h1 (by omega) (beq_eq_false_iff_ne.2 hs) w).mono fun _ _ q => sc_ret q rfl
end Go.Proofs.YtcgdjnmfeibnoaaGreatDoor
/-! SixWhole -/
namespace Go.Proofs.YtcgdjnmfeibnoaaGreatDoor
open Go.RowKit Go.Proofs.YtcgdjnmfeibnoaaGreatDoorW.PrintWords Go.Proofs.YtcgdjnmfeibnoaaGreatDoor.X
set_option linter.unusedVariables false
set_option linter.unusedSimpArgs false
abbrev scC (x : Sc) : Array Value := #[.int .u16 (x.L 0), .int .u16 (x.L 1), .int .u16 (x.L 2), .int .u16 (x.L 3), .int .u16 (x.L 4), .int .u16 (x.L 5), .int .u16 (x.L 6), .int .u16 (x.L 7), .int .i64 x.N, .int .i64 x.skip, .int .i64 x.st, .int .i64 x.digs, .int .i64 x.val, .int .i64 x.ten, .int .i64 x.parts, .int .i64 x.four]
def ar8 (f : Nat → Int) : Array Value := #[.int .u16 (f 0), .int .u16 (f 1), .int .u16 (f 2), .int .u16 (f 3), .int .u16 (f 4), .int .u16 (f 5), .int .u16 (f 6), .int .u16 (f 7)]
theorem ar8_get (f : Nat → Int) : ∀ (n : Nat), n < 8 → (ar8 f)[n]? = some (.int .u16 (f n))
  | 0, _ => rfl | 1, _ => rfl | 2, _ => rfl | 3, _ => rfl | 4, _ => rfl | 5, _ => rfl | 6, _ => rfl | 7, _ => rfl
  | n + 8, h => absurd h (by omega)
theorem ar8_set (f : Nat → Int) (v : Int) : ∀ (n : Nat), n < 8 → (ar8 f).setIfInBounds n (.int .u16 v) = ar8 (fun j => if j = n then v else f j)
  | 0, _ => rfl | 1, _ => rfl | 2, _ => rfl | 3, _ => rfl | 4, _ => rfl | 5, _ => rfl | 6, _ => rfl | 7, _ => rfl
  | n + 8, h => absurd h (by omega)
theorem ar8_ext {f g : Nat → Int} (h : ∀ j, j < 8 → f j = g j) : ar8 f = ar8 g := by
  unfold ar8
  rw [h 0 (by decide), h 1 (by decide), h 2 (by decide), h 3 (by decide), h 4 (by decide), h 5 (by decide), h 6 (by decide), h 7 (by decide)]
theorem scC_get (x : Sc) : ∀ (n : Nat), n < 8 → (scC x)[n]? = some (.int .u16 (x.L n))
  | 0, _ => rfl | 1, _ => rfl | 2, _ => rfl | 3, _ => rfl | 4, _ => rfl | 5, _ => rfl | 6, _ => rfl | 7, _ => rfl
  | n + 8, h => absurd h (by omega)
theorem scC_set (x : Sc) (v : Int) : ∀ (n : Nat), n < 8 → (scC x).setIfInBounds n (.int .u16 v) = scC { x with L := fun j => if j = n then v else x.L j }
  | 0, _ => rfl | 1, _ => rfl | 2, _ => rfl | 3, _ => rfl | 4, _ => rfl | 5, _ => rfl | 6, _ => rfl | 7, _ => rfl
  | n + 8, h => absurd h (by omega)
theorem scC_ext {x y : Sc} (h : ∀ j, j < 8 → x.L j = y.L j) (e1 : x.N = y.N) (e2 : x.skip = y.skip) (e3 : x.st = y.st) (e4 : x.digs = y.digs) (e5 : x.val = y.val) (e6 : x.ten = y.ten) (e7 : x.parts = y.parts) (e8 : x.four = y.four) : scC x = scC y := by
  unfold scC
  rw [h 0 (by decide), h 1 (by decide), h 2 (by decide), h 3 (by decide), h 4 (by decide), h 5 (by decide), h 6 (by decide), h 7 (by decide), e1, e2, e3, e4, e5, e6, e7, e8]
/-- The boxes ahead of the last part. -/
structure WR (w : World) (y : Sc) (b1 b2 : Nat) (W : World) : Prop where
  k1 : W.heap[b1]? = some (.cells (scC y) 87 (0, 0))
  k2 : W.heap[b2]? = some (.cells (ar8 fun _ => 0) 30 (0, 0))
  l1 : w.heap.size ≤ b1
  l2 : w.heap.size ≤ b2
  ne : b1 ≠ b2
  below : Below w.heap.size w W
structure LR (w : World) (y : Sc) (b1 b2 b5 : Nat) (f : Nat → Int) (W : World) : Prop where
  k1 : W.heap[b1]? = some (.cells (scC y) 87 (0, 0))
  k2 : W.heap[b2]? = some (.cells (ar8 fun _ => 0) 30 (0, 0))
  k5 : W.heap[b5]? = some (.cells (ar8 f) 30 (0, 0))
  l1 : w.heap.size ≤ b1
  l2 : w.heap.size ≤ b2
  l5 : w.heap.size ≤ b5
  n12 : b1 ≠ b2
  n15 : b1 ≠ b5
  n25 : b2 ≠ b5
  below : Below w.heap.size w W
theorem LR.put {w W : World} {y : Sc} {b1 b2 b5 : Nat} {f g : Nat → Int} (h : LR w y b1 b2 b5 f W) (n : Nat) (hn : n < 8) (v : Int) (hg : ∀ j, j < 8 → (if j = n then v else f j) = g j) : LR w y b1 b2 b5 g (W.setCell ⟨b5, n, none⟩ (.int .u16 v)) :=
  ⟨blk_far h.k1 h.n15 _, blk_far h.k2 h.n25 _, blk_put h.k5 n _ ((ar8_set f v n hn).trans (ar8_ext hg)), h.l1, h.l2, h.l5, h.n12, h.n15, h.n25, h.below.setCell h.l5 _⟩
theorem WR.new {w W : World} {y : Sc} {b1 b2 : Nat} (h : WR w y b1 b2 W) : LR w y b1 b2 W.heap.size (fun _ => 0) (W.alloc (.cells #[.int .u16 0, .int .u16 0, .int .u16 0, .int .u16 0, .int .u16 0, .int .u16 0, .int .u16 0, .int .u16 0] 30)) :=
  ⟨blk_alloc h.k1 _, blk_alloc h.k2 _, blk_new _ _, h.l1, h.l2, h.below.size, h.ne, Nat.ne_of_lt (blk_lt h.k1), Nat.ne_of_lt (blk_lt h.k2), h.below.alloc h.below.size _⟩
theorem results_cell2 {fn : Func} {t u : Tmp} {ty : TypeId} {P : Program} {tmps : Array Value} {w : World} {a : Addr} {v : Value} (h : fn.results = #[.cell t ty, .tmp u]) (ht : tmps.getD t undef = .pointer (some a)) (hl : (loadVar ty a).run P w = .ok v w) :
    (results fn tmps).run P w = .ok (.tuple #[v, tmps.getD u undef]) w := by
  have ht' := ht
  simp at ht'
  simp [results, h, ht', asAddr, hl]
theorem blk_put8 {W : World} {b : Nat} {T : TypeId} {g : Nat → Int} (h : W.heap[b]? = some (.cells (ar8 g) T (0, 0))) (f : Nat → Int) :
    ((((((((W.setCell ⟨b, 0, none⟩ (.int .u16 (f 0))).setCell ⟨b, 1, none⟩ (.int .u16 (f 1))).setCell ⟨b, 2, none⟩ (.int .u16 (f 2))).setCell ⟨b, 3, none⟩ (.int .u16 (f 3))).setCell ⟨b, 4, none⟩ (.int .u16 (f 4))).setCell ⟨b, 5, none⟩ (.int .u16 (f 5))).setCell ⟨b, 6, none⟩ (.int .u16 (f 6))).setCell ⟨b, 7, none⟩ (.int .u16 (f 7))).heap[b]? = some (.cells (ar8 f) T (0, 0)) :=
  (blk_put (blk_put (blk_put (blk_put (blk_put (blk_put (blk_put (blk_put h 0 _ (ar8_set _ _ 0 (by decide))) 1 _ (ar8_set _ _ 1 (by decide))) 2 _ (ar8_set _ _ 2 (by decide))) 3 _ (ar8_set _ _ 3 (by decide))) 4 _ (ar8_set _ _ 4 (by decide))) 5 _ (ar8_set _ _ 5 (by decide))) 6 _ (ar8_set _ _ 6 (by decide))) 7 _ (ar8_set _ _ 7 (by decide))).trans (by
    refine congrArg some (congrArg (fun c => Obj.cells c T (0, 0)) (ar8_ext fun j hj => ?_))
    match j, hj with
    | 0, _ => rfl | 1, _ => rfl | 2, _ => rfl | 3, _ => rfl | 4, _ => rfl | 5, _ => rfl | 6, _ => rfl | 7, _ => rfl
    | j + 8, h => exact absurd h (by omega))
theorem blk_new1 (w : World) (o o' : Obj) : ((w.alloc o).alloc o').heap[w.heap.size + 1]? = some o' := by
  have := blk_new (w.alloc o) o'
  rwa [World.size_alloc] at this
theorem ld8 {W : World} {b : Nat} {f : Nat → Int} (h : W.heap[b]? = some (.cells (ar8 f) 30 (0, 0))) : (loadVar 30 ⟨b, 0, none⟩).run Tryz.prog W = .ok (.agg (ar8 f)) W :=
  run_loadVar_row _ _ 30 30 _ (0, 0) _ h Tryz.underlying30 rfl (by kernel_rfl)
theorem LR.congr {w W : World} {y : Sc} {b1 b2 b5 : Nat} {f g : Nat → Int} (h : LR w y b1 b2 b5 f W) (e : ∀ j, j < 8 → f j = g j) : LR w y b1 b2 b5 g W :=
  ⟨h.k1, h.k2, h.k5.trans (by rw [ar8_ext e]), h.l1, h.l2, h.l5, h.n12, h.n15, h.n25, h.below⟩
theorem LR.drewN {w W : World} {y : Sc} {b1 b2 b5 : Nat} {f : Nat → Int} (h : LR w y b1 b2 b5 f W) (q : Nat) : LR w y b1 b2 b5 f (W.drewN q) :=
  ⟨h.k1, h.k2, h.k5, h.l1, h.l2, h.l5, h.n12, h.n15, h.n25, bdn h.below q⟩
theorem LR.drew {w W : World} {y : Sc} {b1 b2 b5 : Nat} {f : Nat → Int} (h : LR w y b1 b2 b5 f W) : LR w y b1 b2 b5 f W.drew := h.drewN 1
theorem below_put8 {w W : World} (h : Below w.heap.size w W) {b : Nat} (hb : w.heap.size ≤ b) (v0 v1 v2 v3 v4 v5 v6 v7 : Value) :
    Below w.heap.size w ((((((((W.setCell ⟨b, 0, none⟩ v0).setCell ⟨b, 1, none⟩ v1).setCell ⟨b, 2, none⟩ v2).setCell ⟨b, 3, none⟩ v3).setCell ⟨b, 4, none⟩ v4).setCell ⟨b, 5, none⟩ v5).setCell ⟨b, 6, none⟩ v6).setCell ⟨b, 7, none⟩ v7) :=
  (((((((h.setCell hb _).setCell hb _).setCell hb _).setCell hb _).setCell hb _).setCell hb _).setCell hb _).setCell hb _
/-- The pieces ahead of the gap, and those behind it up to one. -/
def g2 (y : Sc) (K M m : Nat) : Nat → Int := fun j => if j < K then y.L j else if 8 + K ≤ j + M ∧ j + M < 8 + m then y.L (j + M - 8) else 0
theorem g2_start (y : Sc) (K M : Nat) (h : K ≤ M) : ∀ j, j < 8 → (if j < K then y.L j else 0) = g2 y K M K j := by
  intro j hj
  unfold g2
  by_cases e : j < K
  · rw [if_pos e, if_pos e]
  · rw [if_neg e, if_neg e, if_neg (by omega)]
theorem g2_fin (y : Sc) (n m j : Nat) (hM : y.N = (m : Nat)) (hj : j < 8) : g2 y n m m j = if (j : Int) < ((n : Nat) : Int) then y.L j else if 8 - y.N + ((n : Nat) : Int) ≤ j then y.L (j + y.N.toNat - 8) else 0 := by
  unfold g2
  rw [hM, Int.toNat_natCast]
  by_cases e : j < n
  · rw [if_pos e, if_pos (show (j : Int) < (n : Int) by omega)]
  · rw [if_neg e, if_neg (show ¬ (j : Int) < (n : Int) by omega)]
    by_cases e2 : 8 + n ≤ j + m
    · rw [if_pos (show 8 + n ≤ j + m ∧ j + m < 8 + m by omega), if_pos (show 8 - (m : Int) + (n : Int) ≤ (j : Int) by omega)]
    · rw [if_neg (show ¬ (8 + n ≤ j + m ∧ j + m < 8 + m) by omega), if_neg (show ¬ 8 - (m : Int) + (n : Int) ≤ (j : Int) by omega)]
theorem g2_step (y : Sc) (K M m p : Nat) (hm : K ≤ m) (hM : m < M) (hM8 : M ≤ 8) (hp : p + M = 8 + m) : ∀ j, j < 8 → (if j = p then y.L m else g2 y K M m j) = g2 y K M (m + 1) j := by
  intro j hj
  unfold g2
  by_cases e : j = p
  · subst e
    rw [if_pos rfl, if_neg (by omega), if_pos (by omega), show j + M - 8 = m by omega]
  · rw [if_neg e]
    by_cases e1 : j < K
    · rw [if_pos e1, if_pos e1]
    · rw [if_neg e1, if_neg e1]
      by_cases e2 : 8 + K ≤ j + M ∧ j + M < 8 + m
      · rw [if_pos e2, if_pos (by omega)]
      · rw [if_neg e2, if_neg (by omega)]
/-- What whole answers. -/
def WholeRet (x : Sc) (w : World) (e : Ending) (w' : World) : Prop :=
  ∃ (f : Nat → Int) (ok : Bool), e = .returned (.tuple #[.agg (ar8 f), .bool ok]) ∧ (ok = true → ∃ A, x.whole = some A ∧ ∀ j, j < 8 → f j = A j) ∧ (ok = false → x.whole = none) ∧ Below w.heap.size w w'
set_option maxHeartbeats 4000000 in
set_option maxRecDepth 100000 in
theorem whole_3 (L : Nat → Int) (N k dg va te pa fo : Int) (n0 : 0 ≤ N) (n7 : N ≤ 7) (k0 : -1 ≤ k) (k7 : k ≤ N) (w : World) :
    Calls Tryz.prog 41 #[scV ⟨L, N, k, 3, dg, va, te, pa, fo⟩] w (WholeRet ⟨L, N, k, 3, dg, va, te, pa, fo⟩ w) := by
  obtain ⟨y, hy⟩ : ∃ y : Sc, y = ⟨L, N, k, 3, dg, va, te, pa, fo⟩ := ⟨_, rfl⟩
  have hw : (⟨L, N, k, 3, dg, va, te, pa, fo⟩ : Sc).whole = y.fin := by rw [hy]; first | done | rfl | (subst hp; rfl)
  have hyk : y.skip = k := by rw [hy]; first | done | rfl
  have HY := Lib.hid hy
  have HN0 : Hid (0 ≤ y.N) := Lib.hid (by rw [hy]; first | exact n0 | (show 0 ≤ N + 1; omega) | (show 0 ≤ N + 2; omega))
  have HN8 : Hid (y.N ≤ 8) := Lib.hid (by rw [hy]; first | (show N ≤ 8; omega) | (show N + 1 ≤ 8; omega) | (show N + 2 ≤ 8; omega))
  have HKN : Hid (k ≤ y.N) := Lib.hid (by rw [hy]; first | (show k ≤ N; omega) | (show k ≤ N + 1; omega) | (show k ≤ N + 2; omega))
  go_enter Tryz.func41, Tryz.ntmps41
  go_upto_region 12 with fail
  go_cut [1, 2, 50] (fun s t u W => ∃ b1 b2 : Nat, s = .pointer (some ⟨b1, 0, none⟩) ∧ t = .pointer (some ⟨b2, 0, none⟩) ∧ u = .bool (decide (k < 0)) ∧ WR w y b1 b2 W)
  case first =>
    clear hy hw hyk
    go_wp2_with fail
    go_meet
    refine ⟨w.heap.size, w.heap.size + 1, rfl, rfl, rfl, ?_, ?_, by omega, by omega, by omega, ?_⟩
    · rw [HY.out]; exact blk_alloc (blk_new _ _) _
    · exact blk_new1 w _ _
    · go_grown
  case rest =>
    obtain ⟨b1, b2, rfl, rfl, rfl, hR⟩ := hcut
    have hwf : (⟨L, N, k, 3, dg, va, te, pa, fo⟩ : Sc).whole = y.fin := hw
    clear hw hy
    have hk : y.skip = k := hyk
    clear hyk
    have c8 : wc.cell? ⟨b1, 8, none⟩ = some (.int .i64 y.N) := (blk_cell hR.k1 8).trans rfl
    have c9 : wc.cell? ⟨b1, 9, none⟩ = some (.int .i64 k) := (blk_cell hR.k1 9).trans (by rw [← hk]; rfl)
    have HK := Lib.hid hk
    clear hk
    have HW := Lib.hid hwf
    clear hwf
    have hN0 : 0 ≤ y.N := HN0.out
    have hN8 : y.N ≤ 8 := HN8.out
    have hkN : k ≤ y.N := HKN.out
    by_cases hk : k < 0
    · have hkb : decide (k < 0) = true := decide_eq_true hk
      rw [hkb]
      have hne := hR.ne
      have hne' := hR.ne.symm
      have z0 : wc.cell? ⟨b1, 0, none⟩ = some (.int .u16 (y.L 0)) := (blk_cell hR.k1 0).trans rfl
      have y0 : wc.cell? ⟨b2, 0, none⟩ = some (.int .u16 0) := (blk_cell hR.k2 0).trans rfl
      have v0 : wc.frozen? ⟨b2, 0, none⟩ = false := blk_frozen hR.k2 0
      have z1 : wc.cell? ⟨b1, 1, none⟩ = some (.int .u16 (y.L 1)) := (blk_cell hR.k1 1).trans rfl
      have y1 : wc.cell? ⟨b2, 1, none⟩ = some (.int .u16 0) := (blk_cell hR.k2 1).trans rfl
      have v1 : wc.frozen? ⟨b2, 1, none⟩ = false := blk_frozen hR.k2 1
      have z2 : wc.cell? ⟨b1, 2, none⟩ = some (.int .u16 (y.L 2)) := (blk_cell hR.k1 2).trans rfl
      have y2 : wc.cell? ⟨b2, 2, none⟩ = some (.int .u16 0) := (blk_cell hR.k2 2).trans rfl
      have v2 : wc.frozen? ⟨b2, 2, none⟩ = false := blk_frozen hR.k2 2
      have z3 : wc.cell? ⟨b1, 3, none⟩ = some (.int .u16 (y.L 3)) := (blk_cell hR.k1 3).trans rfl
      have y3 : wc.cell? ⟨b2, 3, none⟩ = some (.int .u16 0) := (blk_cell hR.k2 3).trans rfl
      have v3 : wc.frozen? ⟨b2, 3, none⟩ = false := blk_frozen hR.k2 3
      have z4 : wc.cell? ⟨b1, 4, none⟩ = some (.int .u16 (y.L 4)) := (blk_cell hR.k1 4).trans rfl
      have y4 : wc.cell? ⟨b2, 4, none⟩ = some (.int .u16 0) := (blk_cell hR.k2 4).trans rfl
      have v4 : wc.frozen? ⟨b2, 4, none⟩ = false := blk_frozen hR.k2 4
      have z5 : wc.cell? ⟨b1, 5, none⟩ = some (.int .u16 (y.L 5)) := (blk_cell hR.k1 5).trans rfl
      have y5 : wc.cell? ⟨b2, 5, none⟩ = some (.int .u16 0) := (blk_cell hR.k2 5).trans rfl
      have v5 : wc.frozen? ⟨b2, 5, none⟩ = false := blk_frozen hR.k2 5
      have z6 : wc.cell? ⟨b1, 6, none⟩ = some (.int .u16 (y.L 6)) := (blk_cell hR.k1 6).trans rfl
      have y6 : wc.cell? ⟨b2, 6, none⟩ = some (.int .u16 0) := (blk_cell hR.k2 6).trans rfl
      have v6 : wc.frozen? ⟨b2, 6, none⟩ = false := blk_frozen hR.k2 6
      have z7 : wc.cell? ⟨b1, 7, none⟩ = some (.int .u16 (y.L 7)) := (blk_cell hR.k1 7).trans rfl
      have y7 : wc.cell? ⟨b2, 7, none⟩ = some (.int .u16 0) := (blk_cell hR.k2 7).trans rfl
      have v7 : wc.frozen? ⟨b2, 7, none⟩ = false := blk_frozen hR.k2 7
      go_wp2_with fail
      go_region
      all_goals go_wp2_with fail
      try simp only [Exit.inBlock, Exit.then]
      refine bodyPost_ret (results_cell2 rfl rfl (ld8 (blk_drew (blk_put8 hR.k2 y.L)))) rfl ?_
      refine ⟨y.L, (y.N == 8), ?_, ?_, ?_, ?_⟩
      · simp
      · intro h
        refine ⟨_, HW.out.trans (by unfold Sc.fin; rw [HK.out, if_pos hk, if_pos (by simpa using h)]), fun _ _ => rfl⟩
      · intro h
        exact HW.out.trans (by unfold Sc.fin; rw [HK.out, if_pos hk, if_neg (by simpa using h)])
      · exact (below_put8 hR.below hR.l2 _ _ _ _ _ _ _ _).drew
    · have hkb : decide (k < 0) = false := decide_eq_false hk
      rw [hkb]
      obtain ⟨K, rfl⟩ := Int.eq_ofNat_of_zero_le (show 0 ≤ k by omega)
      obtain ⟨M, hM⟩ := Int.eq_ofNat_of_zero_le hN0
      have HM := Lib.hid hM
      clear hM
      have hR5 := hR.new
      go_wp2_with fail
      clear c8 c9 hR
      go_loopw [6] (fun i W => ∃ n : Nat, n ≤ K ∧ i = .int .i64 n ∧ LR w y b1 b2 wc.heap.size (fun j => if j < n then y.L j else 0) W) (fun i _ => K - (intOf i).toNat)
      case atStart => exact ⟨0, by omega, rfl, by simpa using hR5⟩
      case round =>
        obtain ⟨n, hn, rfl, hL⟩ := hrel
        clear hR5
        have d8 : wr.cell? ⟨b1, 8, none⟩ = some (.int .i64 (M : Int)) := (blk_cell hL.k1 8).trans (by rw [← HM.out]; rfl)
        have hKM : K ≤ M := by have := HM.out; omega
        have hM8 : M ≤ 8 := by have := HM.out; omega
        have d9 : wr.cell? ⟨b1, 9, none⟩ = some (.int .i64 (K : Int)) := (blk_cell hL.k1 9).trans (by rw [← HK.out]; rfl)
        by_cases hlt : n < K
        · have h8 : n < 8 := by omega
          have dn : wr.cell? ⟨b1, n, none⟩ = some (.int .u16 (y.L n)) := (blk_cell hL.k1 n).trans (scC_get y n h8)
          have en : wr.cell? ⟨wc.heap.size, n, none⟩ = some (.int .u16 (if n < n then y.L n else 0)) := (blk_cell hL.k5 n).trans (ar8_get _ n h8)
          have fn : wr.frozen? ⟨wc.heap.size, n, none⟩ = false := blk_frozen hL.k5 n
          have h8i : (n : Int) < 8 := by omega
          go_wp2_with fail
          refine ⟨⟨n + 1, by omega, by go_num, hL.put n h8 _ ?_⟩, ?_⟩
          · intro j hj
            by_cases e : j = n
            · subst e; rw [if_pos rfl, if_pos (by omega)]
            · rw [if_neg e]
              by_cases e2 : j < n
              · rw [if_pos e2, if_pos (by omega)]
              · rw [if_neg e2, if_neg (by omega)]
          · simp [intOf]; omega
        · obtain rfl : n = K := by omega
          have hL2 : LR w y b1 b2 wc.heap.size (g2 y n M n) wr := hL.congr (g2_start y n M hKM)
          clear hL
          go_wp2_with fail
          clear d8 d9
          go_loopw [7] (fun i W => ∃ m : Nat, n ≤ m ∧ m ≤ M ∧ i = .int .i64 m ∧ LR w y b1 b2 wc.heap.size (g2 y n M m) W) (fun i _ => M - (intOf i).toNat)
          case atStart => exact ⟨n, Nat.le_refl _, hKM, rfl, hL2⟩
          case round =>
            obtain ⟨m, hm0, hm1, rfl, hL⟩ := hrel
            clear hL2
            have d8 : wr.cell? ⟨b1, 8, none⟩ = some (.int .i64 (M : Int)) := (blk_cell hL.k1 8).trans (by rw [← HM.out]; rfl)
            by_cases hlt : m < M
            · have h8 : m < 8 := by omega
              obtain ⟨p, hp⟩ : ∃ p : Nat, p + M = 8 + m := ⟨8 + m - M, by omega⟩
              have hp8 : p < 8 := by omega
              have dn : wr.cell? ⟨b1, m, none⟩ = some (.int .u16 (y.L m)) := (blk_cell hL.k1 m).trans (scC_get y m h8)
              have en : wr.cell? ⟨wc.heap.size, p, none⟩ = some (.int .u16 (g2 y n M m p)) := (blk_cell hL.k5 p).trans (ar8_get _ p hp8)
              have fn : wr.frozen? ⟨wc.heap.size, p, none⟩ = false := blk_frozen hL.k5 p
              have h8i : (m : Int) < 8 := by omega
              have hp8i : (p : Int) < 8 := by omega
              have w1_ : IntKind.i64.wrap (8 - (M : Int)) = 8 - (M : Int) := IntWalk.i64_in _ (by omega)
              have w2_ : IntKind.i64.wrap (8 - (M : Int) + (m : Int)) = (p : Int) := (IntWalk.i64_in _ (by omega)).trans (by omega)
              have HP := Lib.hid hp
              have hltI : (m : Int) < M := by omega
              clear hp
              go_wp2_with fail
              go_region
              go_wp2_with fail
              refine ⟨⟨m + 1, by omega, by omega, by go_num, (hL.put p hp8 _ (g2_step y n M m p hm0 hlt hM8 HP.out)).drew⟩, ?_⟩
              simp [intOf]
              omega
            · obtain rfl : m = M := by omega
              have e0 : wr.cell? ⟨wc.heap.size, 0, none⟩ = some (.int .u16 (g2 y n m m 0)) := (blk_cell hL.k5 0).trans (ar8_get _ 0 (by decide))
              have y0 : wr.cell? ⟨b2, 0, none⟩ = some (.int .u16 0) := (blk_cell hL.k2 0).trans rfl
              have v0 : wr.frozen? ⟨b2, 0, none⟩ = false := blk_frozen hL.k2 0
              have e1 : wr.cell? ⟨wc.heap.size, 1, none⟩ = some (.int .u16 (g2 y n m m 1)) := (blk_cell hL.k5 1).trans (ar8_get _ 1 (by decide))
              have y1 : wr.cell? ⟨b2, 1, none⟩ = some (.int .u16 0) := (blk_cell hL.k2 1).trans rfl
              have v1 : wr.frozen? ⟨b2, 1, none⟩ = false := blk_frozen hL.k2 1
              have e2 : wr.cell? ⟨wc.heap.size, 2, none⟩ = some (.int .u16 (g2 y n m m 2)) := (blk_cell hL.k5 2).trans (ar8_get _ 2 (by decide))
              have y2 : wr.cell? ⟨b2, 2, none⟩ = some (.int .u16 0) := (blk_cell hL.k2 2).trans rfl
              have v2 : wr.frozen? ⟨b2, 2, none⟩ = false := blk_frozen hL.k2 2
              have e3 : wr.cell? ⟨wc.heap.size, 3, none⟩ = some (.int .u16 (g2 y n m m 3)) := (blk_cell hL.k5 3).trans (ar8_get _ 3 (by decide))
              have y3 : wr.cell? ⟨b2, 3, none⟩ = some (.int .u16 0) := (blk_cell hL.k2 3).trans rfl
              have v3 : wr.frozen? ⟨b2, 3, none⟩ = false := blk_frozen hL.k2 3
              have e4 : wr.cell? ⟨wc.heap.size, 4, none⟩ = some (.int .u16 (g2 y n m m 4)) := (blk_cell hL.k5 4).trans (ar8_get _ 4 (by decide))
              have y4 : wr.cell? ⟨b2, 4, none⟩ = some (.int .u16 0) := (blk_cell hL.k2 4).trans rfl
              have v4 : wr.frozen? ⟨b2, 4, none⟩ = false := blk_frozen hL.k2 4
              have e5 : wr.cell? ⟨wc.heap.size, 5, none⟩ = some (.int .u16 (g2 y n m m 5)) := (blk_cell hL.k5 5).trans (ar8_get _ 5 (by decide))
              have y5 : wr.cell? ⟨b2, 5, none⟩ = some (.int .u16 0) := (blk_cell hL.k2 5).trans rfl
              have v5 : wr.frozen? ⟨b2, 5, none⟩ = false := blk_frozen hL.k2 5
              have e6 : wr.cell? ⟨wc.heap.size, 6, none⟩ = some (.int .u16 (g2 y n m m 6)) := (blk_cell hL.k5 6).trans (ar8_get _ 6 (by decide))
              have y6 : wr.cell? ⟨b2, 6, none⟩ = some (.int .u16 0) := (blk_cell hL.k2 6).trans rfl
              have v6 : wr.frozen? ⟨b2, 6, none⟩ = false := blk_frozen hL.k2 6
              have e7 : wr.cell? ⟨wc.heap.size, 7, none⟩ = some (.int .u16 (g2 y n m m 7)) := (blk_cell hL.k5 7).trans (ar8_get _ 7 (by decide))
              have y7 : wr.cell? ⟨b2, 7, none⟩ = some (.int .u16 0) := (blk_cell hL.k2 7).trans rfl
              have v7 : wr.frozen? ⟨b2, 7, none⟩ = false := blk_frozen hL.k2 7
              have hne := hL.n25
              have hne' := hL.n25.symm
              have hne2 := hL.n12
              go_wp2_with fail
              go_region
              all_goals go_wp2_with fail
              try simp only [Exit.inBlock, Exit.then]
              refine bodyPost_ret (results_cell2 rfl rfl (ld8 (blk_drew (blk_put8 hL.k2 (g2 y n m m))))) rfl ?_
              refine ⟨g2 y n m m, decide (m ≤ 7), ?_, ?_, ?_, ?_⟩
              · simp
                omega
              · intro h
                have h7 : m ≤ 7 := of_decide_eq_true h
                refine ⟨_, HW.out.trans (by unfold Sc.fin; rw [HK.out, if_neg (by omega), if_pos (by rw [HM.out]; omega)]), ?_⟩
                intro j hj
                exact g2_fin y n m j HM.out hj
              · intro h
                have h7 : ¬ m ≤ 7 := of_decide_eq_false h
                exact HW.out.trans (by unfold Sc.fin; rw [HK.out, if_neg (by omega), if_neg (by rw [HM.out]; omega)])
              · exact (below_put8 hL.below hL.l2 _ _ _ _ _ _ _ _).drew
set_option maxHeartbeats 4000000 in
set_option maxRecDepth 100000 in
theorem whole_4 (L : Nat → Int) (N k dg va te pa fo : Int) (n0 : 0 ≤ N) (n7 : N ≤ 7) (k0 : -1 ≤ k) (k7 : k ≤ N) (v0 : 0 ≤ va) (v1 : va ≤ 65535) (w : World) :
    Calls Tryz.prog 41 #[scV ⟨L, N, k, 4, dg, va, te, pa, fo⟩] w (WholeRet ⟨L, N, k, 4, dg, va, te, pa, fo⟩ w) := by
  obtain ⟨y, hy⟩ : ∃ y : Sc, y = (Sc.closed ⟨L, N, k, 4, dg, va, te, pa, fo⟩) := ⟨_, rfl⟩
  have hw : (⟨L, N, k, 4, dg, va, te, pa, fo⟩ : Sc).whole = y.fin := by rw [hy]; first | done | rfl | (subst hp; rfl)
  have hyk : y.skip = k := by rw [hy]; first | done | rfl
  have HY := Lib.hid hy
  have HN0 : Hid (0 ≤ y.N) := Lib.hid (by rw [hy]; first | exact n0 | (show 0 ≤ N + 1; omega) | (show 0 ≤ N + 2; omega))
  have HN8 : Hid (y.N ≤ 8) := Lib.hid (by rw [hy]; first | (show N ≤ 8; omega) | (show N + 1 ≤ 8; omega) | (show N + 2 ≤ 8; omega))
  have HKN : Hid (k ≤ y.N) := Lib.hid (by rw [hy]; first | (show k ≤ N; omega) | (show k ≤ N + 1; omega) | (show k ≤ N + 2; omega))
  go_enter Tryz.func41, Tryz.ntmps41
  go_wp2_with fail
  refine (closed_walk _ _ _ _ _ _ _ _ _ _ _ _ _ _ _ _ n0 n7 v0 v1 _).mono ?_
  rintro e w2 ⟨rfl, m2, g2_, rfl⟩
  simp only [drewN_alloc]
  obtain ⟨u1, hu, hz, hG1⟩ := drewN_grw w m2
  rw [← hu, ← hz]
  clear hu hz
  have q1_ : u1.heap.size < u1.heap.size + 1 + 1 := by omega
  have q2_ : u1.heap.size < u1.heap.size + 1 := by omega
  go_upto_region 12 with fail
  go_cut [1, 2, 50] (fun s t u W => ∃ b1 b2 : Nat, s = .pointer (some ⟨b1, 0, none⟩) ∧ t = .pointer (some ⟨b2, 0, none⟩) ∧ u = .bool (decide (k < 0)) ∧ WR w y b1 b2 W)
  case first =>
    clear hy hw hyk
    go_wp2_with fail
    go_meet
    refine ⟨u1.heap.size, u1.heap.size + 1, rfl, rfl, rfl, ?_, ?_, hG1.below.size, by have := hG1.below.size; omega, by omega, ?_⟩
    · rw [HY.out, GA_heap _ _ _ (by simp; omega)]
      refine (blk_alloc (blk_new _ _) _).trans ?_
      simp only [cl_eq v0 v1]
      rfl
    · rw [GA_heap _ _ _ (by simp)]
      exact blk_new1 u1 _ _
    · exact GA_below _ _ _ ((hG1.below.alloc hG1.below.size _).alloc (by have := hG1.below.size; simp; omega) _)
  case rest =>
    obtain ⟨b1, b2, rfl, rfl, rfl, hR⟩ := hcut
    have hwf : (⟨L, N, k, 4, dg, va, te, pa, fo⟩ : Sc).whole = y.fin := hw
    clear hw hy
    have hk : y.skip = k := hyk
    clear hyk
    have c8 : wc.cell? ⟨b1, 8, none⟩ = some (.int .i64 y.N) := (blk_cell hR.k1 8).trans rfl
    have c9 : wc.cell? ⟨b1, 9, none⟩ = some (.int .i64 k) := (blk_cell hR.k1 9).trans (by rw [← hk]; rfl)
    have HK := Lib.hid hk
    clear hk
    have HW := Lib.hid hwf
    clear hwf
    have hN0 : 0 ≤ y.N := HN0.out
    have hN8 : y.N ≤ 8 := HN8.out
    have hkN : k ≤ y.N := HKN.out
    by_cases hk : k < 0
    · have hkb : decide (k < 0) = true := decide_eq_true hk
      rw [hkb]
      have hne := hR.ne
      have hne' := hR.ne.symm
      have z0 : wc.cell? ⟨b1, 0, none⟩ = some (.int .u16 (y.L 0)) := (blk_cell hR.k1 0).trans rfl
      have y0 : wc.cell? ⟨b2, 0, none⟩ = some (.int .u16 0) := (blk_cell hR.k2 0).trans rfl
      have v0 : wc.frozen? ⟨b2, 0, none⟩ = false := blk_frozen hR.k2 0
      have z1 : wc.cell? ⟨b1, 1, none⟩ = some (.int .u16 (y.L 1)) := (blk_cell hR.k1 1).trans rfl
      have y1 : wc.cell? ⟨b2, 1, none⟩ = some (.int .u16 0) := (blk_cell hR.k2 1).trans rfl
      have v1 : wc.frozen? ⟨b2, 1, none⟩ = false := blk_frozen hR.k2 1
      have z2 : wc.cell? ⟨b1, 2, none⟩ = some (.int .u16 (y.L 2)) := (blk_cell hR.k1 2).trans rfl
      have y2 : wc.cell? ⟨b2, 2, none⟩ = some (.int .u16 0) := (blk_cell hR.k2 2).trans rfl
      have v2 : wc.frozen? ⟨b2, 2, none⟩ = false := blk_frozen hR.k2 2
      have z3 : wc.cell? ⟨b1, 3, none⟩ = some (.int .u16 (y.L 3)) := (blk_cell hR.k1 3).trans rfl
      have y3 : wc.cell? ⟨b2, 3, none⟩ = some (.int .u16 0) := (blk_cell hR.k2 3).trans rfl
      have v3 : wc.frozen? ⟨b2, 3, none⟩ = false := blk_frozen hR.k2 3
      have z4 : wc.cell? ⟨b1, 4, none⟩ = some (.int .u16 (y.L 4)) := (blk_cell hR.k1 4).trans rfl
      have y4 : wc.cell? ⟨b2, 4, none⟩ = some (.int .u16 0) := (blk_cell hR.k2 4).trans rfl
      have v4 : wc.frozen? ⟨b2, 4, none⟩ = false := blk_frozen hR.k2 4
      have z5 : wc.cell? ⟨b1, 5, none⟩ = some (.int .u16 (y.L 5)) := (blk_cell hR.k1 5).trans rfl
      have y5 : wc.cell? ⟨b2, 5, none⟩ = some (.int .u16 0) := (blk_cell hR.k2 5).trans rfl
      have v5 : wc.frozen? ⟨b2, 5, none⟩ = false := blk_frozen hR.k2 5
      have z6 : wc.cell? ⟨b1, 6, none⟩ = some (.int .u16 (y.L 6)) := (blk_cell hR.k1 6).trans rfl
      have y6 : wc.cell? ⟨b2, 6, none⟩ = some (.int .u16 0) := (blk_cell hR.k2 6).trans rfl
      have v6 : wc.frozen? ⟨b2, 6, none⟩ = false := blk_frozen hR.k2 6
      have z7 : wc.cell? ⟨b1, 7, none⟩ = some (.int .u16 (y.L 7)) := (blk_cell hR.k1 7).trans rfl
      have y7 : wc.cell? ⟨b2, 7, none⟩ = some (.int .u16 0) := (blk_cell hR.k2 7).trans rfl
      have v7 : wc.frozen? ⟨b2, 7, none⟩ = false := blk_frozen hR.k2 7
      go_wp2_with fail
      go_region
      all_goals go_wp2_with fail
      try simp only [Exit.inBlock, Exit.then]
      refine bodyPost_ret (results_cell2 rfl rfl (ld8 (blk_drew (blk_put8 hR.k2 y.L)))) rfl ?_
      refine ⟨y.L, (y.N == 8), ?_, ?_, ?_, ?_⟩
      · simp
      · intro h
        refine ⟨_, HW.out.trans (by unfold Sc.fin; rw [HK.out, if_pos hk, if_pos (by simpa using h)]), fun _ _ => rfl⟩
      · intro h
        exact HW.out.trans (by unfold Sc.fin; rw [HK.out, if_pos hk, if_neg (by simpa using h)])
      · exact (below_put8 hR.below hR.l2 _ _ _ _ _ _ _ _).drew
    · have hkb : decide (k < 0) = false := decide_eq_false hk
      rw [hkb]
      obtain ⟨K, rfl⟩ := Int.eq_ofNat_of_zero_le (show 0 ≤ k by omega)
      obtain ⟨M, hM⟩ := Int.eq_ofNat_of_zero_le hN0
      have HM := Lib.hid hM
      clear hM
      have hR5 := hR.new
      go_wp2_with fail
      clear c8 c9 hR
      go_loopw [6] (fun i W => ∃ n : Nat, n ≤ K ∧ i = .int .i64 n ∧ LR w y b1 b2 wc.heap.size (fun j => if j < n then y.L j else 0) W) (fun i _ => K - (intOf i).toNat)
      case atStart => exact ⟨0, by omega, rfl, by simpa using hR5⟩
      case round =>
        obtain ⟨n, hn, rfl, hL⟩ := hrel
        clear hR5
        have d8 : wr.cell? ⟨b1, 8, none⟩ = some (.int .i64 (M : Int)) := (blk_cell hL.k1 8).trans (by rw [← HM.out]; rfl)
        have hKM : K ≤ M := by have := HM.out; omega
        have hM8 : M ≤ 8 := by have := HM.out; omega
        have d9 : wr.cell? ⟨b1, 9, none⟩ = some (.int .i64 (K : Int)) := (blk_cell hL.k1 9).trans (by rw [← HK.out]; rfl)
        by_cases hlt : n < K
        · have h8 : n < 8 := by omega
          have dn : wr.cell? ⟨b1, n, none⟩ = some (.int .u16 (y.L n)) := (blk_cell hL.k1 n).trans (scC_get y n h8)
          have en : wr.cell? ⟨wc.heap.size, n, none⟩ = some (.int .u16 (if n < n then y.L n else 0)) := (blk_cell hL.k5 n).trans (ar8_get _ n h8)
          have fn : wr.frozen? ⟨wc.heap.size, n, none⟩ = false := blk_frozen hL.k5 n
          have h8i : (n : Int) < 8 := by omega
          go_wp2_with fail
          refine ⟨⟨n + 1, by omega, by go_num, hL.put n h8 _ ?_⟩, ?_⟩
          · intro j hj
            by_cases e : j = n
            · subst e; rw [if_pos rfl, if_pos (by omega)]
            · rw [if_neg e]
              by_cases e2 : j < n
              · rw [if_pos e2, if_pos (by omega)]
              · rw [if_neg e2, if_neg (by omega)]
          · simp [intOf]; omega
        · obtain rfl : n = K := by omega
          have hL2 : LR w y b1 b2 wc.heap.size (g2 y n M n) wr := hL.congr (g2_start y n M hKM)
          clear hL
          go_wp2_with fail
          clear d8 d9
          go_loopw [7] (fun i W => ∃ m : Nat, n ≤ m ∧ m ≤ M ∧ i = .int .i64 m ∧ LR w y b1 b2 wc.heap.size (g2 y n M m) W) (fun i _ => M - (intOf i).toNat)
          case atStart => exact ⟨n, Nat.le_refl _, hKM, rfl, hL2⟩
          case round =>
            obtain ⟨m, hm0, hm1, rfl, hL⟩ := hrel
            clear hL2
            have d8 : wr.cell? ⟨b1, 8, none⟩ = some (.int .i64 (M : Int)) := (blk_cell hL.k1 8).trans (by rw [← HM.out]; rfl)
            by_cases hlt : m < M
            · have h8 : m < 8 := by omega
              obtain ⟨p, hp⟩ : ∃ p : Nat, p + M = 8 + m := ⟨8 + m - M, by omega⟩
              have hp8 : p < 8 := by omega
              have dn : wr.cell? ⟨b1, m, none⟩ = some (.int .u16 (y.L m)) := (blk_cell hL.k1 m).trans (scC_get y m h8)
              have en : wr.cell? ⟨wc.heap.size, p, none⟩ = some (.int .u16 (g2 y n M m p)) := (blk_cell hL.k5 p).trans (ar8_get _ p hp8)
              have fn : wr.frozen? ⟨wc.heap.size, p, none⟩ = false := blk_frozen hL.k5 p
              have h8i : (m : Int) < 8 := by omega
              have hp8i : (p : Int) < 8 := by omega
              have w1_ : IntKind.i64.wrap (8 - (M : Int)) = 8 - (M : Int) := IntWalk.i64_in _ (by omega)
              have w2_ : IntKind.i64.wrap (8 - (M : Int) + (m : Int)) = (p : Int) := (IntWalk.i64_in _ (by omega)).trans (by omega)
              have HP := Lib.hid hp
              have hltI : (m : Int) < M := by omega
              clear hp
              go_wp2_with fail
              go_region
              go_wp2_with fail
              refine ⟨⟨m + 1, by omega, by omega, by go_num, (hL.put p hp8 _ (g2_step y n M m p hm0 hlt hM8 HP.out)).drew⟩, ?_⟩
              simp [intOf]
              omega
            · obtain rfl : m = M := by omega
              have e0 : wr.cell? ⟨wc.heap.size, 0, none⟩ = some (.int .u16 (g2 y n m m 0)) := (blk_cell hL.k5 0).trans (ar8_get _ 0 (by decide))
              have y0 : wr.cell? ⟨b2, 0, none⟩ = some (.int .u16 0) := (blk_cell hL.k2 0).trans rfl
              have v0 : wr.frozen? ⟨b2, 0, none⟩ = false := blk_frozen hL.k2 0
              have e1 : wr.cell? ⟨wc.heap.size, 1, none⟩ = some (.int .u16 (g2 y n m m 1)) := (blk_cell hL.k5 1).trans (ar8_get _ 1 (by decide))
              have y1 : wr.cell? ⟨b2, 1, none⟩ = some (.int .u16 0) := (blk_cell hL.k2 1).trans rfl
              have v1 : wr.frozen? ⟨b2, 1, none⟩ = false := blk_frozen hL.k2 1
              have e2 : wr.cell? ⟨wc.heap.size, 2, none⟩ = some (.int .u16 (g2 y n m m 2)) := (blk_cell hL.k5 2).trans (ar8_get _ 2 (by decide))
              have y2 : wr.cell? ⟨b2, 2, none⟩ = some (.int .u16 0) := (blk_cell hL.k2 2).trans rfl
              have v2 : wr.frozen? ⟨b2, 2, none⟩ = false := blk_frozen hL.k2 2
              have e3 : wr.cell? ⟨wc.heap.size, 3, none⟩ = some (.int .u16 (g2 y n m m 3)) := (blk_cell hL.k5 3).trans (ar8_get _ 3 (by decide))
              have y3 : wr.cell? ⟨b2, 3, none⟩ = some (.int .u16 0) := (blk_cell hL.k2 3).trans rfl
              have v3 : wr.frozen? ⟨b2, 3, none⟩ = false := blk_frozen hL.k2 3
              have e4 : wr.cell? ⟨wc.heap.size, 4, none⟩ = some (.int .u16 (g2 y n m m 4)) := (blk_cell hL.k5 4).trans (ar8_get _ 4 (by decide))
              have y4 : wr.cell? ⟨b2, 4, none⟩ = some (.int .u16 0) := (blk_cell hL.k2 4).trans rfl
              have v4 : wr.frozen? ⟨b2, 4, none⟩ = false := blk_frozen hL.k2 4
              have e5 : wr.cell? ⟨wc.heap.size, 5, none⟩ = some (.int .u16 (g2 y n m m 5)) := (blk_cell hL.k5 5).trans (ar8_get _ 5 (by decide))
              have y5 : wr.cell? ⟨b2, 5, none⟩ = some (.int .u16 0) := (blk_cell hL.k2 5).trans rfl
              have v5 : wr.frozen? ⟨b2, 5, none⟩ = false := blk_frozen hL.k2 5
              have e6 : wr.cell? ⟨wc.heap.size, 6, none⟩ = some (.int .u16 (g2 y n m m 6)) := (blk_cell hL.k5 6).trans (ar8_get _ 6 (by decide))
              have y6 : wr.cell? ⟨b2, 6, none⟩ = some (.int .u16 0) := (blk_cell hL.k2 6).trans rfl
              have v6 : wr.frozen? ⟨b2, 6, none⟩ = false := blk_frozen hL.k2 6
              have e7 : wr.cell? ⟨wc.heap.size, 7, none⟩ = some (.int .u16 (g2 y n m m 7)) := (blk_cell hL.k5 7).trans (ar8_get _ 7 (by decide))
              have y7 : wr.cell? ⟨b2, 7, none⟩ = some (.int .u16 0) := (blk_cell hL.k2 7).trans rfl
              have v7 : wr.frozen? ⟨b2, 7, none⟩ = false := blk_frozen hL.k2 7
              have hne := hL.n25
              have hne' := hL.n25.symm
              have hne2 := hL.n12
              go_wp2_with fail
              go_region
              all_goals go_wp2_with fail
              try simp only [Exit.inBlock, Exit.then]
              refine bodyPost_ret (results_cell2 rfl rfl (ld8 (blk_drew (blk_put8 hL.k2 (g2 y n m m))))) rfl ?_
              refine ⟨g2 y n m m, decide (m ≤ 7), ?_, ?_, ?_, ?_⟩
              · simp
                omega
              · intro h
                have h7 : m ≤ 7 := of_decide_eq_true h
                refine ⟨_, HW.out.trans (by unfold Sc.fin; rw [HK.out, if_neg (by omega), if_pos (by rw [HM.out]; omega)]), ?_⟩
                intro j hj
                exact g2_fin y n m j HM.out hj
              · intro h
                have h7 : ¬ m ≤ 7 := of_decide_eq_false h
                exact HW.out.trans (by unfold Sc.fin; rw [HK.out, if_neg (by omega), if_neg (by rw [HM.out]; omega)])
              · exact (below_put8 hL.below hL.l2 _ _ _ _ _ _ _ _).drew
set_option maxHeartbeats 4000000 in
set_option maxRecDepth 100000 in
theorem whole_6 (L : Nat → Int) (N k dg va te pa fo : Int) (n0 : 0 ≤ N) (n7 : N ≤ 7) (k0 : -1 ≤ k) (k7 : k ≤ N) (hp : pa = 3) (N6 : N ≤ 6) (f0 : 0 ≤ fo) (f1 : fo ≤ 16777215) (t0 : 0 ≤ te) (t1 : te ≤ 255) (w : World) :
    Calls Tryz.prog 41 #[scV ⟨L, N, k, 6, dg, va, te, pa, fo⟩] w (WholeRet ⟨L, N, k, 6, dg, va, te, pa, fo⟩ w) := by
  obtain ⟨y, hy⟩ : ∃ y : Sc, y = (Sc.two ⟨L, N, k, 6, dg, va, te, pa, fo⟩) := ⟨_, rfl⟩
  have hw : (⟨L, N, k, 6, dg, va, te, pa, fo⟩ : Sc).whole = y.fin := by rw [hy]; first | done | rfl | (subst hp; rfl)
  have hyk : y.skip = k := by rw [hy]; first | done | rfl
  have HY := Lib.hid hy
  have HN0 : Hid (0 ≤ y.N) := Lib.hid (by rw [hy]; first | exact n0 | (show 0 ≤ N + 1; omega) | (show 0 ≤ N + 2; omega))
  have HN8 : Hid (y.N ≤ 8) := Lib.hid (by rw [hy]; first | (show N ≤ 8; omega) | (show N + 1 ≤ 8; omega) | (show N + 2 ≤ 8; omega))
  have HKN : Hid (k ≤ y.N) := Lib.hid (by rw [hy]; first | (show k ≤ N; omega) | (show k ≤ N + 1; omega) | (show k ≤ N + 2; omega))
  go_enter Tryz.func41, Tryz.ntmps41
  go_upto_region 7 with fail
  go_cut [1, 2, 3, 9, 21] (fun s t r q u W => ∃ b1 b2 : Nat, s = .pointer (some ⟨b1, 0, none⟩) ∧ t = .pointer (some ⟨b2, 0, none⟩) ∧ r = .bool false ∧ q = .int .i64 6 ∧ u = .bool false ∧ WR w ⟨L, N, k, 6, dg, va, te, pa, fo⟩ b1 b2 W)
  case first =>
    clear hy hw hyk
    subst hp
    go_wp2_with fail
    go_meet
    refine ⟨w.heap.size, w.heap.size + 1, rfl, rfl, rfl, rfl, rfl, ?_, ?_, by omega, by omega, by omega, ?_⟩
    · exact blk_alloc (blk_new _ _) _
    · exact blk_new1 w _ _
    · go_grown
  case rest =>
  obtain ⟨a1, a2, rfl, rfl, rfl, rfl, rfl, hA⟩ := hcut
  obtain ⟨n, rfl⟩ := Int.eq_ofNat_of_zero_le n0
  have c8 : wc.cell? ⟨a1, 8, none⟩ = some (.int .i64 (n : Int)) := (blk_cell hA.k1 8).trans rfl
  have c13 : wc.cell? ⟨a1, 13, none⟩ = some (.int .i64 te) := (blk_cell hA.k1 13).trans rfl
  have c15 : wc.cell? ⟨a1, 15, none⟩ = some (.int .i64 fo) := (blk_cell hA.k1 15).trans rfl
  have cn : wc.cell? ⟨a1, n, none⟩ = some (.int .u16 (L n)) := (blk_cell hA.k1 n).trans (scC_get _ n (by omega))
  have cn1 : wc.cell? ⟨a1, n + 1, none⟩ = some (.int .u16 (L (n + 1))) := (blk_cell hA.k1 (n + 1)).trans (scC_get _ (n + 1) (by omega))
  have fn : wc.frozen? ⟨a1, n, none⟩ = false := blk_frozen hA.k1 n
  have fn1 : wc.frozen? ⟨a1, n + 1, none⟩ = false := blk_frozen hA.k1 (n + 1)
  have f8 : wc.frozen? ⟨a1, 8, none⟩ = false := blk_frozen hA.k1 8
  have h8i : (n : Int) < 8 := by omega
  have h8j : (n : Int) + 1 < 8 := by omega
  have w1_ : IntKind.i64.wrap (256 * fo) = 256 * fo := IntWalk.i64_in _ (by omega)
  have w2_ : IntKind.i64.wrap (256 * fo + te) = 256 * fo + te := IntWalk.i64_in _ (by omega)
  have c9' : wc.cell? ⟨a1, 9, none⟩ = some (.int .i64 k) := (blk_cell hA.k1 9).trans rfl
  have e7 : ¬ n = 7 := by omega
  have e8_ : ¬ n = 8 := by omega
  have e9 : ¬ n = 9 := by omega
  have hAn := hA.ne
  have hAm := hA.ne.symm
  go_upto_region 12 with fail
  go_cut [1, 2, 50] (fun s t u W => ∃ b1 b2 : Nat, s = .pointer (some ⟨b1, 0, none⟩) ∧ t = .pointer (some ⟨b2, 0, none⟩) ∧ u = .bool (decide (k < 0)) ∧ WR w y b1 b2 W)
  case first =>
    clear hy hw hyk
    go_wp2_with fail
    go_meet
    refine ⟨a1, a2, rfl, rfl, rfl, ⟨?_, ?_, hA.l1, hA.l2, hA.ne, ((hA.below.setCell hA.l1 _).setCell hA.l1 _).setCell hA.l1 _⟩⟩
    · refine (blk_put (blk_put (blk_put hA.k1 n _ (scC_set _ _ n (by omega))) (n + 1) _ (scC_set _ _ (n + 1) (by omega))) 8 _ rfl).trans ?_
      rw [HY.out]
      refine congrArg some (congrArg (fun c => Obj.cells c _ (0, 0)) ?_)
      refine Eq.trans (b := scC { L := fun j => if j = n + 1 then (256 * fo + te) % 65536 else if j = n then (256 * fo + te) / 65536 else L j, N := (n : Int) + 2, skip := k, st := 6, digs := dg, val := va, ten := te, parts := pa, four := fo }) rfl (scC_ext ?_ rfl rfl rfl rfl rfl rfl rfl rfl)
      intro j hj
      show (if j = n + 1 then (256 * fo + te) % 65536 else if j = n then (256 * fo + te) / 65536 else L j) = if (j : Int) = (n : Int) then (256 * fo + te) / 65536 % 65536 else if (j : Int) = (n : Int) + 1 then (256 * fo + te) % 65536 else L j
      by_cases q : j = n
      · rw [if_neg (show ¬ j = n + 1 by omega), if_pos q, if_pos (show (j : Int) = (n : Int) by omega)]
        omega
      · rw [if_neg (show ¬ (j : Int) = (n : Int) by omega), if_neg q]
        by_cases q' : j = n + 1
        · rw [if_pos q', if_pos (show (j : Int) = (n : Int) + 1 by omega)]
        · rw [if_neg q', if_neg (show ¬ (j : Int) = (n : Int) + 1 by omega)]
    · exact blk_far (blk_far (blk_far hA.k2 hA.ne.symm _) hA.ne.symm _) hA.ne.symm _
  case rest =>
    obtain ⟨b1, b2, rfl, rfl, rfl, hR⟩ := hcut
    have hwf : (⟨L, (n : Int), k, 6, dg, va, te, pa, fo⟩ : Sc).whole = y.fin := hw
    clear hw hy
    have hk : y.skip = k := hyk
    clear hyk
    have c8 : wc.cell? ⟨b1, 8, none⟩ = some (.int .i64 y.N) := (blk_cell hR.k1 8).trans rfl
    have c9 : wc.cell? ⟨b1, 9, none⟩ = some (.int .i64 k) := (blk_cell hR.k1 9).trans (by rw [← hk]; rfl)
    have HK := Lib.hid hk
    clear hk
    have HW := Lib.hid hwf
    clear hwf
    have hN0 : 0 ≤ y.N := HN0.out
    have hN8 : y.N ≤ 8 := HN8.out
    have hkN : k ≤ y.N := HKN.out
    by_cases hk : k < 0
    · have hkb : decide (k < 0) = true := decide_eq_true hk
      rw [hkb]
      have hne := hR.ne
      have hne' := hR.ne.symm
      have z0 : wc.cell? ⟨b1, 0, none⟩ = some (.int .u16 (y.L 0)) := (blk_cell hR.k1 0).trans rfl
      have y0 : wc.cell? ⟨b2, 0, none⟩ = some (.int .u16 0) := (blk_cell hR.k2 0).trans rfl
      have v0 : wc.frozen? ⟨b2, 0, none⟩ = false := blk_frozen hR.k2 0
      have z1 : wc.cell? ⟨b1, 1, none⟩ = some (.int .u16 (y.L 1)) := (blk_cell hR.k1 1).trans rfl
      have y1 : wc.cell? ⟨b2, 1, none⟩ = some (.int .u16 0) := (blk_cell hR.k2 1).trans rfl
      have v1 : wc.frozen? ⟨b2, 1, none⟩ = false := blk_frozen hR.k2 1
      have z2 : wc.cell? ⟨b1, 2, none⟩ = some (.int .u16 (y.L 2)) := (blk_cell hR.k1 2).trans rfl
      have y2 : wc.cell? ⟨b2, 2, none⟩ = some (.int .u16 0) := (blk_cell hR.k2 2).trans rfl
      have v2 : wc.frozen? ⟨b2, 2, none⟩ = false := blk_frozen hR.k2 2
      have z3 : wc.cell? ⟨b1, 3, none⟩ = some (.int .u16 (y.L 3)) := (blk_cell hR.k1 3).trans rfl
      have y3 : wc.cell? ⟨b2, 3, none⟩ = some (.int .u16 0) := (blk_cell hR.k2 3).trans rfl
      have v3 : wc.frozen? ⟨b2, 3, none⟩ = false := blk_frozen hR.k2 3
      have z4 : wc.cell? ⟨b1, 4, none⟩ = some (.int .u16 (y.L 4)) := (blk_cell hR.k1 4).trans rfl
      have y4 : wc.cell? ⟨b2, 4, none⟩ = some (.int .u16 0) := (blk_cell hR.k2 4).trans rfl
      have v4 : wc.frozen? ⟨b2, 4, none⟩ = false := blk_frozen hR.k2 4
      have z5 : wc.cell? ⟨b1, 5, none⟩ = some (.int .u16 (y.L 5)) := (blk_cell hR.k1 5).trans rfl
      have y5 : wc.cell? ⟨b2, 5, none⟩ = some (.int .u16 0) := (blk_cell hR.k2 5).trans rfl
      have v5 : wc.frozen? ⟨b2, 5, none⟩ = false := blk_frozen hR.k2 5
      have z6 : wc.cell? ⟨b1, 6, none⟩ = some (.int .u16 (y.L 6)) := (blk_cell hR.k1 6).trans rfl
      have y6 : wc.cell? ⟨b2, 6, none⟩ = some (.int .u16 0) := (blk_cell hR.k2 6).trans rfl
      have v6 : wc.frozen? ⟨b2, 6, none⟩ = false := blk_frozen hR.k2 6
      have z7 : wc.cell? ⟨b1, 7, none⟩ = some (.int .u16 (y.L 7)) := (blk_cell hR.k1 7).trans rfl
      have y7 : wc.cell? ⟨b2, 7, none⟩ = some (.int .u16 0) := (blk_cell hR.k2 7).trans rfl
      have v7 : wc.frozen? ⟨b2, 7, none⟩ = false := blk_frozen hR.k2 7
      go_wp2_with fail
      go_region
      all_goals go_wp2_with fail
      try simp only [Exit.inBlock, Exit.then]
      refine bodyPost_ret (results_cell2 rfl rfl (ld8 (blk_drew (blk_put8 hR.k2 y.L)))) rfl ?_
      refine ⟨y.L, (y.N == 8), ?_, ?_, ?_, ?_⟩
      · simp
      · intro h
        refine ⟨_, HW.out.trans (by unfold Sc.fin; rw [HK.out, if_pos hk, if_pos (by simpa using h)]), fun _ _ => rfl⟩
      · intro h
        exact HW.out.trans (by unfold Sc.fin; rw [HK.out, if_pos hk, if_neg (by simpa using h)])
      · exact (below_put8 hR.below hR.l2 _ _ _ _ _ _ _ _).drew
    · have hkb : decide (k < 0) = false := decide_eq_false hk
      rw [hkb]
      obtain ⟨K, rfl⟩ := Int.eq_ofNat_of_zero_le (show 0 ≤ k by omega)
      obtain ⟨M, hM⟩ := Int.eq_ofNat_of_zero_le hN0
      have HM := Lib.hid hM
      clear hM
      have hR5 := hR.new
      go_wp2_with fail
      clear c8 c9 hR
      go_loopw [6] (fun i W => ∃ n : Nat, n ≤ K ∧ i = .int .i64 n ∧ LR w y b1 b2 wc.heap.size (fun j => if j < n then y.L j else 0) W) (fun i _ => K - (intOf i).toNat)
      case atStart => exact ⟨0, by omega, rfl, by simpa using hR5⟩
      case round =>
        obtain ⟨n, hn, rfl, hL⟩ := hrel
        clear hR5
        have d8 : wr.cell? ⟨b1, 8, none⟩ = some (.int .i64 (M : Int)) := (blk_cell hL.k1 8).trans (by rw [← HM.out]; rfl)
        have hKM : K ≤ M := by have := HM.out; omega
        have hM8 : M ≤ 8 := by have := HM.out; omega
        have d9 : wr.cell? ⟨b1, 9, none⟩ = some (.int .i64 (K : Int)) := (blk_cell hL.k1 9).trans (by rw [← HK.out]; rfl)
        by_cases hlt : n < K
        · have h8 : n < 8 := by omega
          have dn : wr.cell? ⟨b1, n, none⟩ = some (.int .u16 (y.L n)) := (blk_cell hL.k1 n).trans (scC_get y n h8)
          have en : wr.cell? ⟨wc.heap.size, n, none⟩ = some (.int .u16 (if n < n then y.L n else 0)) := (blk_cell hL.k5 n).trans (ar8_get _ n h8)
          have fn : wr.frozen? ⟨wc.heap.size, n, none⟩ = false := blk_frozen hL.k5 n
          have h8i : (n : Int) < 8 := by omega
          go_wp2_with fail
          refine ⟨⟨n + 1, by omega, by go_num, hL.put n h8 _ ?_⟩, ?_⟩
          · intro j hj
            by_cases e : j = n
            · subst e; rw [if_pos rfl, if_pos (by omega)]
            · rw [if_neg e]
              by_cases e2 : j < n
              · rw [if_pos e2, if_pos (by omega)]
              · rw [if_neg e2, if_neg (by omega)]
          · simp [intOf]; omega
        · obtain rfl : n = K := by omega
          have hL2 : LR w y b1 b2 wc.heap.size (g2 y n M n) wr := hL.congr (g2_start y n M hKM)
          clear hL
          go_wp2_with fail
          clear d8 d9
          go_loopw [7] (fun i W => ∃ m : Nat, n ≤ m ∧ m ≤ M ∧ i = .int .i64 m ∧ LR w y b1 b2 wc.heap.size (g2 y n M m) W) (fun i _ => M - (intOf i).toNat)
          case atStart => exact ⟨n, Nat.le_refl _, hKM, rfl, hL2⟩
          case round =>
            obtain ⟨m, hm0, hm1, rfl, hL⟩ := hrel
            clear hL2
            have d8 : wr.cell? ⟨b1, 8, none⟩ = some (.int .i64 (M : Int)) := (blk_cell hL.k1 8).trans (by rw [← HM.out]; rfl)
            by_cases hlt : m < M
            · have h8 : m < 8 := by omega
              obtain ⟨p, hp⟩ : ∃ p : Nat, p + M = 8 + m := ⟨8 + m - M, by omega⟩
              have hp8 : p < 8 := by omega
              have dn : wr.cell? ⟨b1, m, none⟩ = some (.int .u16 (y.L m)) := (blk_cell hL.k1 m).trans (scC_get y m h8)
              have en : wr.cell? ⟨wc.heap.size, p, none⟩ = some (.int .u16 (g2 y n M m p)) := (blk_cell hL.k5 p).trans (ar8_get _ p hp8)
              have fn : wr.frozen? ⟨wc.heap.size, p, none⟩ = false := blk_frozen hL.k5 p
              have h8i : (m : Int) < 8 := by omega
              have hp8i : (p : Int) < 8 := by omega
              have w1_ : IntKind.i64.wrap (8 - (M : Int)) = 8 - (M : Int) := IntWalk.i64_in _ (by omega)
              have w2_ : IntKind.i64.wrap (8 - (M : Int) + (m : Int)) = (p : Int) := (IntWalk.i64_in _ (by omega)).trans (by omega)
              have HP := Lib.hid hp
              have hltI : (m : Int) < M := by omega
              clear hp
              go_wp2_with fail
              go_region
              go_wp2_with fail
              refine ⟨⟨m + 1, by omega, by omega, by go_num, (hL.put p hp8 _ (g2_step y n M m p hm0 hlt hM8 HP.out)).drew⟩, ?_⟩
              simp [intOf]
              omega
            · obtain rfl : m = M := by omega
              have e0 : wr.cell? ⟨wc.heap.size, 0, none⟩ = some (.int .u16 (g2 y n m m 0)) := (blk_cell hL.k5 0).trans (ar8_get _ 0 (by decide))
              have y0 : wr.cell? ⟨b2, 0, none⟩ = some (.int .u16 0) := (blk_cell hL.k2 0).trans rfl
              have v0 : wr.frozen? ⟨b2, 0, none⟩ = false := blk_frozen hL.k2 0
              have e1 : wr.cell? ⟨wc.heap.size, 1, none⟩ = some (.int .u16 (g2 y n m m 1)) := (blk_cell hL.k5 1).trans (ar8_get _ 1 (by decide))
              have y1 : wr.cell? ⟨b2, 1, none⟩ = some (.int .u16 0) := (blk_cell hL.k2 1).trans rfl
              have v1 : wr.frozen? ⟨b2, 1, none⟩ = false := blk_frozen hL.k2 1
              have e2 : wr.cell? ⟨wc.heap.size, 2, none⟩ = some (.int .u16 (g2 y n m m 2)) := (blk_cell hL.k5 2).trans (ar8_get _ 2 (by decide))
              have y2 : wr.cell? ⟨b2, 2, none⟩ = some (.int .u16 0) := (blk_cell hL.k2 2).trans rfl
              have v2 : wr.frozen? ⟨b2, 2, none⟩ = false := blk_frozen hL.k2 2
              have e3 : wr.cell? ⟨wc.heap.size, 3, none⟩ = some (.int .u16 (g2 y n m m 3)) := (blk_cell hL.k5 3).trans (ar8_get _ 3 (by decide))
              have y3 : wr.cell? ⟨b2, 3, none⟩ = some (.int .u16 0) := (blk_cell hL.k2 3).trans rfl
              have v3 : wr.frozen? ⟨b2, 3, none⟩ = false := blk_frozen hL.k2 3
              have e4 : wr.cell? ⟨wc.heap.size, 4, none⟩ = some (.int .u16 (g2 y n m m 4)) := (blk_cell hL.k5 4).trans (ar8_get _ 4 (by decide))
              have y4 : wr.cell? ⟨b2, 4, none⟩ = some (.int .u16 0) := (blk_cell hL.k2 4).trans rfl
              have v4 : wr.frozen? ⟨b2, 4, none⟩ = false := blk_frozen hL.k2 4
              have e5 : wr.cell? ⟨wc.heap.size, 5, none⟩ = some (.int .u16 (g2 y n m m 5)) := (blk_cell hL.k5 5).trans (ar8_get _ 5 (by decide))
              have y5 : wr.cell? ⟨b2, 5, none⟩ = some (.int .u16 0) := (blk_cell hL.k2 5).trans rfl
              have v5 : wr.frozen? ⟨b2, 5, none⟩ = false := blk_frozen hL.k2 5
              have e6 : wr.cell? ⟨wc.heap.size, 6, none⟩ = some (.int .u16 (g2 y n m m 6)) := (blk_cell hL.k5 6).trans (ar8_get _ 6 (by decide))
              have y6 : wr.cell? ⟨b2, 6, none⟩ = some (.int .u16 0) := (blk_cell hL.k2 6).trans rfl
              have v6 : wr.frozen? ⟨b2, 6, none⟩ = false := blk_frozen hL.k2 6
              have e7 : wr.cell? ⟨wc.heap.size, 7, none⟩ = some (.int .u16 (g2 y n m m 7)) := (blk_cell hL.k5 7).trans (ar8_get _ 7 (by decide))
              have y7 : wr.cell? ⟨b2, 7, none⟩ = some (.int .u16 0) := (blk_cell hL.k2 7).trans rfl
              have v7 : wr.frozen? ⟨b2, 7, none⟩ = false := blk_frozen hL.k2 7
              have hne := hL.n25
              have hne' := hL.n25.symm
              have hne2 := hL.n12
              go_wp2_with fail
              go_region
              all_goals go_wp2_with fail
              try simp only [Exit.inBlock, Exit.then]
              refine bodyPost_ret (results_cell2 rfl rfl (ld8 (blk_drew (blk_put8 hL.k2 (g2 y n m m))))) rfl ?_
              refine ⟨g2 y n m m, decide (m ≤ 7), ?_, ?_, ?_, ?_⟩
              · simp
                omega
              · intro h
                have h7 : m ≤ 7 := of_decide_eq_true h
                refine ⟨_, HW.out.trans (by unfold Sc.fin; rw [HK.out, if_neg (by omega), if_pos (by rw [HM.out]; omega)]), ?_⟩
                intro j hj
                exact g2_fin y n m j HM.out hj
              · intro h
                have h7 : ¬ m ≤ 7 := of_decide_eq_false h
                exact HW.out.trans (by unfold Sc.fin; rw [HK.out, if_neg (by omega), if_neg (by rw [HM.out]; omega)])
              · exact (below_put8 hL.below hL.l2 _ _ _ _ _ _ _ _).drew
set_option maxHeartbeats 2000000 in
set_option maxRecDepth 100000 in
theorem whole_n0 (L : Nat → Int) (N k dg va te pa fo : Int) (w : World) :
    Calls Tryz.prog 41 #[scV ⟨L, N, k, 0, dg, va, te, pa, fo⟩] w (WholeRet ⟨L, N, k, 0, dg, va, te, pa, fo⟩ w) := by
  go_enter Tryz.func41, Tryz.ntmps41
  go_wp2_with fail
  try simp only [Exit.inBlock, Exit.then]
  refine bodyPost_ret (results_cell2 rfl rfl (ld8 (f := fun _ => 0) (blk_new1 w _ _))) rfl ?_
  refine ⟨fun _ => 0, false, rfl, fun h => (by cases h), fun _ => ?_, by go_grown⟩
  unfold Sc.whole
  rw [if_neg (by show ¬ (0 : Int) = 3; decide), if_neg (by show ¬ (0 : Int) = 4; decide), if_neg (by show ¬ (0 : Int) = 6; decide)]
set_option maxHeartbeats 2000000 in
set_option maxRecDepth 100000 in
theorem whole_n1 (L : Nat → Int) (N k dg va te pa fo : Int) (w : World) :
    Calls Tryz.prog 41 #[scV ⟨L, N, k, 1, dg, va, te, pa, fo⟩] w (WholeRet ⟨L, N, k, 1, dg, va, te, pa, fo⟩ w) := by
  go_enter Tryz.func41, Tryz.ntmps41
  go_wp2_with fail
  try simp only [Exit.inBlock, Exit.then]
  refine bodyPost_ret (results_cell2 rfl rfl (ld8 (f := fun _ => 0) (blk_new1 w _ _))) rfl ?_
  refine ⟨fun _ => 0, false, rfl, fun h => (by cases h), fun _ => ?_, by go_grown⟩
  unfold Sc.whole
  rw [if_neg (by show ¬ (1 : Int) = 3; decide), if_neg (by show ¬ (1 : Int) = 4; decide), if_neg (by show ¬ (1 : Int) = 6; decide)]
set_option maxHeartbeats 2000000 in
set_option maxRecDepth 100000 in
theorem whole_n2 (L : Nat → Int) (N k dg va te pa fo : Int) (w : World) :
    Calls Tryz.prog 41 #[scV ⟨L, N, k, 2, dg, va, te, pa, fo⟩] w (WholeRet ⟨L, N, k, 2, dg, va, te, pa, fo⟩ w) := by
  go_enter Tryz.func41, Tryz.ntmps41
  go_wp2_with fail
  try simp only [Exit.inBlock, Exit.then]
  refine bodyPost_ret (results_cell2 rfl rfl (ld8 (f := fun _ => 0) (blk_new1 w _ _))) rfl ?_
  refine ⟨fun _ => 0, false, rfl, fun h => (by cases h), fun _ => ?_, by go_grown⟩
  unfold Sc.whole
  rw [if_neg (by show ¬ (2 : Int) = 3; decide), if_neg (by show ¬ (2 : Int) = 4; decide), if_neg (by show ¬ (2 : Int) = 6; decide)]
set_option maxHeartbeats 2000000 in
set_option maxRecDepth 100000 in
theorem whole_n5 (L : Nat → Int) (N k dg va te pa fo : Int) (w : World) :
    Calls Tryz.prog 41 #[scV ⟨L, N, k, 5, dg, va, te, pa, fo⟩] w (WholeRet ⟨L, N, k, 5, dg, va, te, pa, fo⟩ w) := by
  go_enter Tryz.func41, Tryz.ntmps41
  go_wp2_with fail
  try simp only [Exit.inBlock, Exit.then]
  refine bodyPost_ret (results_cell2 rfl rfl (ld8 (f := fun _ => 0) (blk_new1 w _ _))) rfl ?_
  refine ⟨fun _ => 0, false, rfl, fun h => (by cases h), fun _ => ?_, by go_grown⟩
  unfold Sc.whole
  rw [if_neg (by show ¬ (5 : Int) = 3; decide), if_neg (by show ¬ (5 : Int) = 4; decide), if_neg (by show ¬ (5 : Int) = 6; decide)]
set_option maxHeartbeats 2000000 in
set_option maxRecDepth 100000 in
theorem whole_n6 (L : Nat → Int) (N k dg va te pa fo : Int) (hp : (pa != 3) = true) (w : World) :
    Calls Tryz.prog 41 #[scV ⟨L, N, k, 6, dg, va, te, pa, fo⟩] w (WholeRet ⟨L, N, k, 6, dg, va, te, pa, fo⟩ w) := by
  go_enter Tryz.func41, Tryz.ntmps41
  go_wp2_with fail
  try simp only [Exit.inBlock, Exit.then]
  refine bodyPost_ret (results_cell2 rfl rfl (ld8 (f := fun _ => 0) (blk_new1 w _ _))) rfl ?_
  refine ⟨fun _ => 0, false, rfl, fun h => (by cases h), fun _ => ?_, by go_grown⟩
  unfold Sc.whole
  rw [if_neg (by show ¬ (6 : Int) = 3; decide), if_neg (by show ¬ (6 : Int) = 4; decide), if_pos rfl, if_neg (by simpa using hp)]
theorem whole_walk (x : Sc) (s0 : 0 ≤ x.st) (s6 : x.st ≤ 6) (n0 : 0 ≤ x.N) (n7 : x.N ≤ 7) (k0 : -1 ≤ x.skip) (k7 : x.skip ≤ x.N) (h4 : x.st = 4 → 0 ≤ x.val ∧ x.val ≤ 65535)
    (h6 : x.st = 6 → x.N ≤ 6 ∧ 0 ≤ x.ten ∧ x.ten ≤ 255 ∧ 0 ≤ x.four ∧ x.four ≤ 16777215) (w : World) :
    Calls Tryz.prog 41 #[scV x] w (WholeRet x w) := by
  obtain ⟨L, N, k, st, dg, va, te, pa, fo⟩ := x
  dsimp only at s0 s6 n0 n7 k0 k7 h4 h6
  have hst : st = 0 ∨ st = 1 ∨ st = 2 ∨ st = 3 ∨ st = 4 ∨ st = 5 ∨ st = 6 := by omega
  rcases hst with rfl | rfl | rfl | rfl | rfl | rfl | rfl
  · exact whole_n0 L N k dg va te pa fo w
  · exact whole_n1 L N k dg va te pa fo w
  · exact whole_n2 L N k dg va te pa fo w
  · exact whole_3 L N k dg va te pa fo n0 n7 k0 k7 w
  · obtain ⟨v0, v1⟩ := h4 rfl
    exact whole_4 L N k dg va te pa fo n0 n7 k0 k7 v0 v1 w
  · exact whole_n5 L N k dg va te pa fo w
  · obtain ⟨N6, t0, t1, f0, f1⟩ := h6 rfl
    by_cases hp : pa = 3
    · exact whole_6 L N k dg va te pa fo n0 n7 k0 k7 hp N6 f0 f1 t0 t1 w
    · exact whole_n6 L N k dg va te pa fo (by simpa using hp) w
end Go.Proofs.YtcgdjnmfeibnoaaGreatDoor
/-! SixOk -/
namespace Go.Proofs.YtcgdjnmfeibnoaaGreatDoor
open Go.RowKit Go.Proofs.YtcgdjnmfeibnoaaGreatDoorW.PrintWords
set_option linter.unusedVariables false
set_option linter.unusedSimpArgs false
theorem sc_ok {x : Sc} {l : List St} {t : List UInt8} (hs : Sim x l) (ht : TI x t) : ScOk x := by
  have hi : Inv x := by cases hs <;> assumption
  refine ⟨hi.n0, hi.n7, ?_, ?_, ?_, ?_⟩
  · cases hs <;> omega
  · cases hs <;> omega
  · intro h4
    have hv : 0 ≤ x.val ∧ x.val ≤ 65535 := by
      cases ht with
      | start h => omega
      | colon h => omega
      | single h => omega
      | piece h hb hc hd hv => rw [hv]; exact pcV_bound hc
      | stop h => omega
      | part h => omega
    cases hs with
    | ahead h => omega
    | piece h hi hr hp d1 d4 ht => unfold TenOk at ht; exact ⟨hp, by omega, by omega, hv.1, hv.2, by omega, by omega⟩
    | both h hi hr hp d1 d4 ht => unfold TenOk at ht; exact ⟨hp, by omega, by omega, hv.1, hv.2, by omega, by omega⟩
    | stop h => omega
    | part h => omega
  · intro h6
    have hf : 0 ≤ x.four ∧ x.four ≤ 16777215 := by
      cases ht with
      | start h => omega
      | colon h => omega
      | single h => omega
      | piece h => omega
      | stop h => omega
      | part h hb hn hno hr f0 f1 => omega
    cases hs with
    | ahead h => omega
    | piece h => omega
    | both h => omega
    | stop h => omega
    | part h hi hfi p1 p3 d1 ht t0 t1 => unfold TenOk at ht; exact ⟨by omega, by omega, t0, t1, by omega, hf.1, hf.2⟩
theorem whole_at {x : Sc} {l : List St} {t : List UInt8} (hs : Sim x l) (ht : TI x t) (w : World) :
    Calls Tryz.prog 41 #[scV x] w (WholeRet x w) := by
  have h := sc_ok hs ht
  have hi : Inv x := by cases hs <;> assumption
  refine whole_walk x h.s0 h.s6 hi.n0 hi.n7 hi.k0 hi.kn (fun e => ⟨(h.a4 e).2.2.2.1, (h.a4 e).2.2.2.2.1⟩) (fun e => ?_) w
  obtain ⟨_, _, t0, t1, _, f0, f1⟩ := h.a6 e
  refine ⟨?_, t0, t1, f0, f1⟩
  cases hs with
  | ahead h => omega
  | piece h => omega
  | both h => omega
  | stop h => omega
  | part h hi hfi => have := of_decide_eq_true hfi; omega
end Go.Proofs.YtcgdjnmfeibnoaaGreatDoor
/-! SixRefParse -/
namespace Go.Proofs.YtcgdjnmfeibnoaaGreatDoor
open Go.RowKit Go.Proofs.YtcgdjnmfeibnoaaGreatDoorW.PrintWords
set_option linter.unusedVariables false
set_option linter.unusedSimpArgs false
/-- The boxes of Parse: the result's and the scan's. -/
structure PR (w : World) (x : Sc) (W : World) : Prop where
  k2 : W.heap[w.heap.size]? = some (.cells (ar8 fun _ => 0) 30 (0, 0))
  k5 : W.heap[w.heap.size + 1]? = some (.cells (scC x) 87 (0, 0))
  below : Below w.heap.size w W
theorem PR.keep {w : World} {x : Sc} {W W' : World} (h : PR w x W) (hb : Below W.heap.size W W') : PR w x W' := ⟨blk_below h.k2 hb, blk_below h.k5 hb, h.below.trans (hb.mono h.below.size)⟩
theorem PR.load {w : World} {x : Sc} {W : World} (h : PR w x W) : (loadS (.pointer (some ⟨w.heap.size + 1, 0, none⟩))).run Tryz.prog W = .ok (scV x) W := by
  unfold loadS
  simp only [Instr.loadAt, Instr.sureAddr, Sem.run_bind, Sem.run_pure, Result.andThen]
  exact run_loadVar_row _ _ 87 87 _ (0, 0) _ h.k5 Tryz.underlying87 rfl (by kernel_rfl)
theorem PR.store {w : World} {x : Sc} {W : World} (h : PR w x W) (y : Sc) : ∃ W', (storeS (.pointer (some ⟨w.heap.size + 1, 0, none⟩)) (scV y)).run Tryz.prog W = .ok () W' ∧ PR w y W' := by
  refine ⟨W.setRow (w.heap.size + 1) (scC y), ?_, ?_, ?_, ?_⟩
  · unfold storeS
    simp only [Instr.storeAt, Instr.sureAddr, Sem.run_bind, Sem.run_pure, Result.andThen]
    exact run_storeVar_row _ _ 87 87 _ _ h.k5 (by kernel_rfl) rfl (by simp [Value.oneCell'])
  · rw [show (W.setRow (w.heap.size + 1) (scC y)).heap[w.heap.size]? = W.heap[w.heap.size]? from by simp [World.setRow, Array.getElem?_modify]]
    exact h.k2
  · exact setRow_heap _ _ _ _ _ _ h.k5
  · exact ⟨h.below.os, h.below.tape, h.below.output, by simpa [World.setRow] using h.below.size, fun i hi => by
      rw [show (W.setRow (w.heap.size + 1) (scC y)).heap[i]? = W.heap[i]? from by simp [World.setRow, Array.getElem?_modify]; omega]
      exact h.below.block i hi⟩
theorem results_cell3 {fn : Func} {t u v : Tmp} {ty : TypeId} {P : Program} {tmps : Array Value} {w : World} {a : Addr} {x : Value} (h : fn.results = #[.cell t ty, .tmp u, .tmp v]) (ht : tmps.getD t undef = .pointer (some a)) (hl : (loadVar ty a).run P w = .ok x w) :
    (results fn tmps).run P w = .ok (.tuple #[x, tmps.getD u undef, tmps.getD v undef]) w := by
  have ht' := ht
  simp at ht'
  simp [results, h, ht', asAddr, hl]
/-- What stands at the head of a round. -/
def PRel (s : ByteArray) (w : World) (i : Value) (W : World) : Prop :=
  ∃ (n : Nat) (x : Sc) (l : List St), n ≤ s.size ∧ i = .int .i64 n ∧ scanV s.data.toList sc0 0 = scanV (s.data.toList.drop n) x n ∧ Sim x l ∧ TI x (s.data.toList.take n) ∧ PR w x W
def RefParsed (s : ByteArray) (w : World) (e : Ending) (w' : World) : Prop :=
  ∃ f : Nat → Int, e = .returned (.tuple #[.agg (ar8 f), .int .i64 (parseR s.data.toList).2.1, .int .i64 (parseR s.data.toList).2.2]) ∧ (∀ j, j < 8 → f j = (parseR s.data.toList).1 j) ∧ Below w.heap.size w w'
set_option maxHeartbeats 4000000 in
set_option maxRecDepth 100000 in
theorem refParse_walk (s : ByteArray) (hs : s.size ≤ 9223372036854775807) (w : World) : Calls Tryz.prog 21 #[.string s] w (RefParsed s w) := by
  have hz := size_len s
  go_enter Tryz.func21, Tryz.ntmps21
  go_wp2_with fail
  go_loopw [6] (fun i W => PRel s w i W) (fun i _ => s.size - (intOf i).toNat)
  case atStart =>
    refine ⟨0, sc0, [st0], Nat.zero_le _, rfl, rfl, sim0, ti0, ?_, ?_, by go_grown⟩
    · exact blk_alloc (blk_new _ _) _
    · exact blk_new1 w _ _
  case round =>
    obtain ⟨n, x, l, hn, rfl, hsc, hS, hT, hP⟩ := hrel
    by_cases hlt : n < s.size
    · have hd : s.data.toList.drop n = s[n] :: s.data.toList.drop (n + 1) := List.drop_eq_getElem_cons (by omega)
      have htk : s.data.toList.take (n + 1) = s.data.toList.take n ++ [s[n]] := by rw [List.take_succ_eq_append_getElem (by omega)]; rfl
      have hok := sc_ok hS hT
      have hst := step_sim hS ((s[n].toNat : Nat) : Int)
      have hti := step_ti hS hT s[n]
      have c1 : ((s[n].toNat : Nat) : Int) < 256 := by have := s[n].toNat_lt; omega
      have hltI : (n : Int) < s.size := by omega
      rw [hd, scanV] at hsc
      have HD := Lib.hid hd
      have HTK := Lib.hid htk
      have HSC := Lib.hid hsc
      have HST := Lib.hid hst
      have HTI := Lib.hid hti
      clear hd htk hsc hst hti hz
      have hld : ∀ X : Ext wr, (loadS (.pointer (some ⟨w.heap.size + 1, 0, none⟩))).run Tryz.prog X.wd = .ok (scV x) X.wd := fun X => (hP.keep X.below).load
      go_wp2_with fail
      refine wp_region_ext_tail 4 (by kernel_rfl) (by kernel_rfl) ?_
      dsimp only [List.take, List.drop]
      repeat (go_big_quiet_step (fail))
      refine wpQuiet_nil ?_
      rintro w2 ⟨⟨W2, hb2⟩, hw2⟩
      obtain rfl : W2 = w2 := hw2.symm
      have hP2 := hP.keep hb2
      clear hld
      go_wp2_with fail
      refine (step_walk x hok _ (by omega) c1 _).mono ?_
      rintro e w3 ⟨rfl, hg3⟩
      obtain ⟨y, hy⟩ : ∃ y, y = x.step ((s[n].toNat : Nat) : Int) := ⟨_, rfl⟩
      rw [← hy]
      have HY := Lib.hid hy
      clear hy
      obtain ⟨W4, hst4, hP4⟩ := (hP2.keep hg3.below).store y
      have c10 : W4.cell? ⟨w.heap.size + 1, 10, none⟩ = some (.int .i64 y.st) := (blk_cell hP4.k5 10).trans rfl
      by_cases h7 : y.st = 7
      · rw [h7] at c10
        have y0 : W4.cell? ⟨w.heap.size, 0, none⟩ = some (.int .u16 0) := (blk_cell hP4.k2 0).trans rfl
        have v0 : W4.frozen? ⟨w.heap.size, 0, none⟩ = false := blk_frozen hP4.k2 0
        have y1 : W4.cell? ⟨w.heap.size, 1, none⟩ = some (.int .u16 0) := (blk_cell hP4.k2 1).trans rfl
        have v1 : W4.frozen? ⟨w.heap.size, 1, none⟩ = false := blk_frozen hP4.k2 1
        have y2 : W4.cell? ⟨w.heap.size, 2, none⟩ = some (.int .u16 0) := (blk_cell hP4.k2 2).trans rfl
        have v2 : W4.frozen? ⟨w.heap.size, 2, none⟩ = false := blk_frozen hP4.k2 2
        have y3 : W4.cell? ⟨w.heap.size, 3, none⟩ = some (.int .u16 0) := (blk_cell hP4.k2 3).trans rfl
        have v3 : W4.frozen? ⟨w.heap.size, 3, none⟩ = false := blk_frozen hP4.k2 3
        have y4 : W4.cell? ⟨w.heap.size, 4, none⟩ = some (.int .u16 0) := (blk_cell hP4.k2 4).trans rfl
        have v4 : W4.frozen? ⟨w.heap.size, 4, none⟩ = false := blk_frozen hP4.k2 4
        have y5 : W4.cell? ⟨w.heap.size, 5, none⟩ = some (.int .u16 0) := (blk_cell hP4.k2 5).trans rfl
        have v5 : W4.frozen? ⟨w.heap.size, 5, none⟩ = false := blk_frozen hP4.k2 5
        have y6 : W4.cell? ⟨w.heap.size, 6, none⟩ = some (.int .u16 0) := (blk_cell hP4.k2 6).trans rfl
        have v6 : W4.frozen? ⟨w.heap.size, 6, none⟩ = false := blk_frozen hP4.k2 6
        have y7 : W4.cell? ⟨w.heap.size, 7, none⟩ = some (.int .u16 0) := (blk_cell hP4.k2 7).trans rfl
        have v7 : W4.frozen? ⟨w.heap.size, 7, none⟩ = false := blk_frozen hP4.k2 7
        go_wp2_with fail
        try simp only [Exit.inBlock, Exit.then]
        refine bodyPost_ret (results_cell3 rfl rfl (ld8 (blk_put8 hP4.k2 (fun _ => 0)))) rfl ?_
        have hsc' : scanV s.data.toList sc0 0 = .inl n := HSC.out.trans (by rw [← HY.out, if_pos h7])
        refine ⟨fun _ => 0, ?_, ?_, below_put8 hP4.below (Nat.le_refl _) _ _ _ _ _ _ _ _⟩
        · unfold parseR; rw [hsc']; rfl
        · intro j hj; unfold parseR; rw [hsc']
      · have h7b : (y.st == 7) = false := beq_eq_false_iff_ne.2 h7
        go_wp2_with fail
        refine ⟨⟨n + 1, y, l.flatMap (nextP · ((s[n].toNat : Nat) : Int)), by omega, by go_num, HSC.out.trans (by rw [← HY.out, if_neg h7]), ?_, ?_, hP4⟩, ?_⟩
        · rcases HST.out with q | q
          · exact absurd (by rw [HY.out]; exact q.1) h7
          · rw [HY.out]; exact q.2
        · rw [HTK.out, HY.out]
          exact HTI.out (by rw [← HY.out]; exact h7)
        · simp [intOf]; omega
    · obtain rfl : n = s.size := by omega
      have hsc' : scanV s.data.toList sc0 0 = .inr x := hsc.trans (by rw [List.drop_of_length_le (by omega)]; rfl)
      have HSC := Lib.hid hsc'
      clear hsc hsc' hz
      have hld := hP.load
      go_wp2_with fail
      refine (whole_at hS hT _).mono ?_
      rintro e w2 ⟨f, ok, rfl, hy, hno, hb2⟩
      have hP2 := hP.keep hb2
      have hlt2 : w.heap.size < w2.heap.size := blk_lt hP2.k2
      clear hld
      unfold ar8
      have HY := Lib.hid hy
      have HN := Lib.hid hno
      clear hy hno
      cases ok
      · go_upto_region 10 with fail
        generalize hW : w2.alloc (Obj.cells #[.int .u16 (f 0), .int .u16 (f 1), .int .u16 (f 2), .int .u16 (f 3), .int .u16 (f 4), .int .u16 (f 5), .int .u16 (f 6), .int .u16 (f 7)] 30) = W5
        have hP5 : PR w x W5 := by rw [← hW]; exact hP2.keep ((Below.refl _ _).alloc (Nat.le_refl _) _)
        have h5 : W5.heap[w2.heap.size]? = some (.cells (ar8 f) 30 (0, 0)) := by rw [← hW]; exact blk_new _ _
        clear hW
        have y0 : W5.cell? ⟨w.heap.size, 0, none⟩ = some (.int .u16 0) := (blk_cell hP5.k2 0).trans rfl
        have v0 : W5.frozen? ⟨w.heap.size, 0, none⟩ = false := blk_frozen hP5.k2 0
        have y1 : W5.cell? ⟨w.heap.size, 1, none⟩ = some (.int .u16 0) := (blk_cell hP5.k2 1).trans rfl
        have v1 : W5.frozen? ⟨w.heap.size, 1, none⟩ = false := blk_frozen hP5.k2 1
        have y2 : W5.cell? ⟨w.heap.size, 2, none⟩ = some (.int .u16 0) := (blk_cell hP5.k2 2).trans rfl
        have v2 : W5.frozen? ⟨w.heap.size, 2, none⟩ = false := blk_frozen hP5.k2 2
        have y3 : W5.cell? ⟨w.heap.size, 3, none⟩ = some (.int .u16 0) := (blk_cell hP5.k2 3).trans rfl
        have v3 : W5.frozen? ⟨w.heap.size, 3, none⟩ = false := blk_frozen hP5.k2 3
        have y4 : W5.cell? ⟨w.heap.size, 4, none⟩ = some (.int .u16 0) := (blk_cell hP5.k2 4).trans rfl
        have v4 : W5.frozen? ⟨w.heap.size, 4, none⟩ = false := blk_frozen hP5.k2 4
        have y5 : W5.cell? ⟨w.heap.size, 5, none⟩ = some (.int .u16 0) := (blk_cell hP5.k2 5).trans rfl
        have v5 : W5.frozen? ⟨w.heap.size, 5, none⟩ = false := blk_frozen hP5.k2 5
        have y6 : W5.cell? ⟨w.heap.size, 6, none⟩ = some (.int .u16 0) := (blk_cell hP5.k2 6).trans rfl
        have v6 : W5.frozen? ⟨w.heap.size, 6, none⟩ = false := blk_frozen hP5.k2 6
        have y7 : W5.cell? ⟨w.heap.size, 7, none⟩ = some (.int .u16 0) := (blk_cell hP5.k2 7).trans rfl
        have v7 : W5.frozen? ⟨w.heap.size, 7, none⟩ = false := blk_frozen hP5.k2 7
        go_wp2_with fail
        try simp only [Exit.inBlock, Exit.then]
        refine bodyPost_ret (results_cell3 rfl rfl (ld8 (blk_put8 hP5.k2 (fun _ => 0)))) rfl ?_
        refine ⟨fun _ => 0, ?_, ?_, below_put8 hP5.below (Nat.le_refl _) _ _ _ _ _ _ _ _⟩
        · unfold parseR; rw [HSC.out]; simp only [HN.out (by simp)]; rfl
        · intro j hj; unfold parseR; rw [HSC.out]; simp only [HN.out (by simp)]
      · go_upto_region 11 with fail
        generalize hW : w2.alloc (Obj.cells #[.int .u16 (f 0), .int .u16 (f 1), .int .u16 (f 2), .int .u16 (f 3), .int .u16 (f 4), .int .u16 (f 5), .int .u16 (f 6), .int .u16 (f 7)] 30) = W5
        have hP5 : PR w x W5 := by rw [← hW]; exact hP2.keep ((Below.refl _ _).alloc (Nat.le_refl _) _)
        have h5 : W5.heap[w2.heap.size]? = some (.cells (ar8 f) 30 (0, 0)) := by rw [← hW]; exact blk_new _ _
        clear hW
        have y0 : W5.cell? ⟨w.heap.size, 0, none⟩ = some (.int .u16 0) := (blk_cell hP5.k2 0).trans rfl
        have v0 : W5.frozen? ⟨w.heap.size, 0, none⟩ = false := blk_frozen hP5.k2 0
        have y1 : W5.cell? ⟨w.heap.size, 1, none⟩ = some (.int .u16 0) := (blk_cell hP5.k2 1).trans rfl
        have v1 : W5.frozen? ⟨w.heap.size, 1, none⟩ = false := blk_frozen hP5.k2 1
        have y2 : W5.cell? ⟨w.heap.size, 2, none⟩ = some (.int .u16 0) := (blk_cell hP5.k2 2).trans rfl
        have v2 : W5.frozen? ⟨w.heap.size, 2, none⟩ = false := blk_frozen hP5.k2 2
        have y3 : W5.cell? ⟨w.heap.size, 3, none⟩ = some (.int .u16 0) := (blk_cell hP5.k2 3).trans rfl
        have v3 : W5.frozen? ⟨w.heap.size, 3, none⟩ = false := blk_frozen hP5.k2 3
        have y4 : W5.cell? ⟨w.heap.size, 4, none⟩ = some (.int .u16 0) := (blk_cell hP5.k2 4).trans rfl
        have v4 : W5.frozen? ⟨w.heap.size, 4, none⟩ = false := blk_frozen hP5.k2 4
        have y5 : W5.cell? ⟨w.heap.size, 5, none⟩ = some (.int .u16 0) := (blk_cell hP5.k2 5).trans rfl
        have v5 : W5.frozen? ⟨w.heap.size, 5, none⟩ = false := blk_frozen hP5.k2 5
        have y6 : W5.cell? ⟨w.heap.size, 6, none⟩ = some (.int .u16 0) := (blk_cell hP5.k2 6).trans rfl
        have v6 : W5.frozen? ⟨w.heap.size, 6, none⟩ = false := blk_frozen hP5.k2 6
        have y7 : W5.cell? ⟨w.heap.size, 7, none⟩ = some (.int .u16 0) := (blk_cell hP5.k2 7).trans rfl
        have v7 : W5.frozen? ⟨w.heap.size, 7, none⟩ = false := blk_frozen hP5.k2 7
        have z0 : W5.cell? ⟨w2.heap.size, 0, none⟩ = some (.int .u16 (f 0)) := (blk_cell h5 0).trans rfl
        have z1 : W5.cell? ⟨w2.heap.size, 1, none⟩ = some (.int .u16 (f 1)) := (blk_cell h5 1).trans rfl
        have z2 : W5.cell? ⟨w2.heap.size, 2, none⟩ = some (.int .u16 (f 2)) := (blk_cell h5 2).trans rfl
        have z3 : W5.cell? ⟨w2.heap.size, 3, none⟩ = some (.int .u16 (f 3)) := (blk_cell h5 3).trans rfl
        have z4 : W5.cell? ⟨w2.heap.size, 4, none⟩ = some (.int .u16 (f 4)) := (blk_cell h5 4).trans rfl
        have z5 : W5.cell? ⟨w2.heap.size, 5, none⟩ = some (.int .u16 (f 5)) := (blk_cell h5 5).trans rfl
        have z6 : W5.cell? ⟨w2.heap.size, 6, none⟩ = some (.int .u16 (f 6)) := (blk_cell h5 6).trans rfl
        have z7 : W5.cell? ⟨w2.heap.size, 7, none⟩ = some (.int .u16 (f 7)) := (blk_cell h5 7).trans rfl
        have hne : ¬ w2.heap.size = w.heap.size := by omega
        have hne' : ¬ w.heap.size = w2.heap.size := by omega
        go_wp2_with fail
        try simp only [Exit.inBlock, Exit.then]
        obtain ⟨A, hA, hfA⟩ := HY.out (by simp)
        refine bodyPost_ret (results_cell3 rfl rfl (ld8 (blk_put8 hP5.k2 f))) rfl ?_
        refine ⟨f, ?_, ?_, below_put8 hP5.below (Nat.le_refl _) _ _ _ _ _ _ _ _⟩
        · unfold parseR; rw [HSC.out]; simp only [hA]; rfl
        · intro j hj; unfold parseR; rw [HSC.out]; simp only [hA]; exact hfA j hj
end Go.Proofs.YtcgdjnmfeibnoaaGreatDoor
/-! StShelf -/
namespace Go.Proofs
open Go.Shelf
def Tryz.stIndex_ren : Go.Shelf.Ren := ⟨fun | 6 => 49 | n => n, fun | 22 => 75 | 23 => 74 | 25 => 78 | 3 => 3 | 0 => 0 | 4 => 4 | n => n, fun | n => n⟩
theorem Tryz.stIndex : Go.Proofs.SlLaysH0.n6 Tryz.prog Tryz.stIndex_ren := {
  mixed := by kernel_rfl
  f6 := ⟨Tryz.f49.name, by decide, Tryz.func49.trans (congrArg some (by kernel_rfl))⟩
  t0 := Tryz.underlying0
  a0 := Tryz.isAgg0
  z0 := Tryz.sizeOf0
  v0 := Tryz.zeroValue0
  t3 := Tryz.underlying3
  a3 := Tryz.isAgg3
  z3 := Tryz.sizeOf3
  v3 := Tryz.zeroValue3
  t4 := Tryz.underlying4
  a4 := Tryz.isAgg4
  z4 := Tryz.sizeOf4
  v4 := Tryz.zeroValue4
  t22 := Tryz.underlying75
  a22 := Tryz.isAgg75
  z22 := Tryz.sizeOf75
  v22 := Tryz.zeroValue75
  t25 := Tryz.underlying78
  a25 := Tryz.isAgg78
  z25 := Tryz.sizeOf78
  v25 := Tryz.zeroValue78 }
end Go.Proofs
/-! SixSt -/
namespace Go.Proofs.YtcgdjnmfeibnoaaGreatDoor
open Go.RowKit Go.Proofs.YtcgdjnmfeibnoaaGreatDoorW.PrintWords Go.Proofs.YtcgdjnmfeibnoaaGreatDoor.X
set_option linter.unusedVariables false
set_option linter.unusedSimpArgs false
abbrev stV (x : St) : Value := .agg #[.int .i64 x.wh, .int .i64 x.pc, .bool x.gap, .int .i64 x.dg, .int .i64 x.nu, .int .i64 x.va]
set_option maxHeartbeats 1000000 in
set_option maxRecDepth 100000 in
theorem stMore_walk (a b : Int) (g : Bool) (d n v : Int) (w : World) :
    Calls Tryz.prog 47 #[.agg #[.int .i64 a, .int .i64 b, .bool g, .int .i64 d, .int .i64 n, .int .i64 v]] w fun e w' => e = .returned (.bool (moreP ⟨a, b, g, d, n, v⟩)) ∧ Below w.heap.size w w' := by
  unfold moreP
  cases g
  · go_enter Tryz.func47, Tryz.ntmps47
    go_wp2
    go_returns
    exact ⟨rfl, by go_grown⟩
  · go_enter Tryz.func47, Tryz.ntmps47
    go_wp2
    go_returns
    exact ⟨rfl, by go_grown⟩
set_option maxHeartbeats 1000000 in
set_option maxRecDepth 100000 in
theorem stMay_walk (a b : Int) (g : Bool) (d n v : Int) (w : World) :
    Calls Tryz.prog 72 #[.agg #[.int .i64 a, .int .i64 b, .bool g, .int .i64 d, .int .i64 n, .int .i64 v]] w fun e w' => e = .returned (.bool (mayP ⟨a, b, g, d, n, v⟩)) ∧ Below w.heap.size w w' := by
  unfold mayP
  cases g
  · go_enter Tryz.func72, Tryz.ntmps72
    go_wp2
    go_returns
    exact ⟨by first | rfl | (rw [Int.beq_eq]; rfl) | simp, by go_grown⟩
  · go_enter Tryz.func72, Tryz.ntmps72
    go_wp2
    go_returns
    exact ⟨rfl, by go_grown⟩
/-- The cells of states. -/
def stC (x : St) : List Value := [.int .i64 x.wh, .int .i64 x.pc, .bool x.gap, .int .i64 x.dg, .int .i64 x.nu, .int .i64 x.va]
def stCs (l : List St) : List Value := l.flatMap stC
/-- A row of states of the call's own. -/
def StRow (w : World) (l : List St) (e : Ending) (w' : World) : Prop := ∃ v, e = .returned v ∧ w'.ownsRow w.heap.size 74 6 v l.length (stCs l) ∧ Below w.heap.size w w'
theorem row_nil {w W : World} (hb : Below w.heap.size w W) : StRow w [] (.returned (.slice none 0 0)) W := ⟨_, rfl, own_nil _ _ _ _, hb⟩
theorem row_lit {w W : World} (x : St) (hb : Below w.heap.size w W) : StRow w [x] (.returned (.slice (some ⟨W.heap.size, 0, none⟩) 1 1)) (W.alloc (.cells #[.int .i64 x.wh, .int .i64 x.pc, .bool x.gap, .int .i64 x.dg, .int .i64 x.nu, .int .i64 x.va] 74)) := by
  refine ⟨_, rfl, ?_, hb.alloc hb.size _⟩
  have := World.ownsRow_lit (base := w.heap.size) (size := 6) (e := 74) W #[.int .i64 x.wh, .int .i64 x.pc, .bool x.gap, .int .i64 x.dg, .int .i64 x.nu, .int .i64 x.va] 1 hb.size (by unfold maxLen; omega) rfl
  exact this
theorem chain0 {w W W' : World} (h : Below w.heap.size w W) (k : Below W.heap.size W W') : Below w.heap.size w W' := h.trans (k.mono h.size)
theorem st_info : ∃ i, Tryz.prog.info? 74 = some i ∧ i.zero = some (.agg #[.int .i64 0, .int .i64 0, .bool false, .int .i64 0, .int .i64 0, .int .i64 0]) ∧ i.size = 6 ∧ i.bytes = 48 :=
  info_parts (show (Tryz.prog.info? 74).map (fun i => (i.zero, i.size, i.bytes)) = some (some (.agg #[.int .i64 0, .int .i64 0, .bool false, .int .i64 0, .int .i64 0, .int .i64 0]), 6, 48) by kernel_rfl)
set_option maxHeartbeats 2000000 in
set_option maxRecDepth 100000 in
theorem begin_no (a b : Int) (g : Bool) (d n v c : Int) (h0 : 0 ≤ c) (h1 : c < 256) (hd : decide (0 ≤ digV c 16) = false) (hk : decide (0 ≤ digV c 10) = false) (w : World) :
    Calls Tryz.prog 46 #[.agg #[.int .i64 a, .int .i64 b, .bool g, .int .i64 d, .int .i64 n, .int .i64 v], .int .u8 c] w (StRow w []) := by
  go_enter Tryz.func46, Tryz.ntmps46
  go_wp2_with fail
  refine (digit_walk c 16 h0 h1 _).mono ?_
  rintro e w0 ⟨rfl, rfl⟩
  go_wp2_with fail
  refine (digit_walk c 10 h0 h1 _).mono ?_
  rintro e w0 ⟨rfl, rfl⟩
  go_wp2_with fail
  go_returns
  exact row_nil (by go_grown)
set_option maxHeartbeats 2000000 in
set_option maxRecDepth 100000 in
theorem begin_full (a b : Int) (g : Bool) (d n v c : Int) (h0 : 0 ≤ c) (h1 : c < 256) (hd : decide (0 ≤ digV c 16) = true) (hk : decide (0 ≤ digV c 10) = false) (hm : moreP ⟨a, b, g, d, n, v⟩ = false) (w : World) :
    Calls Tryz.prog 46 #[.agg #[.int .i64 a, .int .i64 b, .bool g, .int .i64 d, .int .i64 n, .int .i64 v], .int .u8 c] w (StRow w []) := by
  go_enter Tryz.func46, Tryz.ntmps46
  go_wp2_with fail
  refine (digit_walk c 16 h0 h1 _).mono ?_
  rintro e w0 ⟨rfl, rfl⟩
  go_wp2_with fail
  refine (stMore_walk _ _ _ _ _ _ _).mono ?_
  rintro e w1 ⟨rfl, hb1⟩
  rw [hm]
  have B1 : Below w.heap.size w w1 := chain0 (by go_grown) hb1
  obtain ⟨hc1, hf1, hs1⟩ := after hb1
  try simp only [World.size_alloc] at hs1
  have l0 : w.heap.size < w1.heap.size := by omega
  clear hb1 hs1
  go_wp2_with fail
  refine (digit_walk c 10 h0 h1 _).mono ?_
  rintro e w0 ⟨rfl, rfl⟩
  go_wp2_with fail
  go_returns
  exact row_nil B1
set_option maxHeartbeats 2000000 in
set_option maxRecDepth 100000 in
theorem begin_full10 (a b : Int) (g : Bool) (d n v c : Int) (h0 : 0 ≤ c) (h1 : c < 256) (hd : decide (0 ≤ digV c 16) = true) (hk : decide (0 ≤ digV c 10) = true) (hm : moreP ⟨a, b, g, d, n, v⟩ = false) (hy : mayP ⟨a, b, g, d, n, v⟩ = false) (w : World) :
    Calls Tryz.prog 46 #[.agg #[.int .i64 a, .int .i64 b, .bool g, .int .i64 d, .int .i64 n, .int .i64 v], .int .u8 c] w (StRow w []) := by
  go_enter Tryz.func46, Tryz.ntmps46
  go_wp2_with fail
  refine (digit_walk c 16 h0 h1 _).mono ?_
  rintro e w0 ⟨rfl, rfl⟩
  go_wp2_with fail
  refine (stMore_walk _ _ _ _ _ _ _).mono ?_
  rintro e w1 ⟨rfl, hb1⟩
  rw [hm]
  have B1 : Below w.heap.size w w1 := chain0 (by go_grown) hb1
  obtain ⟨hc1, hf1, hs1⟩ := after hb1
  try simp only [World.size_alloc] at hs1
  have l0 : w.heap.size < w1.heap.size := by omega
  clear hb1 hs1
  go_wp2_with fail
  refine (digit_walk c 10 h0 h1 _).mono ?_
  rintro e w0 ⟨rfl, rfl⟩
  go_wp2_with fail
  refine (stMay_walk _ _ _ _ _ _ _).mono ?_
  rintro e w2 ⟨rfl, hb2⟩
  rw [hy]
  have B2 : Below w.heap.size w w2 := chain0 B1 hb2
  obtain ⟨hc2, hf2, hs2⟩ := after hb2
  try simp only [World.size_alloc] at hs2
  have l0 : w.heap.size < w2.heap.size := by omega
  clear hb2 hs2
  go_wp2_with fail
  go_returns
  exact row_nil B2
set_option maxHeartbeats 2000000 in
set_option maxRecDepth 100000 in
theorem begin_one (a b : Int) (g : Bool) (d n v c : Int) (h0 : 0 ≤ c) (h1 : c < 256) (hd : decide (0 ≤ digV c 16) = true) (hk : decide (0 ≤ digV c 10) = false) (hm : moreP ⟨a, b, g, d, n, v⟩ = true) (w : World) :
    Calls Tryz.prog 46 #[.agg #[.int .i64 a, .int .i64 b, .bool g, .int .i64 d, .int .i64 n, .int .i64 v], .int .u8 c] w (StRow w [⟨4, b, g, 1, n, v⟩]) := by
  go_enter Tryz.func46, Tryz.ntmps46
  obtain ⟨i0, hi, hz0, hz1, hz2⟩ := st_info
  have HI := Lib.hid hi
  have HZ0 := Lib.hid hz0
  have HZ1 := Lib.hid hz1
  have HZ2 := Lib.hid hz2
  clear hi hz0 hz1 hz2
  go_wp2_with fail
  refine (digit_walk c 16 h0 h1 _).mono ?_
  rintro e w0 ⟨rfl, rfl⟩
  obtain ⟨s0, hs0⟩ : ∃ s0, s0 = Value.slice none 0 0 := ⟨_, rfl⟩
  rw [← hs0]
  have own0 : ∀ W : World, W.ownsRow w.heap.size 74 6 s0 0 [] := fun W => by rw [hs0]; exact own_nil _ _ _ _
  have O0 := Lib.hid own0
  have O1 : Hid (s0.ownBlock = none) := Lib.hid (by rw [hs0]; rfl)
  clear hs0 own0
  go_wp2_with fail
  refine (stMore_walk _ _ _ _ _ _ _).mono ?_
  rintro e w1 ⟨rfl, hb1⟩
  rw [hm]
  have B1 : Below w.heap.size w w1 := chain0 (by go_grown) hb1
  obtain ⟨hc1, hf1, hs1⟩ := after hb1
  try simp only [World.size_alloc] at hs1
  have l0 : w.heap.size < w1.heap.size := by omega
  clear hb1 hs1
  go_wp2_with (at_builtin; refine app_one rfl _ _ 75 rfl w.heap.size 74 i0 (.agg #[.int .i64 0, .int .i64 0, .bool false, .int .i64 0, .int .i64 0, .int .i64 0]) 6 48 Tryz.underlying75 HI.out HZ0.out HZ1.out HZ2.out rfl (by decide) s0 0 [] rfl (O0.out _) [.int .i64 4, .int .i64 b, .bool g, .int .i64 1, .int .i64 n, .int .i64 v] (by first | rfl | (simp only [World.size_alloc]; rfl)) rfl (by simp [Value.oneCell']) (by unfold maxLen; omega) (by omega) (by simp; omega) ?_; intro G1 cap1 v3 hG1 own1 hgrow1 hbel1)
  go_wp2_with fail
  refine (digit_walk c 10 h0 h1 _).mono ?_
  rintro e w0 ⟨rfl, rfl⟩
  go_wp2_with fail
  go_returns
  exact ⟨_, rfl, own1, hbel1 _ _ (Nat.le_refl _) (B1.alloc (by omega) _)⟩
set_option maxHeartbeats 2000000 in
set_option maxRecDepth 100000 in
theorem begin_one10 (a b : Int) (g : Bool) (d n v c : Int) (h0 : 0 ≤ c) (h1 : c < 256) (hd : decide (0 ≤ digV c 16) = true) (hk : decide (0 ≤ digV c 10) = true) (hm : moreP ⟨a, b, g, d, n, v⟩ = true) (hy : mayP ⟨a, b, g, d, n, v⟩ = false) (w : World) :
    Calls Tryz.prog 46 #[.agg #[.int .i64 a, .int .i64 b, .bool g, .int .i64 d, .int .i64 n, .int .i64 v], .int .u8 c] w (StRow w [⟨4, b, g, 1, n, v⟩]) := by
  go_enter Tryz.func46, Tryz.ntmps46
  obtain ⟨i0, hi, hz0, hz1, hz2⟩ := st_info
  have HI := Lib.hid hi
  have HZ0 := Lib.hid hz0
  have HZ1 := Lib.hid hz1
  have HZ2 := Lib.hid hz2
  clear hi hz0 hz1 hz2
  go_wp2_with fail
  refine (digit_walk c 16 h0 h1 _).mono ?_
  rintro e w0 ⟨rfl, rfl⟩
  obtain ⟨s0, hs0⟩ : ∃ s0, s0 = Value.slice none 0 0 := ⟨_, rfl⟩
  rw [← hs0]
  have own0 : ∀ W : World, W.ownsRow w.heap.size 74 6 s0 0 [] := fun W => by rw [hs0]; exact own_nil _ _ _ _
  have O0 := Lib.hid own0
  have O1 : Hid (s0.ownBlock = none) := Lib.hid (by rw [hs0]; rfl)
  clear hs0 own0
  go_wp2_with fail
  refine (stMore_walk _ _ _ _ _ _ _).mono ?_
  rintro e w1 ⟨rfl, hb1⟩
  rw [hm]
  have B1 : Below w.heap.size w w1 := chain0 (by go_grown) hb1
  obtain ⟨hc1, hf1, hs1⟩ := after hb1
  try simp only [World.size_alloc] at hs1
  have l0 : w.heap.size < w1.heap.size := by omega
  clear hb1 hs1
  go_wp2_with (at_builtin; refine app_one rfl _ _ 75 rfl w.heap.size 74 i0 (.agg #[.int .i64 0, .int .i64 0, .bool false, .int .i64 0, .int .i64 0, .int .i64 0]) 6 48 Tryz.underlying75 HI.out HZ0.out HZ1.out HZ2.out rfl (by decide) s0 0 [] rfl (O0.out _) [.int .i64 4, .int .i64 b, .bool g, .int .i64 1, .int .i64 n, .int .i64 v] (by first | rfl | (simp only [World.size_alloc]; rfl)) rfl (by simp [Value.oneCell']) (by unfold maxLen; omega) (by omega) (by simp; omega) ?_; intro G1 cap1 v3 hG1 own1 hgrow1 hbel1)
  have B3 : Below w.heap.size w v3 := hbel1 _ _ (Nat.le_refl _) (B1.alloc (by omega) _)
  have hk3 : v3.cell? ⟨w.heap.size, 0, none⟩ = some (.int .i64 a) ∧ v3.cell? ⟨w.heap.size, 1, none⟩ = some (.int .i64 b) ∧ v3.cell? ⟨w.heap.size, 2, none⟩ = some (.bool g) ∧ v3.cell? ⟨w.heap.size, 3, none⟩ = some (.int .i64 d) ∧ v3.cell? ⟨w.heap.size, 4, none⟩ = some (.int .i64 n) ∧ v3.cell? ⟨w.heap.size, 5, none⟩ = some (.int .i64 v) := by
    have key : ∀ o, v3.cell? ⟨w.heap.size, o, none⟩ = w1.cell? ⟨w.heap.size, o, none⟩ := fun o => by
      have e := hgrow1.cell_far ⟨w.heap.size, o, none⟩ (by simp; omega) (by rw [O1.out]; simp)
      rw [e]
      go_simp
    exact ⟨(key 0).trans (by go_simp), (key 1).trans (by go_simp), (key 2).trans (by go_simp), (key 3).trans (by go_simp), (key 4).trans (by go_simp), (key 5).trans (by go_simp)⟩
  obtain ⟨q0, q1, q2, q3, q4, q5⟩ := hk3
  have hs3 : w.heap.size < v3.heap.size := by have := hgrow1.size; simp at this; omega
  clear hgrow1 hbel1
  go_wp2_with fail
  refine (digit_walk c 10 h0 h1 _).mono ?_
  rintro e w0 ⟨rfl, rfl⟩
  go_wp2_with fail
  refine (stMay_walk _ _ _ _ _ _ _).mono ?_
  rintro e w4 ⟨rfl, hb4⟩
  rw [hy]
  have B4 : Below w.heap.size w w4 := chain0 B3 hb4
  obtain ⟨hc4, hf4, hs4⟩ := after hb4
  try simp only [World.size_alloc] at hs4
  have l4 : w.heap.size < w4.heap.size := by omega
  have own4 := own1.kept (row := none) ⟨hb4.os, hb4.tape, hb4.output, hb4.size, fun i hi _ => hb4.block i hi⟩ (by simp [Value.ownBlock])
  clear own1 hb4 hs4
  go_wp2_with fail
  go_returns
  exact ⟨_, rfl, own4, B4⟩
set_option maxHeartbeats 2000000 in
set_option maxRecDepth 100000 in
theorem begin_both (a b : Int) (g : Bool) (d n v c : Int) (h0 : 0 ≤ c) (h1 : c < 256) (hd : decide (0 ≤ digV c 16) = true) (hk : decide (0 ≤ digV c 10) = true) (hm : moreP ⟨a, b, g, d, n, v⟩ = true) (hy : mayP ⟨a, b, g, d, n, v⟩ = true) (w : World) :
    Calls Tryz.prog 46 #[.agg #[.int .i64 a, .int .i64 b, .bool g, .int .i64 d, .int .i64 n, .int .i64 v], .int .u8 c] w (StRow w [⟨4, b, g, 1, n, v⟩, ⟨5, b, g, d, n, digV c 10⟩]) := by
  go_enter Tryz.func46, Tryz.ntmps46
  obtain ⟨i0, hi, hz0, hz1, hz2⟩ := st_info
  have HI := Lib.hid hi
  have HZ0 := Lib.hid hz0
  have HZ1 := Lib.hid hz1
  have HZ2 := Lib.hid hz2
  clear hi hz0 hz1 hz2
  go_wp2_with fail
  refine (digit_walk c 16 h0 h1 _).mono ?_
  rintro e w0 ⟨rfl, rfl⟩
  obtain ⟨s0, hs0⟩ : ∃ s0, s0 = Value.slice none 0 0 := ⟨_, rfl⟩
  rw [← hs0]
  have own0 : ∀ W : World, W.ownsRow w.heap.size 74 6 s0 0 [] := fun W => by rw [hs0]; exact own_nil _ _ _ _
  have O0 := Lib.hid own0
  have O1 : Hid (s0.ownBlock = none) := Lib.hid (by rw [hs0]; rfl)
  clear hs0 own0
  go_wp2_with fail
  refine (stMore_walk _ _ _ _ _ _ _).mono ?_
  rintro e w1 ⟨rfl, hb1⟩
  rw [hm]
  have B1 : Below w.heap.size w w1 := chain0 (by go_grown) hb1
  obtain ⟨hc1, hf1, hs1⟩ := after hb1
  try simp only [World.size_alloc] at hs1
  have l0 : w.heap.size < w1.heap.size := by omega
  clear hb1 hs1
  go_wp2_with (at_builtin; refine app_one rfl _ _ 75 rfl w.heap.size 74 i0 (.agg #[.int .i64 0, .int .i64 0, .bool false, .int .i64 0, .int .i64 0, .int .i64 0]) 6 48 Tryz.underlying75 HI.out HZ0.out HZ1.out HZ2.out rfl (by decide) s0 0 [] rfl (O0.out _) [.int .i64 4, .int .i64 b, .bool g, .int .i64 1, .int .i64 n, .int .i64 v] (by first | rfl | (simp only [World.size_alloc]; rfl)) rfl (by simp [Value.oneCell']) (by unfold maxLen; omega) (by omega) (by simp; omega) ?_; intro G1 cap1 v3 hG1 own1 hgrow1 hbel1)
  have B3 : Below w.heap.size w v3 := hbel1 _ _ (Nat.le_refl _) (B1.alloc (by omega) _)
  have hk3 : v3.cell? ⟨w.heap.size, 0, none⟩ = some (.int .i64 a) ∧ v3.cell? ⟨w.heap.size, 1, none⟩ = some (.int .i64 b) ∧ v3.cell? ⟨w.heap.size, 2, none⟩ = some (.bool g) ∧ v3.cell? ⟨w.heap.size, 3, none⟩ = some (.int .i64 d) ∧ v3.cell? ⟨w.heap.size, 4, none⟩ = some (.int .i64 n) ∧ v3.cell? ⟨w.heap.size, 5, none⟩ = some (.int .i64 v) := by
    have key : ∀ o, v3.cell? ⟨w.heap.size, o, none⟩ = w1.cell? ⟨w.heap.size, o, none⟩ := fun o => by
      have e := hgrow1.cell_far ⟨w.heap.size, o, none⟩ (by simp; omega) (by rw [O1.out]; simp)
      rw [e]
      go_simp
    exact ⟨(key 0).trans (by go_simp), (key 1).trans (by go_simp), (key 2).trans (by go_simp), (key 3).trans (by go_simp), (key 4).trans (by go_simp), (key 5).trans (by go_simp)⟩
  obtain ⟨q0, q1, q2, q3, q4, q5⟩ := hk3
  have hs3 : w.heap.size < v3.heap.size := by have := hgrow1.size; simp at this; omega
  clear hgrow1 hbel1
  go_wp2_with fail
  refine (digit_walk c 10 h0 h1 _).mono ?_
  rintro e w0 ⟨rfl, rfl⟩
  go_wp2_with fail
  refine (stMay_walk _ _ _ _ _ _ _).mono ?_
  rintro e w4 ⟨rfl, hb4⟩
  rw [hy]
  have B4 : Below w.heap.size w w4 := chain0 B3 hb4
  obtain ⟨hc4, hf4, hs4⟩ := after hb4
  try simp only [World.size_alloc] at hs4
  have l4 : w.heap.size < w4.heap.size := by omega
  have own4 := own1.kept (row := none) ⟨hb4.os, hb4.tape, hb4.output, hb4.size, fun i hi _ => hb4.block i hi⟩ (by simp [Value.ownBlock])
  clear own1 hb4 hs4
  have own5 : w4.ownsRow w.heap.size 74 6 (.slice (some ⟨G1, 0, none⟩) 1 cap1) 1 [.int .i64 4, .int .i64 b, .bool g, .int .i64 1, .int .i64 n, .int .i64 v] := own4
  clear own4
  go_wp2_with (at_builtin; refine app_one rfl _ _ 75 rfl w.heap.size 74 i0 (.agg #[.int .i64 0, .int .i64 0, .bool false, .int .i64 0, .int .i64 0, .int .i64 0]) 6 48 Tryz.underlying75 HI.out HZ0.out HZ1.out HZ2.out rfl (by decide) (.slice (some ⟨G1, 0, none⟩) 1 cap1) 1 _ rfl (own5.alloc _) [.int .i64 5, .int .i64 b, .bool g, .int .i64 d, .int .i64 n, .int .i64 (digV c 10)] (by first | rfl | (simp only [World.size_alloc]; rfl)) rfl (by simp [Value.oneCell']) (by unfold maxLen; omega) (by omega) (by simp; omega) ?_; intro G2 cap2 v5 hG2 own2 hgrow2 hbel2)
  go_returns
  exact ⟨_, rfl, own2, hbel2 _ _ (Nat.le_refl _) (B4.alloc (by omega) _)⟩
theorem begin_walk (x : St) (c : Int) (h0 : 0 ≤ c) (h1 : c < 256) (w : World) : Calls Tryz.prog 46 #[stV x, .int .u8 c] w (StRow w (beginP x c)) := by
  obtain ⟨a, b, g, d, n, v⟩ := x
  unfold beginP
  have e16 := digV16 c
  have e10 := digV10 c
  by_cases hd : 0 ≤ digV c 16
  · by_cases hm : moreP ⟨a, b, g, d, n, v⟩ = true
    · rw [if_pos ⟨hd, hm⟩]
      by_cases hk : 0 ≤ digV c 10
      · by_cases hy : mayP ⟨a, b, g, d, n, v⟩ = true
        · rw [if_pos ⟨hk, hy⟩]
          exact begin_both a b g d n v c h0 h1 (decide_eq_true hd) (decide_eq_true hk) hm hy w
        · rw [if_neg (fun q => hy q.2)]
          exact begin_one10 a b g d n v c h0 h1 (decide_eq_true hd) (decide_eq_true hk) hm (by simpa using hy) w
      · rw [if_neg (fun q => hk q.1)]
        exact begin_one a b g d n v c h0 h1 (decide_eq_true hd) (decide_eq_false hk) hm w
    · rw [if_neg (fun q => hm q.2)]
      have hm' : moreP ⟨a, b, g, d, n, v⟩ = false := by simpa using hm
      have hy : mayP ⟨a, b, g, d, n, v⟩ = false := by
        unfold moreP at hm'
        unfold mayP
        cases g
        · simp at hm' ⊢; omega
        · simp at hm' ⊢; omega
      rw [hy, if_neg (by simp)]
      by_cases hk : 0 ≤ digV c 10
      · exact begin_full10 a b g d n v c h0 h1 (decide_eq_true hd) (decide_eq_true hk) hm' hy w
      · exact begin_full a b g d n v c h0 h1 (decide_eq_true hd) (decide_eq_false hk) hm' w
  · have hk : ¬ 0 ≤ digV c 10 := by
      rw [e16] at hd
      rw [e10]
      split
      · rename_i q; rw [if_pos q] at hd; exact hd
      · omega
    rw [if_neg (fun q => hd q.1), if_neg (fun q => hk q.1)]
    exact begin_no a b g d n v c h0 h1 (decide_eq_false hd) (decide_eq_false hk) w
end Go.Proofs.YtcgdjnmfeibnoaaGreatDoor
/-! SixNext2 -/
namespace Go.Proofs.YtcgdjnmfeibnoaaGreatDoor
open Go.RowKit Go.Proofs.YtcgdjnmfeibnoaaGreatDoorW.PrintWords Go.Proofs.YtcgdjnmfeibnoaaGreatDoor.X
set_option linter.unusedVariables false
set_option linter.unusedSimpArgs false
theorem row_lit' {w W : World} {m : Nat} (x : St) (hm : m = W.heap.size) (hb : Below w.heap.size w W) : StRow w [x] (.returned (.slice (some ⟨m, 0, none⟩) 1 1)) (W.alloc (.cells #[.int .i64 x.wh, .int .i64 x.pc, .bool x.gap, .int .i64 x.dg, .int .i64 x.nu, .int .i64 x.va] 74)) := by
  subst hm
  exact row_lit x hb
theorem row_drew {w W : World} {l : List St} {e : Ending} (h : StRow w l e W) : StRow w l e W.drew := by
  obtain ⟨v, he, ho, hb⟩ := h
  exact ⟨v, he, ho.drew, ⟨hb.os, hb.tape, hb.output, hb.size, hb.block⟩⟩
theorem own_base {B B' : Nat} {W : World} {e : TypeId} {size : Nat} {v : Value} {n : Nat} {xs : List Value} (h : W.ownsRow B' e size v n xs) (hl : B ≤ B') : W.ownsRow B e size v n xs :=
  ⟨h.1, h.2.imp id (fun ⟨g, cap, cur, hv, hg, r⟩ => ⟨g, cap, cur, hv, Nat.le_trans hl hg, r⟩)⟩
set_option maxHeartbeats 2000000 in
set_option maxRecDepth 100000 in
theorem next_0c (p : Int) (g : Bool) (d n v : Int) (c : Int) (h0 : 0 ≤ c) (h1 : c < 256) (hc : c = 58) (w : World) :
    Calls Tryz.prog 31 #[.agg #[.int .i64 0, .int .i64 p, .bool g, .int .i64 d, .int .i64 n, .int .i64 v], .int .u8 c] w (StRow w [⟨1, p, g, d, n, v⟩]) := by
  go_enter Tryz.func31, Tryz.ntmps31
  subst hc
  go_wp2_with fail
  go_returns
  refine row_lit' ⟨1, p, g, d, n, v⟩ ?_ ?_
  · first | rfl | simp
  · go_grown
set_option maxHeartbeats 2000000 in
set_option maxRecDepth 100000 in
theorem next_0 (p : Int) (g : Bool) (d n v : Int) (c : Int) (h0 : 0 ≤ c) (h1 : c < 256) (hc : (c == 58) = false) (w : World) :
    Calls Tryz.prog 31 #[.agg #[.int .i64 0, .int .i64 p, .bool g, .int .i64 d, .int .i64 n, .int .i64 v], .int .u8 c] w (StRow w (beginP ⟨0, p, g, d, n, v⟩ c)) := by
  go_enter Tryz.func31, Tryz.ntmps31
  go_wp2_with fail
  refine (begin_walk ⟨0, p, g, d, n, v⟩ c h0 h1 _).mono ?_
  rintro e w1 ⟨z, rfl, ho, hb1⟩
  go_wp2_with fail
  go_returns
  exact ⟨_, rfl, own_base ho (by simp only [World.size_alloc]; omega), chain0 (by go_grown) hb1⟩
set_option maxHeartbeats 2000000 in
set_option maxRecDepth 100000 in
theorem next_1c (p : Int) (g : Bool) (d n v : Int) (c : Int) (h0 : 0 ≤ c) (h1 : c < 256) (hc : c = 58) (w : World) :
    Calls Tryz.prog 31 #[.agg #[.int .i64 1, .int .i64 p, .bool g, .int .i64 d, .int .i64 n, .int .i64 v], .int .u8 c] w (StRow w [⟨3, p, true, d, n, v⟩]) := by
  go_enter Tryz.func31, Tryz.ntmps31
  subst hc
  go_wp2_with fail
  go_returns
  refine row_lit' ⟨3, p, true, d, n, v⟩ ?_ ?_
  · first | rfl | simp
  · go_grown
set_option maxHeartbeats 2000000 in
set_option maxRecDepth 100000 in
theorem next_1 (p : Int) (g : Bool) (d n v : Int) (c : Int) (h0 : 0 ≤ c) (h1 : c < 256) (hc : (c == 58) = false) (w : World) :
    Calls Tryz.prog 31 #[.agg #[.int .i64 1, .int .i64 p, .bool g, .int .i64 d, .int .i64 n, .int .i64 v], .int .u8 c] w (StRow w []) := by
  go_enter Tryz.func31, Tryz.ntmps31
  go_wp2_with fail
  go_quiet (fail)
  go_wp2_with fail
  go_returns
  refine row_nil ?_
  exact bdn (by go_grown) _
set_option maxHeartbeats 2000000 in
set_option maxRecDepth 100000 in
theorem next_2c (p d n v : Int) (c : Int) (h0 : 0 ≤ c) (h1 : c < 256) (hc : c = 58) (w : World) :
    Calls Tryz.prog 31 #[.agg #[.int .i64 2, .int .i64 p, .bool false, .int .i64 d, .int .i64 n, .int .i64 v], .int .u8 c] w (StRow w [⟨3, p, true, d, n, v⟩]) := by
  go_enter Tryz.func31, Tryz.ntmps31
  subst hc
  go_wp2_with fail
  go_returns
  refine row_lit' ⟨3, p, true, d, n, v⟩ ?_ ?_
  · first | rfl | simp
  · go_grown
set_option maxHeartbeats 2000000 in
set_option maxRecDepth 100000 in
theorem next_2g (p d n v : Int) (c : Int) (h0 : 0 ≤ c) (h1 : c < 256) (w : World) :
    Calls Tryz.prog 31 #[.agg #[.int .i64 2, .int .i64 p, .bool true, .int .i64 d, .int .i64 n, .int .i64 v], .int .u8 c] w (StRow w (beginP ⟨2, p, true, d, n, v⟩ c)) := by
  go_enter Tryz.func31, Tryz.ntmps31
  go_wp2_with fail
  refine (begin_walk ⟨2, p, true, d, n, v⟩ c h0 h1 _).mono ?_
  rintro e w1 ⟨z, rfl, ho, hb1⟩
  go_wp2_with fail
  go_returns
  exact ⟨_, rfl, own_base ho (by simp only [World.size_alloc]; omega), chain0 (by go_grown) hb1⟩
set_option maxHeartbeats 2000000 in
set_option maxRecDepth 100000 in
theorem next_2 (p : Int) (g : Bool) (d n v : Int) (c : Int) (h0 : 0 ≤ c) (h1 : c < 256) (hc : (c == 58) = false) (w : World) :
    Calls Tryz.prog 31 #[.agg #[.int .i64 2, .int .i64 p, .bool g, .int .i64 d, .int .i64 n, .int .i64 v], .int .u8 c] w (StRow w (beginP ⟨2, p, g, d, n, v⟩ c)) := by
  go_enter Tryz.func31, Tryz.ntmps31
  cases g
  all_goals
    go_wp2_with fail
    refine (begin_walk ⟨2, p, _, d, n, v⟩ c h0 h1 _).mono ?_
    rintro e w1 ⟨z, rfl, ho, hb1⟩
    go_wp2_with fail
    go_returns
    exact ⟨_, rfl, own_base ho (by simp only [World.size_alloc]; omega), chain0 (by go_grown) hb1⟩
set_option maxHeartbeats 2000000 in
set_option maxRecDepth 100000 in
theorem next_3 (p : Int) (g : Bool) (d n v : Int) (c : Int) (h0 : 0 ≤ c) (h1 : c < 256) (w : World) :
    Calls Tryz.prog 31 #[.agg #[.int .i64 3, .int .i64 p, .bool g, .int .i64 d, .int .i64 n, .int .i64 v], .int .u8 c] w (StRow w (beginP ⟨3, p, g, d, n, v⟩ c)) := by
  go_enter Tryz.func31, Tryz.ntmps31
  go_wp2_with fail
  refine (begin_walk ⟨3, p, g, d, n, v⟩ c h0 h1 _).mono ?_
  rintro e w1 ⟨z, rfl, ho, hb1⟩
  go_wp2_with fail
  go_returns
  exact ⟨_, rfl, own_base ho (by simp only [World.size_alloc]; omega), chain0 (by go_grown) hb1⟩
set_option maxHeartbeats 2000000 in
set_option maxRecDepth 100000 in
theorem next_4c (p : Int) (g : Bool) (d n v : Int) (c : Int) (h0 : 0 ≤ c) (h1 : c < 256) (p0 : 0 ≤ p) (p1 : p ≤ 100) (hm : moreP ⟨2, p + 1, g, d, n, v⟩ = true) (hc : c = 58) (w : World) :
    Calls Tryz.prog 31 #[.agg #[.int .i64 4, .int .i64 p, .bool g, .int .i64 d, .int .i64 n, .int .i64 v], .int .u8 c] w (StRow w [⟨2, p + 1, g, d, n, v⟩]) := by
  go_enter Tryz.func31, Tryz.ntmps31
  subst hc
  go_upto_region 11 with fail
  go_region
  go_wp2_with fail
  refine (stMore_walk _ _ _ _ _ _ _).mono ?_
  rintro e w1 ⟨rfl, hb1⟩
  rw [hm]
  have B1 : Below w.heap.size w w1 := chain0 (by go_grown) hb1
  obtain ⟨hc1, hf1, hs1⟩ := after hb1
  try simp at hs1
  have l0 : w.heap.size < w1.heap.size := by omega
  have l1 : w.heap.size + 1 < w1.heap.size := by omega
  clear hb1 hs1
  go_wp2_with fail
  go_returns
  exact row_lit' ⟨2, p + 1, g, d, n, v⟩ rfl B1
set_option maxHeartbeats 2000000 in
set_option maxRecDepth 100000 in
theorem next_4cn (p : Int) (g : Bool) (d n v : Int) (c : Int) (h0 : 0 ≤ c) (h1 : c < 256) (p0 : 0 ≤ p) (p1 : p ≤ 100) (hm : moreP ⟨2, p + 1, g, d, n, v⟩ = false) (hc : c = 58) (w : World) :
    Calls Tryz.prog 31 #[.agg #[.int .i64 4, .int .i64 p, .bool g, .int .i64 d, .int .i64 n, .int .i64 v], .int .u8 c] w (StRow w []) := by
  go_enter Tryz.func31, Tryz.ntmps31
  subst hc
  go_upto_region 11 with fail
  go_region
  go_wp2_with fail
  refine (stMore_walk _ _ _ _ _ _ _).mono ?_
  rintro e w1 ⟨rfl, hb1⟩
  rw [hm]
  have B1 : Below w.heap.size w w1 := chain0 (by go_grown) hb1
  obtain ⟨hc1, hf1, hs1⟩ := after hb1
  try simp at hs1
  have l0 : w.heap.size < w1.heap.size := by omega
  have l1 : w.heap.size + 1 < w1.heap.size := by omega
  clear hb1 hs1
  go_wp2_with fail
  go_returns
  exact row_nil B1
set_option maxHeartbeats 2000000 in
set_option maxRecDepth 100000 in
theorem next_4d (p : Int) (g : Bool) (d n v : Int) (c : Int) (h0 : 0 ≤ c) (h1 : c < 256) (d0 : 0 ≤ d) (d1 : d < 4) (hd : decide (0 ≤ digV c 16) = true) (hc : (c == 58) = false) (w : World) :
    Calls Tryz.prog 31 #[.agg #[.int .i64 4, .int .i64 p, .bool g, .int .i64 d, .int .i64 n, .int .i64 v], .int .u8 c] w (StRow w [⟨4, p, g, d + 1, n, v⟩]) := by
  go_enter Tryz.func31, Tryz.ntmps31
  go_wp2_with fail
  refine (digit_walk c 16 h0 h1 _).mono ?_
  rintro e w0 ⟨rfl, rfl⟩
  go_wp2_with fail
  go_returns
  refine row_lit' ⟨4, p, g, d + 1, n, v⟩ ?_ ?_
  · first | rfl | simp
  · go_grown
set_option maxHeartbeats 2000000 in
set_option maxRecDepth 100000 in
theorem next_4n (p : Int) (g : Bool) (d n v : Int) (c : Int) (h0 : 0 ≤ c) (h1 : c < 256) (d1 : 4 ≤ d) (hd : decide (0 ≤ digV c 16) = true) (hc : (c == 58) = false) (w : World) :
    Calls Tryz.prog 31 #[.agg #[.int .i64 4, .int .i64 p, .bool g, .int .i64 d, .int .i64 n, .int .i64 v], .int .u8 c] w (StRow w []) := by
  go_enter Tryz.func31, Tryz.ntmps31
  go_wp2_with fail
  refine (digit_walk c 16 h0 h1 _).mono ?_
  rintro e w0 ⟨rfl, rfl⟩
  go_wp2_with fail
  go_quiet (fail)
  go_wp2_with fail
  go_returns
  refine row_nil ?_
  exact bdn (by go_grown) _
set_option maxHeartbeats 2000000 in
set_option maxRecDepth 100000 in
theorem next_4z (p : Int) (g : Bool) (d n v : Int) (c : Int) (h0 : 0 ≤ c) (h1 : c < 256) (hd : decide (0 ≤ digV c 16) = false) (hc : (c == 58) = false) (w : World) :
    Calls Tryz.prog 31 #[.agg #[.int .i64 4, .int .i64 p, .bool g, .int .i64 d, .int .i64 n, .int .i64 v], .int .u8 c] w (StRow w []) := by
  go_enter Tryz.func31, Tryz.ntmps31
  go_wp2_with fail
  refine (digit_walk c 16 h0 h1 _).mono ?_
  rintro e w0 ⟨rfl, rfl⟩
  go_wp2_with fail
  go_quiet (fail)
  go_wp2_with fail
  go_returns
  refine row_nil ?_
  exact bdn (by go_grown) _
set_option maxHeartbeats 2000000 in
set_option maxRecDepth 100000 in
theorem next_5s (p : Int) (g : Bool) (d n v : Int) (c : Int) (h0 : 0 ≤ c) (h1 : c < 256) (n0 : 0 ≤ n) (n1 : n < 3) (hc : c = 46) (w : World) :
    Calls Tryz.prog 31 #[.agg #[.int .i64 5, .int .i64 p, .bool g, .int .i64 d, .int .i64 n, .int .i64 v], .int .u8 c] w (StRow w [⟨6, p, g, d, n + 1, v⟩]) := by
  go_enter Tryz.func31, Tryz.ntmps31
  subst hc
  go_upto_region 18 with fail
  go_region
  go_wp2_with fail
  go_returns
  refine row_drew ?_
  refine row_lit' ⟨6, p, g, d, n + 1, v⟩ ?_ ?_
  · first | rfl | simp
  · go_grown
set_option maxHeartbeats 2000000 in
set_option maxRecDepth 100000 in
theorem next_5n (p : Int) (g : Bool) (d n v : Int) (c : Int) (h0 : 0 ≤ c) (h1 : c < 256) (n0 : 3 ≤ n) (hc : c = 46) (w : World) :
    Calls Tryz.prog 31 #[.agg #[.int .i64 5, .int .i64 p, .bool g, .int .i64 d, .int .i64 n, .int .i64 v], .int .u8 c] w (StRow w []) := by
  go_enter Tryz.func31, Tryz.ntmps31
  subst hc
  have hd : digV 46 10 = -1 := by rw [digV10]; decide
  go_wp2_with fail
  go_quiet (exact Calls.quiet_of_same ((digit_walk 46 10 h0 h1 _).mono fun e w' q => ⟨q.1.trans (by rw [hd]), q.2.symm⟩))
  go_wp2_with fail
  go_returns
  refine row_nil ?_
  exact bdn (by go_grown) _
set_option maxHeartbeats 2000000 in
set_option maxRecDepth 100000 in
theorem next_5z (p : Int) (g : Bool) (d n v : Int) (c : Int) (h0 : 0 ≤ c) (h1 : c < 256) (hs : (c == 46) = false) (hd : decide (0 ≤ digV c 10) = false) (w : World) :
    Calls Tryz.prog 31 #[.agg #[.int .i64 5, .int .i64 p, .bool g, .int .i64 d, .int .i64 n, .int .i64 v], .int .u8 c] w (StRow w []) := by
  go_enter Tryz.func31, Tryz.ntmps31
  go_wp2_with fail
  go_quiet ((exact Calls.quiet_of_same ((digit_walk c 10 h0 h1 _).mono fun e w' q => ⟨q.1, q.2.symm⟩)))
  go_wp2_with fail
  go_returns
  refine row_nil ?_
  exact bdn (by go_grown) _
set_option maxHeartbeats 2000000 in
set_option maxRecDepth 100000 in
theorem next_5v (p : Int) (g : Bool) (d n v : Int) (c : Int) (h0 : 0 ≤ c) (h1 : c < 256) (hs : (c == 46) = false) (hd : decide (0 ≤ digV c 10) = true) (hv : decide (0 < v) = false) (w : World) :
    Calls Tryz.prog 31 #[.agg #[.int .i64 5, .int .i64 p, .bool g, .int .i64 d, .int .i64 n, .int .i64 v], .int .u8 c] w (StRow w []) := by
  go_enter Tryz.func31, Tryz.ntmps31
  go_wp2_with fail
  go_quiet ((exact Calls.quiet_of_same ((digit_walk c 10 h0 h1 _).mono fun e w' q => ⟨q.1, q.2.symm⟩)))
  go_wp2_with fail
  go_returns
  refine row_nil ?_
  exact bdn (by go_grown) _
set_option maxHeartbeats 2000000 in
set_option maxRecDepth 100000 in
theorem next_5m (p : Int) (g : Bool) (d n v : Int) (c : Int) (h0 : 0 ≤ c) (h1 : c < 256) (hs : (c == 46) = false) (hd : decide (0 ≤ digV c 10) = true) (hv : decide (0 < v) = true) (hv0 : 0 ≤ v) (hdd : 0 ≤ digV c 10) (v1 : v ≤ 1000) (hd1 : digV c 10 ≤ 9) (hm : decide (10 * v + digV c 10 ≤ 255) = false) (w : World) :
    Calls Tryz.prog 31 #[.agg #[.int .i64 5, .int .i64 p, .bool g, .int .i64 d, .int .i64 n, .int .i64 v], .int .u8 c] w (StRow w []) := by
  go_enter Tryz.func31, Tryz.ntmps31
  have w0_ : IntKind.i64.wrap (10 * v) = 10 * v := IntWalk.i64_in _ (by omega)
  have w1_ : IntKind.i64.wrap (10 * v + digV c 10) = 10 * v + digV c 10 := IntWalk.i64_in _ (by omega)
  go_wp2_with fail
  go_quiet ((exact Calls.quiet_of_same ((digit_walk c 10 h0 h1 _).mono fun e w' q => ⟨q.1, q.2.symm⟩)))
  go_wp2_with fail
  go_returns
  refine row_nil ?_
  exact bdn (by go_grown) _
set_option maxHeartbeats 2000000 in
set_option maxRecDepth 100000 in
theorem next_5d (p : Int) (g : Bool) (d n v : Int) (c : Int) (h0 : 0 ≤ c) (h1 : c < 256) (hs : (c == 46) = false) (hd : decide (0 ≤ digV c 10) = true) (hv : decide (0 < v) = true) (hv0 : 0 ≤ v) (hdd : 0 ≤ digV c 10) (v1 : v ≤ 1000) (hd1 : digV c 10 ≤ 9) (hm : decide (10 * v + digV c 10 ≤ 255) = true) (w : World) :
    Calls Tryz.prog 31 #[.agg #[.int .i64 5, .int .i64 p, .bool g, .int .i64 d, .int .i64 n, .int .i64 v], .int .u8 c] w (StRow w [⟨5, p, g, d, n, 10 * v + digV c 10⟩]) := by
  go_enter Tryz.func31, Tryz.ntmps31
  have w0_ : IntKind.i64.wrap (10 * v) = 10 * v := IntWalk.i64_in _ (by omega)
  have w1_ : IntKind.i64.wrap (10 * v + digV c 10) = 10 * v + digV c 10 := IntWalk.i64_in _ (by omega)
  go_wp2_with fail
  go_quiet ((exact Calls.quiet_of_same ((digit_walk c 10 h0 h1 _).mono fun e w' q => ⟨q.1, q.2.symm⟩)))
  go_wp2_with fail
  refine wp_region_ext_tail 7 (by kernel_rfl) (by kernel_rfl) ?_
  dsimp only [List.take, List.drop]
  repeat (go_big_quiet_step (first | (with_reducible exact ext_of_same (digit_walk c 10 h0 h1 _))))
  refine wpQuiet_nil ?_
  rintro w2 ⟨⟨W2, hb2⟩, hw2⟩
  obtain rfl : W2 = w2 := hw2.symm
  have B2 : Below w.heap.size w W2 := chain0 (bdn (by go_grown) _) hb2
  obtain ⟨hc2, hf2, hs2⟩ := after hb2
  try simp at hs2
  have l0 : w.heap.size < W2.heap.size := by omega
  have l1 : w.heap.size + 1 < W2.heap.size := by omega
  clear hs2
  go_wp2_with fail
  go_returns
  exact row_lit' ⟨5, p, g, d, n, 10 * v + digV c 10⟩ (by simp) (B2.setCell (by simp) _)
set_option maxHeartbeats 2000000 in
set_option maxRecDepth 100000 in
theorem next_6d (p : Int) (g : Bool) (d n v : Int) (c : Int) (h0 : 0 ≤ c) (h1 : c < 256) (hd : decide (0 ≤ digV c 10) = true) (w : World) :
    Calls Tryz.prog 31 #[.agg #[.int .i64 6, .int .i64 p, .bool g, .int .i64 d, .int .i64 n, .int .i64 v], .int .u8 c] w (StRow w [⟨5, p, g, d, n, digV c 10⟩]) := by
  go_enter Tryz.func31, Tryz.ntmps31
  go_wp2_with fail
  refine (digit_walk c 10 h0 h1 _).mono ?_
  rintro e w0 ⟨rfl, rfl⟩
  go_wp2_with fail
  refine (digit_walk c 10 h0 h1 _).mono ?_
  rintro e w0 ⟨rfl, rfl⟩
  go_wp2_with fail
  go_returns
  refine row_lit' ⟨5, p, g, d, n, digV c 10⟩ ?_ ?_
  · first | rfl | simp
  · go_grown
set_option maxHeartbeats 2000000 in
set_option maxRecDepth 100000 in
theorem next_6 (p : Int) (g : Bool) (d n v : Int) (c : Int) (h0 : 0 ≤ c) (h1 : c < 256) (hd : decide (0 ≤ digV c 10) = false) (w : World) :
    Calls Tryz.prog 31 #[.agg #[.int .i64 6, .int .i64 p, .bool g, .int .i64 d, .int .i64 n, .int .i64 v], .int .u8 c] w (StRow w []) := by
  go_enter Tryz.func31, Tryz.ntmps31
  go_wp2_with fail
  refine (digit_walk c 10 h0 h1 _).mono ?_
  rintro e w0 ⟨rfl, rfl⟩
  go_wp2_with fail
  go_quiet (fail)
  go_wp2_with fail
  go_returns
  refine row_nil ?_
  exact bdn (by go_grown) _
theorem next_walk (x : St) (hw0 : 0 ≤ x.wh) (hw6 : x.wh ≤ 6) (hp0 : 0 ≤ x.pc) (hp1 : x.pc ≤ 100) (hd0 : 0 ≤ x.dg) (hn0 : 0 ≤ x.nu) (hv0 : 0 ≤ x.va) (hv1 : x.va ≤ 1000) (c : Int) (h0 : 0 ≤ c) (h1 : c < 256) (w : World) :
    Calls Tryz.prog 31 #[stV x, .int .u8 c] w (StRow w (nextP x c)) := by
  obtain ⟨wh, p, g, d, n, v⟩ := x
  simp only at hw0 hw6 hp0 hp1 hd0 hn0 hv0 hv1
  have e10 := digV10 c
  have e16 := digV16 c
  have hw : wh = 0 ∨ wh = 1 ∨ wh = 2 ∨ wh = 3 ∨ wh = 4 ∨ wh = 5 ∨ wh = 6 := by omega
  unfold nextP
  dsimp only
  by_cases hc : c = 58
  · have hd16 : ¬ 0 ≤ digV c 16 := by rw [e16, hc]; decide
    have hd10 : ¬ 0 ≤ digV c 10 := by rw [e10, hc]; decide
    rcases hw with rfl | rfl | rfl | rfl | rfl | rfl | rfl
    · simp only [hc, and_self, if_true]
      subst hc
      exact next_0c p g d n v 58 h0 h1 rfl w
    · simp only [hc]
      subst hc
      exact next_1c p g d n v 58 h0 h1 rfl w
    · cases g
      · simp only [hc]
        subst hc
        exact next_2c p d n v 58 h0 h1 rfl w
      · exact next_2g p d n v c h0 h1 w
    · exact next_3 p g d n v c h0 h1 w
    · rw [if_neg (by simp), if_neg (by simp), if_neg (by simp), if_pos ⟨rfl, hc⟩]
      by_cases hm : moreP ⟨2, p + 1, g, d, n, v⟩ = true
      · rw [if_pos hm]
        exact next_4c p g d n v c h0 h1 hp0 hp1 hm hc w
      · rw [if_neg hm]
        exact next_4cn p g d n v c h0 h1 hp0 hp1 (by simpa using hm) hc w
    · rw [if_neg (by simp), if_neg (by simp), if_neg (by simp), if_neg (by simp), if_neg (by simp), if_neg (by omega), if_neg (by simp), if_neg (by omega)]
      exact next_5z p g d n v c h0 h1 (by rw [hc]; rfl) (decide_eq_false hd10) w
    · rw [if_neg (by simp), if_neg (by simp), if_neg (by simp), if_neg (by simp), if_neg (by simp), if_neg (by simp), if_neg (by omega), if_neg (by simp)]
      exact next_6 p g d n v c h0 h1 (decide_eq_false hd10) w
  · have hb : (c == 58) = false := beq_eq_false_iff_ne.2 hc
    rcases hw with rfl | rfl | rfl | rfl | rfl | rfl | rfl
    · rw [if_neg (by omega), if_neg (by omega), if_pos (by omega)]
      exact next_0 p g d n v c h0 h1 hb w
    · rw [if_neg (by omega), if_neg (by omega), if_neg (by omega), if_neg (by omega), if_neg (by omega), if_neg (by omega), if_neg (by omega), if_neg (by omega)]
      exact next_1 p g d n v c h0 h1 hb w
    · rw [if_neg (by omega), if_neg (by omega), if_pos (by omega)]
      exact next_2 p g d n v c h0 h1 hb w
    · rw [if_neg (by omega), if_neg (by omega), if_pos (by omega)]
      exact next_3 p g d n v c h0 h1 w
    · rw [if_neg (by omega), if_neg (by omega), if_neg (by omega), if_neg (by omega)]
      by_cases hd : 0 ≤ digV c 16
      · by_cases h4 : d < 4
        · rw [if_pos ⟨rfl, hd, h4⟩]
          exact next_4d p g d n v c h0 h1 hd0 h4 (decide_eq_true hd) hb w
        · rw [if_neg (by omega), if_neg (by omega), if_neg (by omega), if_neg (by omega)]
          exact next_4n p g d n v c h0 h1 (by omega) (decide_eq_true hd) hb w
      · rw [if_neg (by omega), if_neg (by omega), if_neg (by omega), if_neg (by omega)]
        exact next_4z p g d n v c h0 h1 (decide_eq_false hd) hb w
    · rw [if_neg (by omega), if_neg (by omega), if_neg (by omega), if_neg (by omega), if_neg (by omega)]
      by_cases hs : c = 46
      · by_cases hn : n < 3
        · rw [if_pos ⟨rfl, hs, hn⟩]
          exact next_5s p g d n v c h0 h1 hn0 hn hs w
        · have hd10 : ¬ 0 ≤ digV c 10 := by rw [e10, hs]; decide
          rw [if_neg (by omega), if_neg (by omega), if_neg (by omega)]
          exact next_5n p g d n v c h0 h1 (by omega) hs w
      · have hsb : (c == 46) = false := beq_eq_false_iff_ne.2 hs
        rw [if_neg (by omega), if_neg (by omega)]
        by_cases hd : 0 ≤ digV c 10
        · have hd9 : digV c 10 ≤ 9 := by
            rw [e10]
            split <;> omega
          by_cases hv : 0 < v
          · by_cases hm : 10 * v + digV c 10 ≤ 255
            · rw [if_pos ⟨rfl, hd, hv, hm⟩]
              exact next_5d p g d n v c h0 h1 hsb (decide_eq_true hd) (decide_eq_true hv) hv0 hd hv1 hd9 (decide_eq_true hm) w
            · rw [if_neg (by omega)]
              exact next_5m p g d n v c h0 h1 hsb (decide_eq_true hd) (decide_eq_true hv) hv0 hd hv1 hd9 (decide_eq_false hm) w
          · rw [if_neg (by omega)]
            exact next_5v p g d n v c h0 h1 hsb (decide_eq_true hd) (decide_eq_false hv) w
        · rw [if_neg (by omega)]
          exact next_5z p g d n v c h0 h1 hsb (decide_eq_false hd) w
    · rw [if_neg (by omega), if_neg (by omega), if_neg (by omega), if_neg (by omega), if_neg (by omega), if_neg (by omega)]
      by_cases hd : 0 ≤ digV c 10
      · rw [if_pos ⟨rfl, hd⟩]
        exact next_6d p g d n v c h0 h1 (decide_eq_true hd) w
      · rw [if_neg (by omega), if_neg (by omega)]
        exact next_6 p g d n v c h0 h1 (decide_eq_false hd) w
set_option maxHeartbeats 1000000 in
set_option maxRecDepth 100000 in
theorem ends_walk (x : St) (w : World) :
    Calls Tryz.prog 33 #[stV x] w fun e w' => e = .returned (.bool (endsP x)) ∧ Below w.heap.size w w' := by
  obtain ⟨wh, p, g, d, n, v⟩ := x
  unfold endsP
  simp only
  by_cases h3 : wh = 3
  · subst h3
    go_enter Tryz.func33, Tryz.ntmps33
    go_wp2
    go_returns
    exact ⟨rfl, by go_grown⟩
  · have b3 : (wh == 3) = false := beq_eq_false_iff_ne.2 h3
    rw [if_neg h3]
    by_cases h4 : wh = 4
    · subst h4
      rw [if_pos rfl]
      cases g
      all_goals
        go_enter Tryz.func33, Tryz.ntmps33
        go_wp2
        go_returns
        exact ⟨by first | rfl | simp, by go_grown⟩
    · have b4 : (wh == 4) = false := beq_eq_false_iff_ne.2 h4
      rw [if_neg h4]
      by_cases h5 : wh = 5
      · subst h5
        rw [if_pos rfl]
        go_enter Tryz.func33, Tryz.ntmps33
        go_wp2
        go_returns
        exact ⟨by first | rfl | simp, by go_grown⟩
      · have b5 : (wh == 5) = false := beq_eq_false_iff_ne.2 h5
        rw [if_neg h5]
        go_enter Tryz.func33, Tryz.ntmps33
        go_wp2
        go_returns
        exact ⟨rfl, by go_grown⟩
end Go.Proofs.YtcgdjnmfeibnoaaGreatDoor
/-! SixAny -/
namespace Go.Proofs.YtcgdjnmfeibnoaaGreatDoor
open Go.RowKit Go.Proofs.YtcgdjnmfeibnoaaGreatDoorW.PrintWords
set_option linter.unusedVariables false
set_option linter.unusedSimpArgs false
theorem eg_ends : ∀ args w, (callFunc 33 args).run Tryz.prog w = .ok (.enter 33 args) w := enters_of Tryz.func33 (by kernel_rfl) rfl
instance : Inhabited St := ⟨⟨0, 0, false, 0, 0, 0⟩⟩
theorem st_index (b off c : Nat) (zs : List St) (w : World) (hbig : zs.length ≤ 9223372036854775807) (hb : b < w.heap.size) (hc : ∀ j, j < zs.length → ∀ i v, (stC zs[j]!)[i]? = some v → w.cell? ⟨b, off + j * 6 + i, none⟩ = some v) :
    Calls Tryz.prog 49 #[.slice (some ⟨b, off, none⟩) zs.length c, .func (.func 33) #[] #[]] w fun e w' => e = .returned (.int .i64 (Lib.idxBy (fun _ y => endsP y) zs default)) ∧ Below w.heap.size w w' := by
  have h := AnyQ.slices_IndexFunc Tryz.stIndex 6 Tryz.isAgg74 Tryz.sizeOf74 stC (fun _ => rfl) endsP 33 #[] eg_ends b off zs.length c zs w (fun W x hB => (ends_walk x W).mono fun _ _ ⟨he, hw⟩ => ⟨he, below_step hB hw⟩) (Nat.le_refl _) hbig hb hc
  rw [List.take_length] at h
  exact h
end Go.Proofs.YtcgdjnmfeibnoaaGreatDoor
/-! SixRow -/
namespace Go.Proofs.YtcgdjnmfeibnoaaGreatDoor
open Go.RowKit Go.Proofs.YtcgdjnmfeibnoaaGreatDoorW.PrintWords
set_option linter.unusedVariables false
set_option linter.unusedSimpArgs false
/-- The same as one step of a region that draws its order. -/
theorem step_app_row {P : Program} {w : World} {ops : Array Oper} {o : Oper} {a : Act} {K : Act → World → Prop} {Q : Exit → Act → World → Prop} {E : Prop} (hgd : o.guard = none) (s x : Operand) (t : TypeId)
    (ho : o.op = .call { callee := .builtin .append, args := #[s, x], argTypes := #[t, t] })
    (base : Nat) (e : TypeId) (i : TypeInfo) (z : Value) (size bytes : Nat) (ht : P.underlying t = some (.slice e)) (hi : P.info? e = some i) (hz : i.zero = some z)
    (hsize : i.size = size) (hby : i.bytes = bytes) (hzs : z.cells.size = size) (hsz : 0 < size)
    (v : Value) (n : Nat) (xs : List Value) (hs : a.eval s = v) (hown : w.ownsRow base e size v n xs)
    (u : Value) (B m : Nat) (news : List Value) (hx : a.eval x = u) (hu : w.ownsRow B e size u m news) (h1 : ∀ q ∈ news, q.oneCell' = true)
    (h63 : n + m ≤ maxLen) (hbytes : (n + m) * bytes ≤ 140737488355328) (hbase : base ≤ w.heap.size)
    (h : ∀ v' w', w'.ownsRow base e size v' (n + m) (xs ++ news) → (∀ B w0, B ≤ base → Below B w0 w → Below B w0 w') → w.grownBy w' v.ownBlock → K (a.put o.dst v') w') :
    if Region.wanted o (yielded ops a.tmps) = true then Oper.wp P o a w K Q else E := by
  have hw : Region.wanted o (yielded ops a.tmps) = true := by simp [Region.wanted, hgd]
  rw [if_pos hw]
  obtain ⟨hl, hu'⟩ := hu
  rcases hu' with ⟨rfl, h0⟩ | ⟨g, cap, cur, rfl, hg, hr⟩
  · subst h0
    obtain rfl : news = [] := List.eq_nil_of_length_eq_zero (by rw [hl]; simp)
    have hrun := run_append_owned_none (P := P) (w := w) base t o.type e i size ht hi v n xs hown
    unfold Oper.wp
    simp [execOp, ho, resolve, invoke, builtin, hs, hx, hrun, Result.andThen]
    exact h v w (by simpa using hown) (fun _ _ _ hb => hb) (World.grownBy.refl w _)
  · have hu2 : w.ownsRow B e size (.slice (some ⟨g, 0, none⟩) m cap) m news := ⟨hl, .inr ⟨g, cap, cur, rfl, hg, hr⟩⟩
    refine wp_append_own w s x t ho base e i z size bytes ht hi hz hsize hby hzs hsz v n xs hs hown ⟨g, 0, none⟩ m cap news hx hl (hu2.cells (by simp [Value.ownBlock])) h1 h63 hbytes hbase ?_
    intro v' w' hown' hgrow _
    exact h v' w' hown' (fun B w0 hb hw => hw.grown hgrow (by omega) (fun k hk => Nat.le_trans hb (hown.lt k hk).1)) hgrow
theorem own_belowS {W W' : World} {base size n : Nat} {e : TypeId} {v : Value} {xs : List Value} (h : W.ownsRow base e size v n xs) (hb : Below W.heap.size W W') : W'.ownsRow base e size v n xs :=
  h.kept (row := none) ⟨hb.os, hb.tape, hb.output, hb.size, fun k hk _ => hb.block k hk⟩ (by cases hv : v.ownBlock <;> simp)
theorem own_slice {w : World} {base : Nat} {e : TypeId} {size n : Nat} {v : Value} {xs : List Value} (h : w.ownsRow base e size v n xs) : ∃ A c, v = .slice A n c := by
  rcases h.2 with ⟨rfl, rfl⟩ | ⟨g, cap, cur, rfl, _⟩
  · exact ⟨_, _, rfl⟩
  · exact ⟨_, _, rfl⟩
theorem stCs_get : ∀ (l : List St) (j i : Nat) (hj : j < l.length), i < 6 → (stCs l)[j * 6 + i]? = (stC l[j])[i]?
  | x :: l, 0, i, _, hi => by
    show (stC x ++ stCs l)[0 * 6 + i]? = _
    rw [List.getElem?_append_left (by simp [stC]; omega)]
    simp
  | x :: l, j + 1, i, hj, hi => by
    show (stC x ++ stCs l)[(j + 1) * 6 + i]? = _
    rw [List.getElem?_append_right (by simp [stC]; omega), show (j + 1) * 6 + i - (stC x).length = j * 6 + i by simp [stC]; omega]
    exact stCs_get l j i (by simpa using hj) hi
theorem stCs_one (l : List St) : ∀ q ∈ stCs l, q.oneCell' = true := by
  intro q hq
  obtain ⟨x, _, hx⟩ := List.mem_flatMap.1 hq
  simp only [stC, List.mem_cons, List.not_mem_nil, or_false] at hx
  rcases hx with rfl | rfl | rfl | rfl | rfl | rfl <;> rfl
theorem stCs_app (a b : List St) : stCs (a ++ b) = stCs a ++ stCs b := by unfold stCs; rw [List.flatMap_append]
theorem own_state {W : World} {B g cap : Nat} {l : List St} (h : W.ownsRow B 74 6 (.slice (some ⟨g, 0, none⟩) l.length cap) l.length (stCs l)) (j : Nat) (hj : j < l.length) (i : Nat) (v : Value) (hv : (stC l[j])[i]? = some v) : W.cell? ⟨g, j * 6 + i, none⟩ = some v := by
  have hi : i < 6 := by
    have := (List.getElem?_eq_some_iff.1 hv).1
    simpa [stC] using this
  rw [h.cellAt (j * 6 + i) (by omega), stCs_get l j i hj hi]
  exact hv
theorem own_head {W : World} {B : Nat} {v : Value} {l : List St} (h : W.ownsRow B 74 6 v l.length (stCs l)) (hn : l ≠ []) : ∃ g cap, v = .slice (some ⟨g, 0, none⟩) l.length cap ∧ B ≤ g ∧ g < W.heap.size := by
  rcases h.2 with ⟨_, h0⟩ | ⟨g, cap, cur, rfl, hg, hr⟩
  · exact absurd (List.eq_nil_of_length_eq_zero h0) hn
  · exact ⟨g, cap, rfl, (h.lt g (by simp [Value.ownBlock])).1, (h.lt g (by simp [Value.ownBlock])).2⟩
set_option maxHeartbeats 1000000 in
set_option maxRecDepth 100000 in
theorem any_walk (g c B : Nat) (l : List St) (w : World) (hn : l ≠ []) (hl : l.length ≤ 9223372036854775807) (h : w.ownsRow B 74 6 (.slice (some ⟨g, 0, none⟩) l.length c) l.length (stCs l)) :
    Calls Tryz.prog 32 #[.slice (some ⟨g, 0, none⟩) l.length c, .func (.func 33) #[] #[]] w fun e w' => e = .returned (.bool (l.any endsP)) ∧ Below w.heap.size w w' := by
  have hI := st_index g 0 c l w hl (h.lt g (by simp [Value.ownBlock])).2 (fun j hj i v hv => by
    rw [getElem!_pos l j hj] at hv
    rw [Nat.zero_add]
    exact own_state h j hj i v hv)
  have hx := Lib.idxBy_nonneg_iff (fun _ y => endsP y) l default
  generalize Lib.idxBy (fun _ y => endsP y) l default = x at *
  rw [← hx]
  have HI := Lib.hid hI
  clear hI hx h
  go_enter Tryz.func32, Tryz.ntmps32
  go_wp2_with fail
  refine (HI.out).mono ?_
  rintro e w1 ⟨rfl, hb1⟩
  go_wp2_with fail
  go_returns
  exact ⟨rfl, hb1⟩
end Go.Proofs.YtcgdjnmfeibnoaaGreatDoor
/-! SixCut -/
namespace Go.Proofs.YtcgdjnmfeibnoaaGreatDoor
open Go.RowKit Go.Proofs.YtcgdjnmfeibnoaaGreatDoorW.PrintWords
set_option linter.unusedVariables false
set_option linter.unusedSimpArgs false
theorem pre_58 (a : UInt8) (l : List UInt8) : ([58, 58] : List UInt8).isPrefixOf (a :: l) = decide (a = 58 ∧ l.head? = some 58) := by
  cases l with
  | nil => simp [List.isPrefixOf]
  | cons b l => 
    rw [Bool.eq_iff_iff]
    simp [List.isPrefixOf]
    constructor
    · rintro ⟨rfl, rfl⟩; exact ⟨rfl, rfl⟩
    · rintro ⟨rfl, rfl⟩; exact ⟨rfl, rfl⟩
theorem cut_58 (l : List UInt8) : Lib.cut l [58, 58] = cut2 l := by
  induction l with
  | nil => rfl
  | cons a l ih =>
    have hidx : Lib.index (a :: l) [58, 58] = if a = 58 ∧ l.head? = some 58 then 0 else if Lib.index l [58, 58] = -1 then -1 else Lib.index l [58, 58] + 1 := by
      rw [Lib.index, pre_58]
      simp only [decide_eq_true_eq, beq_iff_eq]
    have hg := Lib.index_ge l [58, 58]
    unfold Lib.cut at ih ⊢
    rw [cut2, hidx]
    by_cases h : a = 58 ∧ l.head? = some 58
    · rw [if_pos h, if_pos h]
      simp
    · rw [if_neg h, if_neg h, ← ih]
      by_cases hi : Lib.index l [58, 58] = -1
      · rw [hi]
        rfl
      · rw [if_neg hi, if_pos (show 0 ≤ Lib.index l [58, 58] + 1 by omega), if_pos (show 0 ≤ Lib.index l [58, 58] by omega)]
        have e : (Lib.index l [58, 58] + 1).toNat = (Lib.index l [58, 58]).toNat + 1 := by omega
        rw [e, List.take_succ_cons, Nat.add_right_comm, List.drop_succ_cons]
end Go.Proofs.YtcgdjnmfeibnoaaGreatDoor
/-! SixWr -/
namespace Go.Proofs.YtcgdjnmfeibnoaaGreatDoor
open Go.RowKit Go.Proofs.YtcgdjnmfeibnoaaGreatDoorW.PrintWords Go.Proofs.YtcgdjnmfeibnoaaGreatDoor.X Go.IntWalk
set_option linter.unusedVariables false
set_option linter.unusedSimpArgs false
theorem u16wr (x : Int) (h : 0 ≤ x) : IntKind.u16.wrap x = x % 65536 := rfl
theorem strictL_nonneg : ∀ (l : List UInt8) (i : Nat) (n : Int) (part size : Nat) (x : Int), 0 ≤ (strictL l i n part size x).1
  | [], i, n, part, size, x => by
    rw [strictL]
    split
    · exact Int.le_refl _
    · exact Int.emod_nonneg _ (by decide)
  | c :: l, i, n, part, size, x => by
    rw [strictL]
    split
    · exact strictL_nonneg l _ _ _ _ _
    · split
      · exact strictL_nonneg l _ _ _ _ _
      · exact Int.le_refl _
theorem numL_nonneg (base : Int) (hb : 0 ≤ base) : ∀ (l : List UInt8) (n i : Int), 0 ≤ n → 0 ≤ (numL base l n i).1
  | [], n, i, h => by
    rw [numL]
    split
    · exact Int.le_refl _
    · exact h
  | c :: l, n, i, h => by
    rw [numL]
    split
    · exact Int.le_refl _
    · exact numL_nonneg base hb l _ _ (by have := Int.mul_nonneg h hb; omega)
theorem written_loop (L : List (List UInt8)) (hL : ∀ p ∈ L, p.length ≤ 9223372036854775807) (hlen : L.length ≤ 4294967296) : ∀ (m i : Nat) (acc : List Int), i + m = L.length → acc.length ≤ 2 * i →
    Ev (fun k => six_written.l0 k acc (L.map BA) (L.length : Int) (i : Int)) (acc ++ (L.drop i).flatMap grpV) := by
  intro m
  induction m with
  | zero =>
    intro i acc hm ha
    rw [List.drop_of_length_le (by omega), List.flatMap_nil, List.append_nil]
    refine Ev.step (f := fun _ => some acc) (fun k => ?_) (Ev.now _)
    simp only [six_written.l0]
    rw [if_neg (by omega)]
  | succ m ih =>
    intro i acc hm ha
    have hi : i < L.length := by omega
    have hp := hL L[i] (List.getElem_mem hi)
    have hr : rdOf ByteArray.empty (L.map BA) (i : Int) = BA L[i] := rd_map L i hi
    have hs := strict_ev (BA L[i]) (by rw [ba_size]; exact hp)
    rw [ba_list] at hs
    have w1 : wrap64 ((i : Int) + 1) = ((i + 1 : Nat) : Int) := by rw [wrap64_in _ (by omega)]; omega
    rw [List.drop_eq_getElem_cons hi, List.flatMap_cons]
    refine Ev.step (f := fun k => (four_Strict.f k (BA L[i])).bind fun bt => (if bt.2.2 = 0 then ((some (([IntKind.u16.wrap (bt.1 / 65536), IntKind.u16.wrap (bt.1)] : List Int) : List Int)).bind fun y => (if acc.length + y.length < 70368744177664 then (six_written.l0 k (acc ++ y) (L.map BA) (L.length : Int) (((i + 1 : Nat) : Int))) else (none))) else ((octet_Number.f (BA L[i]) 16).bind fun b => (if acc.length < 70368744177664 then (six_written.l0 k (acc ++ [IntKind.u16.wrap (b.1)]) (L.map BA) (L.length : Int) (((i + 1 : Nat) : Int))) else (none))))) (fun k => ?_) ?_
    · simp only [six_written.l0]
      rw [if_pos (by omega), if_pos (by omega), if_pos (by rw [List.length_map]; omega), hr, w1]
    · refine Ev.bind hs ?_
      have hn : 0 ≤ (strictV L[i]).1 := strictL_nonneg L[i] 0 0 0 0 0
      unfold grpV
      by_cases h0 : (strictV L[i]).2.2 = 0
      · rw [if_pos h0]
        have ih' := ih (i + 1) (acc ++ [(strictV L[i]).1 / 65536 % 65536, (strictV L[i]).1 % 65536]) (by omega) (by simp; omega)
        rw [List.append_assoc] at ih'
        refine Ev.congr (fun k => ?_) ih'
        rw [if_pos h0, Option.bind_some, if_pos (by simp; omega), u16wr _ (by omega), u16wr _ hn]
      · rw [if_neg h0]
        have ih' := ih (i + 1) (acc ++ [(numV L[i] 16).1 % 65536]) (by omega) (by simp; omega)
        rw [List.append_assoc] at ih'
        have hnn : 0 ≤ (numV L[i] 16).1 := by
          unfold numV
          rw [if_neg (by decide)]
          split
          · exact Int.le_refl _
          · exact numL_nonneg 16 (by decide) _ _ _ (Int.le_refl _)
        refine Ev.congr (fun k => ?_) ih'
        unfold octet_Number.f
        rw [if_neg h0, if_pos (by rw [ba_size]; exact hp), Option.bind_some, if_pos (by omega), ba_list, u16wr _ hnn]
theorem written_ev (s : ByteArray) (hs : s.size ≤ 4294967280) : Ev (fun k => six_written.f k s) (writtenV s.data.toList) := by
  have hz := size_len s
  have hl := splitC_len 58 s.data.toList
  have hp := splitC_part 58 s.data.toList
  unfold writtenV
  by_cases h : s.data.toList = []
  · rw [if_pos h]
    refine Ev.congr (f := fun _ => some []) (fun k => ?_) (Ev.now _)
    unfold six_written.f
    rw [if_pos (by rw [toList_data]; exact h)]
  · rw [if_neg h]
    have e := written_loop (splitC 58 s.data.toList) (fun p q => by have := hp p q; omega) (by omega) _ 0 [] (Nat.zero_add _) (by simp)
    rw [List.nil_append, List.drop_zero] at e
    refine Ev.congr (fun k => ?_) e
    unfold six_written.f strings_Split.f
    rw [if_neg (by rw [toList_data]; exact h), if_pos ⟨by omega, by decide⟩, show (⟨#[58]⟩ : ByteArray) = BA [58] from rfl, splitB_one, Option.bind_some, List.length_map]
    rfl
end Go.Proofs.YtcgdjnmfeibnoaaGreatDoor
/-! SixStOk -/
namespace Go.Proofs.YtcgdjnmfeibnoaaGreatDoor
open Go.RowKit Go.Proofs.YtcgdjnmfeibnoaaGreatDoorW.PrintWords
set_option linter.unusedVariables false
set_option linter.unusedSimpArgs false
structure StOk (x : St) : Prop where
  w0 : 0 ≤ x.wh
  w6 : x.wh ≤ 6
  p0 : 0 ≤ x.pc
  p8 : x.pc ≤ 8
  d0 : 0 ≤ x.dg
  n0 : 0 ≤ x.nu
  v0 : 0 ≤ x.va
  v1 : x.va ≤ 255
theorem begin_ok {x : St} (h : StOk x) (c : Int) : ∀ y ∈ beginP x c, StOk y := by
  have e := digV10 c
  intro y hy
  unfold beginP at hy
  rcases List.mem_append.1 hy with q | q
  · split at q
    · rw [List.mem_singleton] at q
      subst q
      exact ⟨(by decide : (0 : Int) ≤ 4), (by decide : (4 : Int) ≤ 6), h.p0, h.p8, (by decide : (0 : Int) ≤ 1), h.n0, h.v0, h.v1⟩
    · cases q
  · split at q
    · rename_i hd
      rw [List.mem_singleton] at q
      subst q
      exact ⟨(by decide : (0 : Int) ≤ 5), (by decide : (5 : Int) ≤ 6), h.p0, h.p8, h.d0, h.n0, hd.1, by show digV c 10 ≤ 255; rw [e]; split <;> omega⟩
    · cases q
theorem next_ok {x : St} (h : StOk x) (c : Int) : ∀ y ∈ nextP x c, StOk y := by
  have e := digV10 c
  have hd : digV c 10 ≤ 9 := by rw [e]; split <;> omega
  obtain ⟨w0, w6, p0, p8, d0, n0, v0, v1⟩ := h
  intro y hy
  unfold nextP at hy
  split at hy
  · rw [List.mem_singleton] at hy; subst hy
    exact ⟨(by decide : (0 : Int) ≤ 1), (by decide : (1 : Int) ≤ 6), p0, p8, d0, n0, v0, v1⟩
  split at hy
  · rw [List.mem_singleton] at hy; subst hy
    exact ⟨(by decide : (0 : Int) ≤ 3), (by decide : (3 : Int) ≤ 6), p0, p8, d0, n0, v0, v1⟩
  split at hy
  · exact begin_ok ⟨w0, w6, p0, p8, d0, n0, v0, v1⟩ c y hy
  split at hy
  · split at hy
    · rename_i hm
      rw [List.mem_singleton] at hy; subst hy
      refine ⟨(by decide : (0 : Int) ≤ 2), (by decide : (2 : Int) ≤ 6), by show 0 ≤ x.pc + 1; omega, ?_, d0, n0, v0, v1⟩
      show x.pc + 1 ≤ 8
      unfold moreP at hm
      dsimp only at hm
      split at hm
      · have := of_decide_eq_true hm; omega
      · have := of_decide_eq_true hm; omega
    · cases hy
  split at hy
  · rw [List.mem_singleton] at hy; subst hy
    exact ⟨w0, w6, p0, p8, by show 0 ≤ x.dg + 1; omega, n0, v0, v1⟩
  split at hy
  · rw [List.mem_singleton] at hy; subst hy
    exact ⟨(by decide : (0 : Int) ≤ 6), (by decide : (6 : Int) ≤ 6), p0, p8, d0, by show 0 ≤ x.nu + 1; omega, v0, v1⟩
  split at hy
  · rename_i hq
    rw [List.mem_singleton] at hy; subst hy
    exact ⟨(by decide : (0 : Int) ≤ 5), (by decide : (5 : Int) ≤ 6), p0, p8, d0, n0, hq.2, by show digV c 10 ≤ 255; omega⟩
  split at hy
  · rename_i hq
    rw [List.mem_singleton] at hy; subst hy
    exact ⟨w0, w6, p0, p8, d0, n0, by show 0 ≤ 10 * x.va + digV c 10; omega, hq.2.2.2⟩
  · cases hy
theorem st0_ok : StOk ⟨0, 0, false, 0, 0, 0⟩ := ⟨by decide, by decide, by decide, by decide, by decide, by decide, by decide, by decide⟩
theorem all_ok {l : List St} (h : ∀ x ∈ l, StOk x) (c : Int) : ∀ y ∈ l.flatMap (nextP · c), StOk y := by
  intro y hy
  obtain ⟨x, hx, hy⟩ := List.mem_flatMap.1 hy
  exact next_ok (h x hx) c y hy
end Go.Proofs.YtcgdjnmfeibnoaaGreatDoor
/-! SixShort -/
namespace Go.Proofs.YtcgdjnmfeibnoaaGreatDoor
open Go.RowKit Go.Proofs.YtcgdjnmfeibnoaaGreatDoorW.PrintWords
set_option linter.unusedVariables false
set_option linter.unusedSimpArgs false
/-- How many digits a number of an IPv4 address has. -/
def ndig (v : Int) : Int := if v < 10 then 1 else if v < 100 then 2 else 3
/-- How far a reader is. -/
def restP (x : St) : Int := if x.wh = 1 then 1 else if x.wh = 4 then x.dg else if x.wh = 5 then 4 * x.nu + ndig x.va else if x.wh = 6 then 4 * x.nu else 0
def farP (x : St) : Int := 6 * x.pc + (if x.gap then 2 else 0) + restP x
structure FarOk (x : St) : Prop where
  p0 : 0 ≤ x.pc
  p8 : x.pc ≤ 8
  d4 : x.wh = 4 → 1 ≤ x.dg ∧ x.dg ≤ 4
  n0 : 0 ≤ x.nu
  n3 : x.nu ≤ 3
  v0 : x.wh = 5 → 0 ≤ x.va
  w : 0 ≤ x.wh ∧ x.wh ≤ 6
  g1 : x.wh ≤ 1 → x.gap = false
theorem ndig_lo (v : Int) : 1 ≤ ndig v ∧ ndig v ≤ 3 := by unfold ndig; split; omega; split <;> omega
theorem far_most {x : St} (h : FarOk x) : farP x ≤ 65 := by
  obtain ⟨p0, p8, d4, n0, n3, v0, w, g1⟩ := h
  have := ndig_lo x.va
  unfold farP restP
  have hg : (if x.gap then (2 : Int) else 0) ≤ 2 := by split <;> omega
  by_cases h4 : x.wh = 4
  · have := d4 h4
    rw [if_neg (by omega : ¬ x.wh = 1), if_pos h4]
    omega
  · rw [if_neg h4]
    by_cases h1 : x.wh = 1
    · rw [if_pos h1]; omega
    · rw [if_neg h1]
      by_cases h5 : x.wh = 5
      · rw [if_pos h5]; omega
      · rw [if_neg h5]; split <;> omega
theorem begin_far {x : St} (h : FarOk x) (hw : x.wh = 0 ∨ x.wh = 2 ∨ x.wh = 3) (c : Int) : ∀ y ∈ beginP x c, FarOk y ∧ farP x + 1 ≤ farP y := by
  have e := digV10 c
  obtain ⟨p0, p8, d4, n0, n3, v0, w, g1⟩ := h
  have hx : farP x = 6 * x.pc + (if x.gap then 2 else 0) := by
    have hr : restP x = 0 := by unfold restP; rw [if_neg (by omega), if_neg (by omega), if_neg (by omega), if_neg (by omega)]
    unfold farP
    rw [hr]
    omega
  intro y hy
  unfold beginP at hy
  rcases List.mem_append.1 hy with q | q
  · split at q
    · rw [List.mem_singleton] at q
      subst q
      refine ⟨⟨p0, p8, fun _ => ⟨by show (1 : Int) ≤ 1; omega, by show (1 : Int) ≤ 4; omega⟩, n0, n3, fun q => absurd (show (4 : Int) = 5 from q) (by decide), by show (0 : Int) ≤ 4 ∧ (4 : Int) ≤ 6; omega, fun q => absurd (show (4 : Int) ≤ 1 from q) (by decide)⟩, ?_⟩
      rw [hx]
      show _ ≤ 6 * x.pc + (if x.gap then 2 else 0) + (if (4 : Int) = 1 then (1 : Int) else if (4 : Int) = 4 then 1 else _)
      rw [if_neg (by decide : ¬ (4 : Int) = 1), if_pos rfl]
      omega
    · cases q
  · split at q
    · rename_i hd
      rw [List.mem_singleton] at q
      subst q
      refine ⟨⟨p0, p8, fun q => absurd (show (5 : Int) = 4 from q) (by decide), n0, n3, fun _ => hd.1, by show (0 : Int) ≤ 5 ∧ (5 : Int) ≤ 6; omega, fun q => absurd (show (5 : Int) ≤ 1 from q) (by decide)⟩, ?_⟩
      rw [hx]
      have := ndig_lo (digV c 10)
      show _ ≤ 6 * x.pc + (if x.gap then 2 else 0) + (if (5 : Int) = 1 then (1 : Int) else if (5 : Int) = 4 then x.dg else if (5 : Int) = 5 then 4 * x.nu + ndig (digV c 10) else _)
      rw [if_neg (by decide : ¬ (5 : Int) = 1), if_neg (by decide : ¬ (5 : Int) = 4), if_pos rfl]
      omega
    · cases q
theorem next_far {x : St} (h : FarOk x) (c : Int) : ∀ y ∈ nextP x c, FarOk y ∧ farP x + 1 ≤ farP y := by
  have e := digV10 c
  have hd : digV c 10 ≤ 9 := by rw [e]; split <;> omega
  have h0 := h
  obtain ⟨p0, p8, d4, n0, n3, v0, w, g1⟩ := h
  have nd := ndig_lo x.va
  intro y hy
  unfold nextP at hy
  split at hy
  · rename_i hc
    rw [List.mem_singleton] at hy; subst hy
    refine ⟨⟨p0, p8, fun q => absurd (show (1 : Int) = 4 from q) (by decide), n0, n3, fun q => absurd (show (1 : Int) = 5 from q) (by decide), by show (0 : Int) ≤ 1 ∧ (1 : Int) ≤ 6; omega, fun _ => g1 (by omega)⟩, ?_⟩
    have hx : farP x = 6 * x.pc + (if x.gap then 2 else 0) := by
      have hr : restP x = 0 := by unfold restP; rw [if_neg (by omega), if_neg (by omega), if_neg (by omega), if_neg (by omega)]
      unfold farP
      rw [hr]
      omega
    rw [hx]
    show _ ≤ 6 * x.pc + (if x.gap then 2 else 0) + (if (1 : Int) = 1 then (1 : Int) else _)
    rw [if_pos rfl]
    omega
  split at hy
  · rename_i _ hc
    rw [List.mem_singleton] at hy; subst hy
    refine ⟨⟨p0, p8, fun q => absurd (show (3 : Int) = 4 from q) (by decide), n0, n3, fun q => absurd (show (3 : Int) = 5 from q) (by decide), by show (0 : Int) ≤ 3 ∧ (3 : Int) ≤ 6; omega, fun q => absurd (show (3 : Int) ≤ 1 from q) (by decide)⟩, ?_⟩
    show _ ≤ 6 * x.pc + (if true = true then 2 else 0) + (if (3 : Int) = 1 then (1 : Int) else if (3 : Int) = 4 then x.dg else if (3 : Int) = 5 then 4 * x.nu + ndig x.va else if (3 : Int) = 6 then 4 * x.nu else 0)
    rw [if_pos rfl, if_neg (by decide : ¬ (3 : Int) = 1), if_neg (by decide : ¬ (3 : Int) = 4), if_neg (by decide : ¬ (3 : Int) = 5), if_neg (by decide : ¬ (3 : Int) = 6)]
    have hx : farP x ≤ 6 * x.pc + 1 := by
      unfold farP
      rcases hc.1 with h1 | ⟨h1, h2⟩
      · have hr : restP x = 1 := by unfold restP; rw [if_pos h1]
        rw [g1 (by omega), hr]
        simp
      · have hr : restP x = 0 := by unfold restP; rw [if_neg (by omega), if_neg (by omega), if_neg (by omega), if_neg (by omega)]
        rw [h2, hr]
        simp
        omega
    omega
  split at hy
  · rename_i _ _ hc
    exact begin_far h0 hc c y hy
  split at hy
  · rename_i hc
    have hdg := d4 hc.1
    have hx : farP x = 6 * x.pc + (if x.gap then 2 else 0) + x.dg := by
      have hr : restP x = x.dg := by unfold restP; rw [if_neg (by omega), if_pos hc.1]
      unfold farP
      rw [hr]
    split at hy
    · rename_i hm
      rw [List.mem_singleton] at hy; subst hy
      refine ⟨⟨by show 0 ≤ x.pc + 1; omega, ?_, fun q => absurd (show (2 : Int) = 4 from q) (by decide), n0, n3, fun q => absurd (show (2 : Int) = 5 from q) (by decide), by show (0 : Int) ≤ 2 ∧ (2 : Int) ≤ 6; omega, fun q => absurd (show (2 : Int) ≤ 1 from q) (by decide)⟩, ?_⟩
      · show x.pc + 1 ≤ 8
        unfold moreP at hm
        dsimp only at hm
        split at hm
        · have := of_decide_eq_true hm; omega
        · have := of_decide_eq_true hm; omega
      · rw [hx]
        show _ ≤ 6 * (x.pc + 1) + (if x.gap then 2 else 0) + (if (2 : Int) = 1 then (1 : Int) else if (2 : Int) = 4 then x.dg else if (2 : Int) = 5 then 4 * x.nu + ndig x.va else if (2 : Int) = 6 then 4 * x.nu else 0)
        rw [if_neg (by decide : ¬ (2 : Int) = 1), if_neg (by decide : ¬ (2 : Int) = 4), if_neg (by decide : ¬ (2 : Int) = 5), if_neg (by decide : ¬ (2 : Int) = 6)]
        omega
    · cases hy
  split at hy
  · rename_i hc
    have hx : farP x = 6 * x.pc + (if x.gap then 2 else 0) + x.dg := by
      have hr : restP x = x.dg := by unfold restP; rw [if_neg (by omega), if_pos hc.1]
      unfold farP
      rw [hr]
    rw [List.mem_singleton] at hy; subst hy
    refine ⟨⟨p0, p8, fun _ => ⟨by show 1 ≤ x.dg + 1; have := d4 hc.1; omega, by show x.dg + 1 ≤ 4; omega⟩, n0, n3, fun q => by have q' : x.wh = 5 := q; omega, w, g1⟩, ?_⟩
    rw [hx]
    show _ ≤ 6 * x.pc + (if x.gap then 2 else 0) + (if x.wh = 1 then (1 : Int) else if x.wh = 4 then x.dg + 1 else _)
    rw [if_neg (by omega : ¬ x.wh = 1), if_pos hc.1]
    omega
  split at hy
  · rename_i hc
    have hx : farP x = 6 * x.pc + (if x.gap then 2 else 0) + (4 * x.nu + ndig x.va) := by
      have hr : restP x = (4 * x.nu + ndig x.va) := by unfold restP; rw [if_neg (by omega), if_neg (by omega), if_pos hc.1]
      unfold farP
      rw [hr]
    rw [List.mem_singleton] at hy; subst hy
    refine ⟨⟨p0, p8, fun q => absurd (show (6 : Int) = 4 from q) (by decide), by show 0 ≤ x.nu + 1; omega, by show x.nu + 1 ≤ 3; omega, fun q => absurd (show (6 : Int) = 5 from q) (by decide), by show (0 : Int) ≤ 6 ∧ (6 : Int) ≤ 6; omega, fun q => absurd (show (6 : Int) ≤ 1 from q) (by decide)⟩, ?_⟩
    rw [hx]
    show _ ≤ 6 * x.pc + (if x.gap then 2 else 0) + (if (6 : Int) = 1 then (1 : Int) else if (6 : Int) = 4 then x.dg else if (6 : Int) = 5 then 4 * (x.nu + 1) + ndig x.va else if (6 : Int) = 6 then 4 * (x.nu + 1) else 0)
    rw [if_neg (by decide : ¬ (6 : Int) = 1), if_neg (by decide : ¬ (6 : Int) = 4), if_neg (by decide : ¬ (6 : Int) = 5), if_pos rfl]
    omega
  split at hy
  · rename_i hc
    have hx : farP x = 6 * x.pc + (if x.gap then 2 else 0) + 4 * x.nu := by
      have hr : restP x = 4 * x.nu := by unfold restP; rw [if_neg (by omega), if_neg (by omega), if_neg (by omega), if_pos hc.1]
      unfold farP
      rw [hr]
    rw [List.mem_singleton] at hy; subst hy
    refine ⟨⟨p0, p8, fun q => absurd (show (5 : Int) = 4 from q) (by decide), n0, n3, fun _ => hc.2, by show (0 : Int) ≤ 5 ∧ (5 : Int) ≤ 6; omega, fun q => absurd (show (5 : Int) ≤ 1 from q) (by decide)⟩, ?_⟩
    rw [hx]
    have := ndig_lo (digV c 10)
    show _ ≤ 6 * x.pc + (if x.gap then 2 else 0) + (if (5 : Int) = 1 then (1 : Int) else if (5 : Int) = 4 then x.dg else if (5 : Int) = 5 then 4 * x.nu + ndig (digV c 10) else _)
    rw [if_neg (by decide : ¬ (5 : Int) = 1), if_neg (by decide : ¬ (5 : Int) = 4), if_pos rfl]
    omega
  split at hy
  · rename_i hc
    obtain ⟨c1, c2, c3, c4⟩ := hc
    have hx : farP x = 6 * x.pc + (if x.gap then 2 else 0) + (4 * x.nu + ndig x.va) := by
      have hr : restP x = (4 * x.nu + ndig x.va) := by unfold restP; rw [if_neg (by omega), if_neg (by omega), if_pos c1]
      unfold farP
      rw [hr]
    rw [List.mem_singleton] at hy; subst hy
    refine ⟨⟨p0, p8, fun q => by have q' : x.wh = 4 := q; omega, n0, n3, fun _ => by show 0 ≤ 10 * x.va + digV c 10; omega, w, g1⟩, ?_⟩
    rw [hx]
    have hnd : ndig x.va + 1 ≤ ndig (10 * x.va + digV c 10) := by
      unfold ndig
      by_cases q1 : x.va < 10
      · rw [if_pos q1, if_neg (by omega)]
        split <;> omega
      · rw [if_neg q1, if_pos (by omega), if_neg (by omega), if_neg (by omega)]
        omega
    show _ ≤ 6 * x.pc + (if x.gap then 2 else 0) + (if x.wh = 1 then (1 : Int) else if x.wh = 4 then x.dg else if x.wh = 5 then 4 * x.nu + ndig (10 * x.va + digV c 10) else _)
    rw [if_neg (by omega : ¬ x.wh = 1), if_neg (by omega : ¬ x.wh = 4), if_pos c1]
    omega
  · cases hy
theorem states_short : ∀ (s : List UInt8) (l : List St) (k : Int) (i : Nat) (m : List St), l ≠ [] → (∀ x ∈ l, FarOk x ∧ k ≤ farP x) → statesV s l i = .inr m → k + (s.length : Int) ≤ 65
  | [], l, k, i, m, hn, h, _ => by
    cases l with
    | nil => exact absurd rfl hn
    | cons x l =>
      obtain ⟨a, b⟩ := h x (by simp)
      have := far_most a
      simp
      omega
  | c :: s, l, k, i, m, hn, h, hs => by
    rw [statesV] at hs
    split at hs
    · cases hs
    · rename_i hne
      have := states_short s _ (k + 1) _ m hne (fun y hy => by
        obtain ⟨x, hx, hy⟩ := List.mem_flatMap.1 hy
        obtain ⟨a, b⟩ := h x hx
        obtain ⟨a', b'⟩ := next_far a _ y hy
        exact ⟨a', by omega⟩) hs
      rw [List.length_cons]
      omega
/-- A text over which a reader comes to its end is short. -/
theorem parse_short {s : List UInt8} {m : List St} (h : statesV s [st0] 0 = .inr m) : s.length ≤ 65 := by
  have := states_short s [st0] 0 0 m (by simp) (fun x hx => by
    rw [List.mem_singleton.1 hx]
    exact ⟨⟨by decide, by decide, fun q => absurd (show (0 : Int) = 4 from q) (by decide), by decide, by decide, fun q => absurd (show (0 : Int) = 5 from q) (by decide), by decide, fun _ => rfl⟩, by decide⟩) h
  omega
end Go.Proofs.YtcgdjnmfeibnoaaGreatDoor
/-! SixParse -/
namespace Go.Proofs.YtcgdjnmfeibnoaaGreatDoor
open Go.RowKit Go.Proofs.YtcgdjnmfeibnoaaGreatDoorW.PrintWords
set_option linter.unusedVariables false
set_option linter.unusedSimpArgs false
/-- The result's box is there, and all that was there. -/
structure PB (w w0 W : World) : Prop where
  box : w0.heap[w.heap.size]? = some (.cells (ar8 fun _ => 0) 24 (0, 0))
  below : Below w0.heap.size w0 W
  start : Below w.heap.size w w0
theorem PB.keep {w w0 W W' : World} (h : PB w w0 W) (hb : Below W.heap.size W W') : PB w w0 W' := ⟨h.box, h.below.trans (hb.mono h.below.size), h.start⟩
theorem PB.blk {w w0 W : World} (h : PB w w0 W) : W.heap[w.heap.size]? = some (.cells (ar8 fun _ => 0) 24 (0, 0)) := blk_below h.box h.below
theorem PB.all {w w0 W : World} (h : PB w w0 W) : Below w.heap.size w W := h.start.trans (h.below.mono h.start.size)
/-- What stands at the head of a round over the bytes. -/
def ORel (s : ByteArray) (w w0 : World) (v i : Value) (W : World) : Prop :=
  ∃ (n : Nat) (x : Sc) (l : List St), n ≤ s.size ∧ i = .int .i64 n ∧ statesV s.data.toList [st0] 0 = statesV (s.data.toList.drop n) l n ∧ Sim x l ∧ (∀ y ∈ l, StOk y) ∧ W.ownsRow w0.heap.size 74 6 v l.length (stCs l) ∧ PB w w0 W
/-- What stands at the head of a round over the states. -/
def NRel (W1 : World) (l : List St) (c : Int) (v k : Value) (W : World) : Prop :=
  ∃ n : Nat, n ≤ l.length ∧ k = .int .i64 n ∧ W.ownsRow W1.heap.size 74 6 v ((l.take n).flatMap (nextP · c)).length (stCs ((l.take n).flatMap (nextP · c))) ∧ Below W1.heap.size W1 W
theorem sim_len {x : Sc} {l : List St} (h : Sim x l) : l.length ≤ 2 := by cases h <;> simp
theorem next_len (x : St) (c : Int) : (nextP x c).length ≤ 2 := by
  have hb : (beginP x c).length ≤ 2 := by unfold beginP; rw [List.length_append]; repeat' split; all_goals simp
  unfold nextP
  repeat' split
  all_goals first | exact hb | simp
theorem flat_len (l : List St) (c : Int) : (l.flatMap (nextP · c)).length ≤ 2 * l.length := by
  induction l with
  | nil => simp
  | cons x l ih =>
    have := next_len x c
    rw [List.flatMap_cons, List.length_append, List.length_cons]
    omega
theorem ld8a {W : World} {b : Nat} {f : Nat → Int} (h : W.heap[b]? = some (.cells (ar8 f) 24 (0, 0))) : (loadVar 24 ⟨b, 0, none⟩).run Tryz.prog W = .ok (.agg (ar8 f)) W :=
  run_loadVar_row _ _ 24 24 _ (0, 0) _ h Tryz.underlying24 rfl (by kernel_rfl)
theorem parsed_of {s : ByteArray} {w W : World} {f F : Nat → Int} {a b : Int} (h : parseP s.data.toList = (F, a, b)) (hf : ∀ j, j < 8 → f j = F j) (hb : Below w.heap.size w W) : RefParsed s w (.returned (.tuple #[.agg (ar8 f), .int .i64 a, .int .i64 b])) W := by
  obtain ⟨h1, h2⟩ := parse_same s.data.toList
  rw [h] at h1 h2
  exact ⟨f, by rw [← h2], fun j hj => (hf j hj).trans (h1 j hj), hb⟩
theorem cut2_len (l : List UInt8) : (cut2 l).1.length ≤ l.length ∧ (cut2 l).2.1.length ≤ l.length := by
  induction l with
  | nil => exact ⟨Nat.le_refl _, Nat.le_refl _⟩
  | cons a l ih =>
    rw [cut2]
    split
    · exact ⟨Nat.zero_le _, by simp; omega⟩
    · exact ⟨by simp only [List.length_cons]; omega, by simp only [List.length_cons]; omega⟩
def off8 (n : Nat) : Nat := if n = 0 then 0 else 8 - n
theorem slice8 (b : Nat) : ∀ n : Nat, n ≤ 8 → ∀ W : World, (Instr.sliceAt 24 (.pointer (some ⟨b, 0, none⟩)) (some (.int .i64 (8 - (n : Int)))) none none).run Tryz.prog W = .ok (.slice (some ⟨b, off8 n, none⟩) n n) W
  | 0, _ => fun W => by kernel_rfl
  | 1, _ => fun W => by kernel_rfl
  | 2, _ => fun W => by kernel_rfl
  | 3, _ => fun W => by kernel_rfl
  | 4, _ => fun W => by kernel_rfl
  | 5, _ => fun W => by kernel_rfl
  | 6, _ => fun W => by kernel_rfl
  | 7, _ => fun W => by kernel_rfl
  | 8, _ => fun W => by kernel_rfl
  | n + 9, h => absurd h (by omega)
/-- The row behind both copies. -/
theorem rows_out {F B : List Int} (h : F.length + B.length ≤ 8) : splice (splice (List.replicate 8 (Value.int .u16 0)) 0 (F.map (Value.int .u16))) (8 - B.length) (B.map (Value.int .u16)) = (ar8 (outOf F B)).toList := by
  have e : (ar8 (outOf F B)).toList = (List.range 8).map fun j => Value.int .u16 (outOf F B j) := rfl
  rw [e]
  apply List.ext_getElem?
  intro j
  rw [List.getElem?_map]
  by_cases hj : j < 8
  · rw [List.getElem?_range hj]
    show _ = some (Value.int .u16 (outOf F B j))
    have hl : (splice (List.replicate 8 (Value.int .u16 0)) 0 (F.map (Value.int .u16))).length = 8 := by rw [length_splice _ _ _ (by simp; omega)]; simp
    unfold outOf
    by_cases hB : 8 - B.length ≤ j
    · rw [if_pos hB]
      unfold splice
      rw [List.getElem?_append_right (by rw [List.length_take]; simp; omega)]
      have hk : j - (8 - B.length) < B.length := by omega
      rw [List.length_take]
      rw [show min (8 - B.length) (List.take 0 (List.replicate 8 (Value.int .u16 0)) ++ (List.map (Value.int .u16) F ++ List.drop (0 + (List.map (Value.int .u16) F).length) (List.replicate 8 (Value.int .u16 0)))).length = 8 - B.length from by simp; omega]
      rw [List.getElem?_append_left (by rw [List.length_map]; exact hk), List.getElem?_map, List.getElem?_eq_getElem hk, List.getD_eq_getElem?_getD, List.getElem?_eq_getElem hk]
      rfl
    · rw [if_neg hB]
      generalize hsp : splice (List.replicate 8 (Value.int .u16 0)) 0 (F.map (Value.int .u16)) = R at *
      have hR : R = F.map (Value.int .u16) ++ List.replicate (8 - F.length) (Value.int .u16 0) := by
        rw [← hsp]
        show List.take 0 _ ++ (F.map (Value.int .u16) ++ List.drop (0 + (F.map (Value.int .u16)).length) (List.replicate 8 (Value.int .u16 0))) = _
        rw [List.drop_replicate, List.length_map, Nat.zero_add]
        rfl
      unfold splice
      rw [List.getElem?_append_left (by rw [List.length_take]; omega), List.getElem?_take, if_pos (by omega), hR]
      by_cases hF : j < F.length
      · rw [List.getElem?_append_left (by rw [List.length_map]; exact hF), List.getElem?_map, List.getElem?_eq_getElem hF, List.getD_eq_getElem?_getD, List.getElem?_eq_getElem hF]
        rfl
      · rw [List.getElem?_append_right (by rw [List.length_map]; omega), List.length_map, List.getElem?_replicate, if_pos (by omega), List.getD_eq_getElem?_getD, List.getElem?_eq_none (by omega)]
        rfl
  · rw [List.getElem?_eq_none (by
      rw [length_splice _ _ _ (by rw [length_splice _ _ _ (by simp; omega), List.length_map]; simp; omega), length_splice _ _ _ (by simp; omega)]
      simp
      omega), List.getElem?_eq_none (by simp; omega)]
    rfl
/-- Pieces that lie in a row. -/
def Cells16 (W : World) (A : Option Addr) (l : List Int) : Prop := 0 < l.length → ∃ ad, A = some ad ∧ ∀ j v, (l.map (Value.int .u16))[j]? = some v → W.cell? (ad.add j) = some v
theorem written_walk (t : ByteArray) (ht : t.size ≤ 4294967280) (w : World) (hG : GW w) : Calls Tryz.prog 35 #[.string t] w fun e w' => ∃ A c, e = .returned (.slice A (writtenV t.data.toList).length c) ∧ Cells16 w' A (writtenV t.data.toList) ∧ Below w.heap.size w w' := by
  obtain ⟨k, hk⟩ := (written_ev t ht).rounds
  refine (Go.Proofs.YtcgdjnmfeibnoaaGreatDoor.X.six_written.calls k t _ w hG hk).mono ?_
  rintro e w' ⟨v, rfl, hR, hb⟩
  obtain ⟨A, c, rfl, _, hC⟩ := Kd.R_reads hR
  refine ⟨A, c, rfl, ?_, hb⟩
  intro hpos
  obtain ⟨ad, hA, _⟩ := Kd.at_int hC 0 (Int.le_refl _) (by omega)
  refine ⟨ad, hA, fun j v hv => ?_⟩
  have hj := (List.getElem?_eq_some_iff.1 hv).1
  rw [List.length_map] at hj
  obtain ⟨ad', hA', hc⟩ := Kd.at_int hC (j : Int) (by omega) (by omega)
  obtain rfl : ad = ad' := Option.some.inj (hA.symm.trans hA')
  rw [Int.toNat_natCast] at hc
  rw [hc]
  rw [List.getElem?_map, List.getElem?_eq_getElem hj] at hv
  rw [← Option.some.inj hv]
  unfold rd
  rw [Int.toNat_natCast, List.getD_eq_getElem?_getD, List.getElem?_eq_getElem hj]
  rfl
theorem cut_walk (s : ByteArray) (hs : s.size ≤ 4294967280) (w : World) (hG : GW w) : Calls Tryz.prog 34 #[.string s, .string ⟨#[58, 58]⟩] w fun e w' => e = .returned (.tuple #[.string (BA (cut2 s.data.toList).1), .string (BA (cut2 s.data.toList).2.1), .bool (cut2 s.data.toList).2.2]) ∧ Below w.heap.size w w' := by
  refine (strings_Cut.calls s ⟨#[58, 58]⟩ (BA (cut2 s.data.toList).1) (BA (cut2 s.data.toList).2.1) (cut2 s.data.toList).2.2 w hG ?_).mono fun e w' ⟨h1, h2⟩ => ⟨h1, h2.below⟩
  unfold strings_Cut.f
  rw [if_pos (.inl (by omega)), ← cut_58]
  rfl
set_option maxHeartbeats 4000000 in
set_option maxRecDepth 100000 in
theorem parse_walk (s : ByteArray) (hs : s.size ≤ 9223372036854775807) (w : World) (hG : GW w) : Calls Tryz.prog 17 #[.string s] w (RefParsed s w) := by
  have HZ := Lib.hid (size_len s)
  have HG := Lib.hid hG
  clear hG
  obtain ⟨i0, hi0, hz0, hz1, hz2⟩ := st_info
  have HI := Lib.hid hi0
  have HZ0 := Lib.hid hz0
  have HZ1 := Lib.hid hz1
  have HZ2 := Lib.hid hz2
  clear hi0 hz0 hz1 hz2
  go_enter Tryz.func17, Tryz.ntmps17
  go_upto_region 1 with fail
  have hPB : PB w (w.alloc (.cells #[.int .u16 0, .int .u16 0, .int .u16 0, .int .u16 0, .int .u16 0, .int .u16 0, .int .u16 0, .int .u16 0] 24)) (w.alloc (.cells #[.int .u16 0, .int .u16 0, .int .u16 0, .int .u16 0, .int .u16 0, .int .u16 0, .int .u16 0, .int .u16 0] 24)) := ⟨blk_new _ _, Below.refl _ _, (Below.refl _ _).alloc (Nat.le_refl _) _⟩
  generalize w.alloc (.cells #[.int .u16 0, .int .u16 0, .int .u16 0, .int .u16 0, .int .u16 0, .int .u16 0, .int .u16 0, .int .u16 0] 24) = w0 at *
  go_wp2_with fail
  go_loopw [5, 19] (fun v i W => ORel s w w0 v i W) (fun v i _ => s.size - (intOf i).toNat)
  case atStart =>
    refine ⟨0, sc0, [st0], Nat.zero_le _, rfl, rfl, sim0, fun y hy => by rw [List.mem_singleton.1 hy]; exact st0_ok, ?_, hPB.keep ((Below.refl _ _).alloc (Nat.le_refl _) _)⟩
    exact World.ownsRow_lit (base := w0.heap.size) (size := 6) (e := 74) w0 #[.int .i64 0, .int .i64 0, .bool false, .int .i64 0, .int .i64 0, .int .i64 0] 1 (Nat.le_refl _) (by unfold maxLen; omega) rfl
  case round =>
    obtain ⟨n, x, l, hn, rfl, hsv, hS, hok, hown, hP⟩ := hrel
    have hne := hS.ne
    have hl2 := sim_len hS
    obtain ⟨g, cap, rfl, hg0, hg1⟩ := own_head hown hne
    by_cases hlt : n < s.size
    · have hz := HZ.out
      have hd : s.data.toList.drop n = s[n] :: s.data.toList.drop (n + 1) := List.drop_eq_getElem_cons (by omega)
      rw [hd, statesV] at hsv
      have hst := step_sim hS ((s[n].toNat : Nat) : Int)
      have c1 : ((s[n].toNat : Nat) : Int) < 256 := by have := s[n].toNat_lt; omega
      have hltI : (n : Int) < s.size := by omega
      have HSV := Lib.hid hsv
      have HST := Lib.hid hst
      have HOK := Lib.hid hok
      have HOW := Lib.hid hown
      have HNE := Lib.hid hne
      clear hsv hst hok hown hd hz hne
      obtain ⟨W1, rfl⟩ : ∃ W, W = wr := ⟨_, rfl⟩
      go_wp2_with fail
      go_loopw [7, 24] (fun v k W => NRel W1 l ((s[n].toNat : Nat) : Int) v k W) (fun v k _ => l.length - (intOf k).toNat)
      case atStart => exact ⟨0, Nat.zero_le _, rfl, own_nil _ _ _ _, Below.refl _ _⟩
      case round =>
        obtain ⟨k, hk, rfl, hrow, hbi⟩ := hrel
        have HROW := Lib.hid hrow
        have hle := hbi.size
        clear hrow
        by_cases hkl : k < l.length
        · obtain ⟨y, ey⟩ : ∃ y, y = l[k] := ⟨_, rfl⟩
          have cell : ∀ (i : Nat) (u : Value), (stC y)[i]? = some u → wr.cell? ⟨g, k * 6 + i, none⟩ = some u := fun i u h => (hbi.cell (p := ⟨g, k * 6 + i, none⟩) hg1).trans (own_state HOW.out k hkl i u (by rw [← ey]; exact h))
          have c0 : wr.cell? ⟨g, k * 6, none⟩ = some (.int .i64 y.wh) := cell 0 _ rfl
          have c1' := cell 1 _ rfl
          have c2 := cell 2 _ rfl
          have c3 := cell 3 _ rfl
          have c4 := cell 4 _ rfl
          have c5 := cell 5 _ rfl
          have hyo := HOK.out y (by rw [ey]; exact List.getElem_mem _)
          have HYO := Lib.hid hyo
          have EY := Lib.hid ey
          have hgl : g < wr.heap.size := by omega
          clear ey hyo cell
          go_wp2_with fail
          have hbk : (wr.alloc (.cells #[.int .i64 y.wh, .int .i64 y.pc, .bool y.gap, .int .i64 y.dg, .int .i64 y.nu, .int .i64 y.va] 74)).heap[wr.heap.size]? = some (.cells #[.int .i64 y.wh, .int .i64 y.pc, .bool y.gap, .int .i64 y.dg, .int .i64 y.nu, .int .i64 y.va] 74 (0, 0)) := blk_new _ _
          have HROW2 := Lib.hid (HROW.out.alloc (.cells #[.int .i64 y.wh, .int .i64 y.pc, .bool y.gap, .int .i64 y.dg, .int .i64 y.nu, .int .i64 y.va] 74))
          have hbw : Below W1.heap.size W1 (wr.alloc (.cells #[.int .i64 y.wh, .int .i64 y.pc, .bool y.gap, .int .i64 y.dg, .int .i64 y.nu, .int .i64 y.va] 74)) := hbi.alloc hle _
          have hlk := blk_lt hbk
          have hnb : u7.ownBlock ≠ some wr.heap.size := fun e => Nat.lt_irrefl _ (HROW.out.lt _ e).2
          have HNB := Lib.hid hnb
          clear hnb
          generalize wr.heap.size = b at *
          generalize wr.alloc (.cells #[.int .i64 y.wh, .int .i64 y.pc, .bool y.gap, .int .i64 y.dg, .int .i64 y.nu, .int .i64 y.va] 74) = WA at *
          have hle2 := hbw.size
          clear c0 c1' c2 c3 c4 c5
          have d0 : WA.cell? ⟨b, 0, none⟩ = some (.int .i64 y.wh) := (blk_cell hbk 0).trans rfl
          have d1 : WA.cell? ⟨b, 1, none⟩ = some (.int .i64 y.pc) := (blk_cell hbk 1).trans rfl
          have d2 : WA.cell? ⟨b, 2, none⟩ = some (.bool y.gap) := (blk_cell hbk 2).trans rfl
          have d3 : WA.cell? ⟨b, 3, none⟩ = some (.int .i64 y.dg) := (blk_cell hbk 3).trans rfl
          have d4 : WA.cell? ⟨b, 4, none⟩ = some (.int .i64 y.nu) := (blk_cell hbk 4).trans rfl
          have d5 : WA.cell? ⟨b, 5, none⟩ = some (.int .i64 y.va) := (blk_cell hbk 5).trans rfl
          clear hbk
          have hlen := flat_len (l.take k) ((s[n].toNat : Nat) : Int)
          have hnl := next_len y ((s[n].toNat : Nat) : Int)
          have hlk2 : (l.take k).length ≤ 2 := by rw [List.length_take]; omega
          generalize hrows : (l.take k).flatMap (nextP · ((s[n].toNat : Nat) : Int)) = rows at *
          generalize hnews : nextP y ((s[n].toNat : Nat) : Int) = news at *
          have HROWS := Lib.hid hrows
          have HNEWS := Lib.hid hnews
          clear hrows
          have HN : Hid (∀ W, Calls Tryz.prog 31 #[stV y, .int .u8 ((s[n].toNat : Nat) : Int)] W (StRow W news)) := Lib.hid (fun W => by rw [← hnews]; exact next_walk y HYO.out.w0 HYO.out.w6 HYO.out.p0 (by have := HYO.out.p8; omega) HYO.out.d0 HYO.out.n0 HYO.out.v0 (by have := HYO.out.v1; omega) _ (by omega) c1 W)
          clear hnews
          go_region_held3 (fun w' => w'.cell? ⟨b, 0, none⟩ = some (.int .i64 y.wh) ∧ w'.cell? ⟨b, 1, none⟩ = some (.int .i64 y.pc) ∧ w'.cell? ⟨b, 2, none⟩ = some (.bool y.gap) ∧ w'.cell? ⟨b, 3, none⟩ = some (.int .i64 y.dg) ∧ w'.cell? ⟨b, 4, none⟩ = some (.int .i64 y.nu) ∧ w'.cell? ⟨b, 5, none⟩ = some (.int .i64 y.va))
            (first | go_keep | (go_split_ands; refine ⟨?_, ?_, ?_, ?_, ?_, ?_⟩ <;> (rw [hgrow.cell_far _ (Nat.lt_of_lt_of_le hlk hb3.size) (Ne.symm HNB.out)]; assumption)))
            (first
              | (go_at_call 31
                 refine (HN.out _).mono ?_
                 rintro e w3 ⟨u, rfl, ho3, hb3⟩
                 have hcc : ∀ (q o : Nat), q < WA.heap.size → w3.cell? ⟨q, o, none⟩ = WA.cell? ⟨q, o, none⟩ := fun q o h => hb3.cell (p := ⟨q, o, none⟩) h)
              | (revert hb3
                 intro hb3
                 refine step_app_row (by rfl) (.tmp 28) (.tmp 33) 75 (by rfl) W1.heap.size 74 i0 (.agg #[.int .i64 0, .int .i64 0, .bool false, .int .i64 0, .int .i64 0, .int .i64 0]) 6 48 Tryz.underlying75 HI.out HZ0.out HZ1.out HZ2.out rfl (by decide) u7 rows.length (stCs rows) (by rfl) (own_belowS HROW2.out.drew hb3) u WA.heap.size news.length (stCs news) (by rfl) ho3 (stCs_one _) (by unfold maxLen; omega) (by omega) (Nat.le_trans hle2 hb3.size) ?_
                 intro v4 w4 hown4 hbel4 hgrow))
          rename_i hHeld
          clear hHeld
          go_wp2_with fail
          have hnow : (l.take (k + 1)).flatMap (nextP · ((s[n].toNat : Nat) : Int)) = rows ++ news := by
            rw [List.take_succ_eq_append_getElem hkl, List.flatMap_append, HROWS.out, ← EY.out]
            show rows ++ (nextP y ((s[n].toNat : Nat) : Int) ++ []) = _
            rw [List.append_nil, HNEWS.out]
          refine ⟨⟨k + 1, by omega, by go_num, ?_, hbel4 _ _ (Nat.le_refl _) ((bdn hbw 1).trans (hb3.mono hle2))⟩, ?_⟩
          · rw [hnow, List.length_append, stCs_app]
            exact hown4
          · simp [intOf]; omega
        · obtain rfl : k = l.length := by omega
          have hP2 := hP.keep hbi
          have hrow := HROW.out
          rw [List.take_length] at hrow
          obtain ⟨L, hL⟩ : ∃ L, L = l.flatMap (nextP · ((s[n].toNat : Nat) : Int)) := ⟨_, rfl⟩
          rw [← hL] at hrow
          have HL := Lib.hid hL
          clear hL HROW
          obtain ⟨A, cc, rfl⟩ := own_slice hrow
          have HR2 := Lib.hid hrow
          have hP3 := Lib.hid hP2
          have hb2 := hP2.blk
          clear hrow hP2
          by_cases hLn : L = []
          · subst hLn
            have y0 : wr.cell? ⟨w.heap.size, 0, none⟩ = some (.int .u16 0) := (blk_cell hb2 0).trans rfl
            have v0 : wr.frozen? ⟨w.heap.size, 0, none⟩ = false := blk_frozen hb2 0
            have y1 : wr.cell? ⟨w.heap.size, 1, none⟩ = some (.int .u16 0) := (blk_cell hb2 1).trans rfl
            have v1 : wr.frozen? ⟨w.heap.size, 1, none⟩ = false := blk_frozen hb2 1
            have y2 : wr.cell? ⟨w.heap.size, 2, none⟩ = some (.int .u16 0) := (blk_cell hb2 2).trans rfl
            have v2 : wr.frozen? ⟨w.heap.size, 2, none⟩ = false := blk_frozen hb2 2
            have y3 : wr.cell? ⟨w.heap.size, 3, none⟩ = some (.int .u16 0) := (blk_cell hb2 3).trans rfl
            have v3 : wr.frozen? ⟨w.heap.size, 3, none⟩ = false := blk_frozen hb2 3
            have y4 : wr.cell? ⟨w.heap.size, 4, none⟩ = some (.int .u16 0) := (blk_cell hb2 4).trans rfl
            have v4 : wr.frozen? ⟨w.heap.size, 4, none⟩ = false := blk_frozen hb2 4
            have y5 : wr.cell? ⟨w.heap.size, 5, none⟩ = some (.int .u16 0) := (blk_cell hb2 5).trans rfl
            have v5 : wr.frozen? ⟨w.heap.size, 5, none⟩ = false := blk_frozen hb2 5
            have y6 : wr.cell? ⟨w.heap.size, 6, none⟩ = some (.int .u16 0) := (blk_cell hb2 6).trans rfl
            have v6 : wr.frozen? ⟨w.heap.size, 6, none⟩ = false := blk_frozen hb2 6
            have y7 : wr.cell? ⟨w.heap.size, 7, none⟩ = some (.int .u16 0) := (blk_cell hb2 7).trans rfl
            have v7 : wr.frozen? ⟨w.heap.size, 7, none⟩ = false := blk_frozen hb2 7
            go_wp2_with fail
            try simp only [Exit.inBlock, Exit.then]
            refine bodyPost_ret (results_cell3 rfl rfl (ld8a (blk_put8 hb2 (fun _ => 0)))) rfl ?_
            refine parsed_of (f := fun _ => 0) (F := fun _ => 0) (a := n) (b := 210) ?_ (fun _ _ => rfl) (below_put8 hP3.out.all (Nat.le_refl _) _ _ _ _ _ _ _ _)
            unfold parseP
            rw [HSV.out, ← HL.out, if_pos rfl]
          · have hLl : L.length ≠ 0 := fun e => hLn (List.eq_nil_of_length_eq_zero e)
            have hL0 : (L.length == 0) = false := beq_eq_false_iff_ne.2 hLl
            go_wp2_with fail
            refine ⟨⟨n + 1, x.step ((s[n].toNat : Nat) : Int), L, by omega, by go_num, by rw [HSV.out, ← HL.out, if_neg hLn], ?_, ?_, own_base HR2.out hP.below.size, hP3.out⟩, by simp [intOf]; omega⟩
            · rcases HST.out with q | q
              · exact absurd (HL.out.trans q.2) hLn
              · rw [HL.out]; exact q.2
            · rw [HL.out]; exact all_ok HOK.out _
    · obtain rfl : n = s.size := by omega
      have hz := HZ.out
      have hsv' : statesV s.data.toList [st0] 0 = .inr l := hsv.trans (by rw [List.drop_of_length_le (by omega)]; rfl)
      have HSV := Lib.hid hsv'
      have HAC := Lib.hid (any_walk g cap w0.heap.size l wr hne (by omega) hown)
      clear hsv hsv' hown hz hok hlt
      go_wp2_with fail
      refine HAC.out.mono ?_
      rintro e w2 ⟨rfl, hb2⟩
      have hP2 := hP.keep hb2
      generalize hany : l.any endsP = any at *
      have HANY := Lib.hid hany
      clear hany HAC hb2
      cases any
      · have hk2 := hP2.blk
        have y0 : w2.cell? ⟨w.heap.size, 0, none⟩ = some (.int .u16 0) := (blk_cell hk2 0).trans rfl
        have v0 : w2.frozen? ⟨w.heap.size, 0, none⟩ = false := blk_frozen hk2 0
        have y1 : w2.cell? ⟨w.heap.size, 1, none⟩ = some (.int .u16 0) := (blk_cell hk2 1).trans rfl
        have v1 : w2.frozen? ⟨w.heap.size, 1, none⟩ = false := blk_frozen hk2 1
        have y2 : w2.cell? ⟨w.heap.size, 2, none⟩ = some (.int .u16 0) := (blk_cell hk2 2).trans rfl
        have v2 : w2.frozen? ⟨w.heap.size, 2, none⟩ = false := blk_frozen hk2 2
        have y3 : w2.cell? ⟨w.heap.size, 3, none⟩ = some (.int .u16 0) := (blk_cell hk2 3).trans rfl
        have v3 : w2.frozen? ⟨w.heap.size, 3, none⟩ = false := blk_frozen hk2 3
        have y4 : w2.cell? ⟨w.heap.size, 4, none⟩ = some (.int .u16 0) := (blk_cell hk2 4).trans rfl
        have v4 : w2.frozen? ⟨w.heap.size, 4, none⟩ = false := blk_frozen hk2 4
        have y5 : w2.cell? ⟨w.heap.size, 5, none⟩ = some (.int .u16 0) := (blk_cell hk2 5).trans rfl
        have v5 : w2.frozen? ⟨w.heap.size, 5, none⟩ = false := blk_frozen hk2 5
        have y6 : w2.cell? ⟨w.heap.size, 6, none⟩ = some (.int .u16 0) := (blk_cell hk2 6).trans rfl
        have v6 : w2.frozen? ⟨w.heap.size, 6, none⟩ = false := blk_frozen hk2 6
        have y7 : w2.cell? ⟨w.heap.size, 7, none⟩ = some (.int .u16 0) := (blk_cell hk2 7).trans rfl
        have v7 : w2.frozen? ⟨w.heap.size, 7, none⟩ = false := blk_frozen hk2 7
        go_wp2_with fail
        try simp only [Exit.inBlock, Exit.then]
        refine bodyPost_ret (results_cell3 rfl rfl (ld8a (blk_put8 hk2 (fun _ => 0)))) rfl ?_
        refine parsed_of (f := fun _ => 0) (F := fun _ => 0) (a := s.size) (b := 210) ?_ (fun _ _ => rfl) (below_put8 hP2.all (Nat.le_refl _) _ _ _ _ _ _ _ _)
        unfold parseP
        rw [HSV.out]
        simp only
        rw [HANY.out, if_neg (by decide), HZ.out]
      · have hfit := parse_fits s.data.toList l HSV.out HANY.out
        have hcl := cut2_len s.data.toList
        have hzz := HZ.out
        have hshort := parse_short HSV.out
        have hs' : s.size ≤ 65 := by omega
        have HCUT := Lib.hid (cut_walk s (by omega) w2 (HG.out.keep hP2.all))
        have HPV : Hid (parseP s.data.toList = (outOf (writtenV (cut2 s.data.toList).1) (writtenV (cut2 s.data.toList).2.1), 0, 0)) := Lib.hid (by
          unfold parseP
          rw [HSV.out]
          simp only
          rw [HANY.out, if_pos rfl])
        have hW1 := fun w hG => written_walk (BA (cut2 s.data.toList).1) (by rw [ba_size]; omega) w hG
        have hW2 := fun w hG => written_walk (BA (cut2 s.data.toList).2.1) (by rw [ba_size]; omega) w hG
        rw [ba_list] at hW1 hW2
        generalize (cut2 s.data.toList).1 = front at *
        generalize (cut2 s.data.toList).2.1 = back at *
        generalize (cut2 s.data.toList).2.2 = found at *
        generalize writtenV front = F at *
        generalize writtenV back = B at *
        have HW1 := Lib.hid hW1
        have HW2 := Lib.hid hW2
        clear hW1 hW2 hzz hcl
        go_wp2_with fail
        refine HCUT.out.mono ?_
        rintro e w3 ⟨rfl, hb3⟩
        have hP3 := hP2.keep hb3
        clear hb3 HCUT
        go_wp2_with fail
        have hP4 := hP3.keep ((Below.refl _ _).alloc (Nat.le_refl _) (.cells (ar8 fun _ => 0) 24))
        have hk4 : (w3.alloc (.cells (ar8 fun _ => 0) 24)).heap[w3.heap.size]? = some (.cells (((List.replicate 8 (Value.int .u16 0)) : List Value).toArray) 24 (0, 0)) := blk_new _ _
        have hle4 : w0.heap.size ≤ w3.heap.size := hP3.below.size
        have hwb : w.heap.size < w3.heap.size := blk_lt hP3.blk
        show (Code.region 19 _ true).wp Tryz.prog _ _ (w3.alloc (.cells (ar8 fun _ => 0) 24))
        generalize w3.heap.size = b at *
        generalize w3.alloc (.cells (ar8 fun _ => 0) 24) = WA at *
        have hbl := blk_lt hk4
        have HP4 := Lib.hid hP4
        have HK4 := Lib.hid hk4
        clear hP4 hk4 hP3
        go_region_held3 (fun w' => True) (trivial)
          (first
            | (go_at_call 35
               refine (HW1.out _ (HG.out.keep (bdn HP4.out.all 1))).mono ?_
               rintro e w5 ⟨A1, k1, rfl, hc1, hb5⟩)
            | (revert hb5
               intro hb5
               refine step_copy_splice (by rfl) (.tmp 55) (.tmp 57) 81 81 (by rfl) 22 Tryz.underlying81 (by kernel_rfl) (some ⟨b, 0, none⟩) A1 8 8 F.length k1 (by rfl) (by rfl) b 0 (List.replicate 8 (Value.int .u16 0)) 24 (blk_below HK4.out ((bdn (Below.refl _ _) 1).trans hb5)) (F.map (Value.int .u16)) (by rw [List.length_map]; exact (Nat.min_eq_left (by omega)).symm) (fun hp => ⟨rfl, hc1 (by rw [List.length_map] at hp; exact hp)⟩) (by simp; omega) (by intro v hv; obtain ⟨x, _, rfl⟩ := List.mem_map.1 hv; rfl) w0.heap.size w0 (HP4.out.keep ((bdn (Below.refl _ _) 1).trans hb5)).below hle4 ?_
               intro w6 hg6 hB6))
        rename_i hHeld
        clear hHeld hc1 hb5
        have hP6 : PB w w0 w6 := ⟨hP.box, hB6, hP.start⟩
        clear hB6
        generalize hrow : splice (List.replicate 8 (Value.int .u16 0)) 0 (F.map (Value.int .u16)) = row1 at *
        have hr1 : row1.length = 8 := by rw [← hrow, length_splice _ _ _ (by simp; omega)]; simp
        have HROW1 := Lib.hid hrow
        have HR1 := Lib.hid hr1
        clear hrow hr1
        go_wp2_with fail
        refine (HW2.out _ (HG.out.keep hP6.all)).mono ?_
        rintro e w7 ⟨A2, k2, rfl, hc2, hb7⟩
        have hP7 := hP6.keep hb7
        have hk7 := blk_below hg6.out hb7
        have HC2 := Lib.hid hc2
        have HP7 := Lib.hid hP7
        have HK7 := Lib.hid hk7
        clear hc2 hb7 hg6 hP6 hP7 hk7
        have hB8 : B.length ≤ 8 := by omega
        have hB8' : (B.length : Int) ≤ 8 := by omega
        have hsl := slice8 b B.length hB8
        go_wp2_with (with_reducible refine wpList_copy_splice (o := ⟨some 66, _, _, _, _, _⟩) rfl (.tmp 64) (.tmp 65) 81 81 rfl 22 ?u ?sz (some ⟨b, off8 B.length, none⟩) A2 B.length B.length B.length k2 rfl rfl b (8 - B.length) row1 24 HK7.out (B.map (Value.int .u16)) ?hn ?hpos ?hfit ?h1 w0.heap.size w0 ?hb hle4 ?_)
        case u => exact Tryz.underlying81
        case sz => kernel_rfl
        case hn => rw [List.length_map]; exact (Nat.min_self _).symm
        case hpos =>
          intro hp
          rw [List.length_map] at hp
          exact ⟨by unfold off8; rw [if_neg (by omega)], HC2.out hp⟩
        case hfit => rw [List.length_map, HR1.out]; omega
        case h1 =>
          intro v hv
          obtain ⟨x, _, rfl⟩ := List.mem_map.1 hv
          rfl
        case hb => exact HP7.out.below
        intro w9 hg9 hB9
        have hP9 : PB w w0 w9 := ⟨hP.box, hB9, hP.start⟩
        obtain ⟨f, hf⟩ : ∃ f, f = outOf F B := ⟨_, rfl⟩
        have hk9 : w9.heap[b]? = some (.cells (ar8 f) 24 (0, 0)) := by rw [hg9.out, ← HROW1.out, rows_out hfit, hf, Array.toArray_toList]
        have hk9w := hP9.blk
        have HF := Lib.hid hf
        have hne9 : ¬ b = w.heap.size := by omega
        have hne9' : ¬ w.heap.size = b := by omega
        clear hsl hg9 hB9 HK7 HP7 hf
        have y0 : w9.cell? ⟨w.heap.size, 0, none⟩ = some (.int .u16 0) := (blk_cell hk9w 0).trans rfl
        have v0 : w9.frozen? ⟨w.heap.size, 0, none⟩ = false := blk_frozen hk9w 0
        have z0 : w9.cell? ⟨b, 0, none⟩ = some (.int .u16 (f 0)) := (blk_cell hk9 0).trans rfl
        have y1 : w9.cell? ⟨w.heap.size, 1, none⟩ = some (.int .u16 0) := (blk_cell hk9w 1).trans rfl
        have v1 : w9.frozen? ⟨w.heap.size, 1, none⟩ = false := blk_frozen hk9w 1
        have z1 : w9.cell? ⟨b, 1, none⟩ = some (.int .u16 (f 1)) := (blk_cell hk9 1).trans rfl
        have y2 : w9.cell? ⟨w.heap.size, 2, none⟩ = some (.int .u16 0) := (blk_cell hk9w 2).trans rfl
        have v2 : w9.frozen? ⟨w.heap.size, 2, none⟩ = false := blk_frozen hk9w 2
        have z2 : w9.cell? ⟨b, 2, none⟩ = some (.int .u16 (f 2)) := (blk_cell hk9 2).trans rfl
        have y3 : w9.cell? ⟨w.heap.size, 3, none⟩ = some (.int .u16 0) := (blk_cell hk9w 3).trans rfl
        have v3 : w9.frozen? ⟨w.heap.size, 3, none⟩ = false := blk_frozen hk9w 3
        have z3 : w9.cell? ⟨b, 3, none⟩ = some (.int .u16 (f 3)) := (blk_cell hk9 3).trans rfl
        have y4 : w9.cell? ⟨w.heap.size, 4, none⟩ = some (.int .u16 0) := (blk_cell hk9w 4).trans rfl
        have v4 : w9.frozen? ⟨w.heap.size, 4, none⟩ = false := blk_frozen hk9w 4
        have z4 : w9.cell? ⟨b, 4, none⟩ = some (.int .u16 (f 4)) := (blk_cell hk9 4).trans rfl
        have y5 : w9.cell? ⟨w.heap.size, 5, none⟩ = some (.int .u16 0) := (blk_cell hk9w 5).trans rfl
        have v5 : w9.frozen? ⟨w.heap.size, 5, none⟩ = false := blk_frozen hk9w 5
        have z5 : w9.cell? ⟨b, 5, none⟩ = some (.int .u16 (f 5)) := (blk_cell hk9 5).trans rfl
        have y6 : w9.cell? ⟨w.heap.size, 6, none⟩ = some (.int .u16 0) := (blk_cell hk9w 6).trans rfl
        have v6 : w9.frozen? ⟨w.heap.size, 6, none⟩ = false := blk_frozen hk9w 6
        have z6 : w9.cell? ⟨b, 6, none⟩ = some (.int .u16 (f 6)) := (blk_cell hk9 6).trans rfl
        have y7 : w9.cell? ⟨w.heap.size, 7, none⟩ = some (.int .u16 0) := (blk_cell hk9w 7).trans rfl
        have v7 : w9.frozen? ⟨w.heap.size, 7, none⟩ = false := blk_frozen hk9w 7
        have z7 : w9.cell? ⟨b, 7, none⟩ = some (.int .u16 (f 7)) := (blk_cell hk9 7).trans rfl
        go_wp2_with fail
        try simp only [Exit.inBlock, Exit.then]
        refine bodyPost_ret (results_cell3 rfl rfl (ld8a (blk_put8 hk9w f))) rfl ?_
        exact parsed_of HPV.out (fun j _ => by rw [HF.out]) (below_put8 hP9.all (Nat.le_refl _) _ _ _ _ _ _ _ _)
end Go.Proofs.YtcgdjnmfeibnoaaGreatDoor
/-! Builder -/
namespace Go.Proofs.YtcgdjnmfeibnoaaGreatDoor
open Go.RowKit
set_option linter.unusedVariables false
set_option linter.unusedSimpArgs false
theorem bld_size : (Tryz.prog.info? 116).map (·.size) = some 2 := by kernel_rfl
theorem bld_lies : liesAt Tryz.prog Tryz.prog.depth 116 (2 / Tryz.prog.cellsOf 116) 0 116 1 = true := by kernel_rfl
theorem byte_info : (Tryz.prog.info? 5).map (fun i => (i.zero, i.size, i.bytes)) = some (some (.int .u8 0), 1, 1) := by kernel_rfl
theorem bld_ne : (116 : Nat) ≠ 5 := by decide
/-- A builder of this program. -/
abbrev IsB (B b : Nat) (bs : List Value) (w : World) : Prop := Lib.IsBuilder 116 5 B b bs w
/-- .. that has been written to. -/
abbrev AtB (B b : Nat) (bs : List Value) (w : World) : Prop := Lib.BuilderAt 116 5 B b (.pointer (some ⟨b, 0, none⟩)) bs w
set_option maxHeartbeats 1000000 in
set_option maxRecDepth 100000 in
theorem copyCheck_old (b : Nat) (w : World) (h0 : w.cell? ⟨b, 0, none⟩ = some (.pointer (some ⟨b, 0, none⟩))) :
    Calls Tryz.prog 87 #[.pointer (some ⟨b, 0, none⟩)] w fun e w' => e = .returned (.tuple #[]) ∧ w = w' := by
  obtain ⟨j, hj, _⟩ := Option.map_eq_some_iff.1 bld_size
  go_enter Tryz.func87, Tryz.ntmps87
  go_wp2
  rw [Lib.run_neq_ptr_same w _ Tryz.underlying114 hj]
  go_wp2
  go_end0
  exact ⟨rfl, rfl⟩
set_option maxHeartbeats 1000000 in
set_option maxRecDepth 100000 in
theorem copyCheck_new (b : Nat) (w : World) (h0 : w.cell? ⟨b, 0, none⟩ = some (.pointer none)) (hsh : w.shape? b = some (116, 2)) (hfz : w.frozen? ⟨b, 0, none⟩ = false) :
    Calls Tryz.prog 87 #[.pointer (some ⟨b, 0, none⟩)] w fun e w' => e = .returned (.tuple #[]) ∧ w.setCell ⟨b, 0, none⟩ (.pointer (some ⟨b, 0, none⟩)) = w' := by
  obtain ⟨j, hj, hjs⟩ := Option.map_eq_some_iff.1 bld_size
  go_enter Tryz.func87, Tryz.ntmps87
  go_wp2
  rw [Lib.run_to_unsafe w ⟨b, 0, none⟩ Tryz.underlying114 Tryz.underlying153 hj (by rw [hjs]; decide) hsh (Nat.zero_lt_succ 1)]
  simp only [Result.andThen]
  rw [Oper.upon_value]
  go_wp2
  rw [run_callFunc_extern Tryz.func103 (by kernel_rfl) (by kernel_rfl) (by kernel_rfl) (e := Extern.AbiNoEscape.same) (by kernel_rfl)]
  rw [Lib.run_noEscape]
  simp only [Result.andThen]
  rw [Oper.upon_value]
  go_wp2
  rw [Lib.run_from_unsafe w ⟨b, 0, none⟩ Tryz.underlying153 Tryz.underlying114 hj hsh bld_lies]
  simp only [Result.andThen]
  rw [Oper.upon_value]
  go_wp2
  go_end0
  exact ⟨rfl, rfl⟩
theorem copyCheck_walk (B b : Nat) (bs : List Value) (w : World) (h : IsB B b bs w) :
    Calls Tryz.prog 87 #[.pointer (some ⟨b, 0, none⟩)] w fun e w' => e = .returned (.tuple #[]) ∧ AtB B b bs w' ∧ Below B w w' := by
  rcases h with h | h
  · exact (copyCheck_new b w h.cell0 h.shape h.frozen0).mono fun e w' ⟨he, hw⟩ => ⟨he, hw ▸ h.used _, hw ▸ (Below.refl B w).setCell (p := ⟨b, 0, none⟩) h.1 _⟩
  · exact (copyCheck_old b w h.cell0).mono fun e w' ⟨he, hw⟩ => ⟨he, hw ▸ h, hw ▸ Below.refl B w⟩
/-- What a used builder's block gives a walk. -/
theorem atB_open {B b : Nat} {bs : List Value} {w : World} (h : AtB B b bs w) : ∃ v, B ≤ b ∧ b < w.heap.size ∧ w.heap[b]? = some (.cells #[.pointer (some ⟨b, 0, none⟩), v] 116 (0, 0)) ∧ w.ownsRow B 5 1 v bs.length bs ∧ v.ownBlock ≠ some b ∧
    w.cell? ⟨b, 0, none⟩ = some (.pointer (some ⟨b, 0, none⟩)) ∧ w.cell? ⟨b, 1, none⟩ = some v ∧ w.frozen? ⟨b, 1, none⟩ = false := by
  have hlt := h.lt
  obtain ⟨hB, v, hbk, hown, hne⟩ := h
  exact ⟨v, hB, hlt, hbk, hown, hne, by rw [Lib.cell_of_heap hbk]; rfl, by rw [Lib.cell_of_heap hbk]; rfl, Lib.frozen_of_heap hbk 1⟩
set_option maxHeartbeats 2000000 in
set_option maxRecDepth 100000 in
theorem writeByte_walk (B b : Nat) (bs : List Value) (c : Int) (w : World) (h : IsB B b bs w) (hlen : bs.length + 1 ≤ 140737488355328) (hBw : B ≤ w.heap.size) :
    Calls Tryz.prog 67 #[.pointer (some ⟨b, 0, none⟩), .int .u8 c] w fun e w' => e = .returned .nilIface ∧ AtB B b (bs ++ [.int .u8 c]) w' ∧ Below B w w' := by
  obtain ⟨i0, hi, hz0, hz1, hz2⟩ := info_parts byte_info
  go_enter Tryz.func67, Tryz.ntmps67
  go_wp2_with fail
  refine (copyCheck_walk B b bs _ h).mono ?_
  rintro e w1 ⟨rfl, h1, hb1⟩
  obtain ⟨v, hB, hlt, hbk, hown, hne, c0, c1, f1⟩ := atB_open h1
  have hs1 := hb1.size
  go_wp2_with (at_builtin; refine wpList_append_own _ rfl _ _ 103 rfl B 5 i0 (.int .u8 0) 1 1 Tryz.underlying103 hi hz0 hz1 hz2 rfl (by decide) _ _ _ rfl (hown.alloc _) ⟨w1.heap.size, 0, none⟩ 1 1 [.int .u8 c] rfl rfl ?c1 ?c2 ?c3 ?c4 ?c5 ?_)
  case c1 =>
    intro j u hj
    match j, hj with
    | 0, hj => simp at hj; subst hj; simp [Addr.add]
  case c2 => intro u hu; simp at hu; subst hu; rfl
  case c3 => unfold maxLen; omega
  case c4 => omega
  case c5 => simp; omega
  intro v' w2 hown' hgrow _
  have hb2 : w2.heap[b]? = some (.cells #[.pointer (some ⟨b, 0, none⟩), v] 116 (0, 0)) := by
    rw [hgrow.block b (by simp; omega) (fun e => hne e.symm), Lib.alloc_old w1 _ b hlt]
    exact hbk
  have d1 : w2.cell? ⟨b, 1, none⟩ = some v := by rw [Lib.cell_of_heap hb2]; rfl
  have f2 : w2.frozen? ⟨b, 1, none⟩ = false := Lib.frozen_of_heap hb2 1
  obtain ⟨g, cap, rfl⟩ : ∃ g cap, v' = .slice (some ⟨g, 0, none⟩) (bs.length + 1) cap := by
    rcases hown'.2 with ⟨_, h0⟩ | ⟨g, cap, cur, hv, _⟩
    · omega
    · exact ⟨g, cap, hv⟩
  go_wp2
  go_ret
  refine ⟨rfl, ?_, ?_⟩
  · exact Lib.BuilderAt.put hB hb2 (bs' := bs ++ [.int .u8 c]) (by simpa using hown') bld_ne
  · exact ((hb1.alloc (by omega) _).grown hgrow (by simp; omega) (fun k hk => (hown.lt k hk).1)).setCell (p := ⟨b, 1, none⟩) hB _
set_option maxHeartbeats 2000000 in
set_option maxRecDepth 100000 in
theorem writeString_walk (B b : Nat) (bs : List Value) (s : ByteArray) (w : World) (h : IsB B b bs w) (hlen : bs.length + s.size ≤ 140737488355328) (hBw : B ≤ w.heap.size) :
    Calls Tryz.prog 66 #[.pointer (some ⟨b, 0, none⟩), .string s] w fun e w' => e = .returned (.tuple #[.int .i64 s.size, .nilIface]) ∧ AtB B b (bs ++ Lib.strCells s) w' ∧ Below B w w' := by
  obtain ⟨i0, hi, hz0, hz1, hz2⟩ := info_parts byte_info
  go_enter Tryz.func66, Tryz.ntmps66
  go_wp2_with fail
  refine (copyCheck_walk B b bs _ h).mono ?_
  rintro e w1 ⟨rfl, h1, hb1⟩
  obtain ⟨v, hB, hlt, hbk, hown, hne, c0, c1, f1⟩ := atB_open h1
  have hs1 := hb1.size
  go_wp2_with (at_builtin; refine Lib.wpList_append_own_string _ rfl _ _ 103 9 rfl B 5 i0 Tryz.underlying103 Tryz.underlying9 hi hz0 hz1 hz2 _ _ _ rfl hown s rfl ?c3 ?c4 ?c5 ?_)
  case c3 => unfold maxLen; omega
  case c4 => omega
  case c5 => omega
  intro v' w2 hown' hgrow _
  have hb2 : w2.heap[b]? = some (.cells #[.pointer (some ⟨b, 0, none⟩), v] 116 (0, 0)) := by
    rw [hgrow.block b hlt (fun e => hne e.symm)]
    exact hbk
  have d1 : w2.cell? ⟨b, 1, none⟩ = some v := by rw [Lib.cell_of_heap hb2]; rfl
  have f2 : w2.frozen? ⟨b, 1, none⟩ = false := Lib.frozen_of_heap hb2 1
  obtain ⟨ao, n', cap, rfl⟩ : ∃ ao n' cap, v' = .slice ao n' cap := by
    rcases hown'.2 with ⟨hv, _⟩ | ⟨g, cap, cur, hv, _⟩
    · exact ⟨_, _, _, hv⟩
    · exact ⟨_, _, _, hv⟩
  go_wp2
  go_ret2
  refine ⟨rfl, ?_, ?_⟩
  · exact Lib.BuilderAt.put hB hb2 (bs' := bs ++ Lib.strCells s) (by simpa [Lib.strCells_length] using hown') bld_ne
  · exact (hb1.grown hgrow (by omega) (fun k hk => (hown.lt k hk).1)).setCell (p := ⟨b, 1, none⟩) hB _
set_option maxHeartbeats 2000000 in
set_option maxRecDepth 100000 in
/-- What a builder that holds a byte at least tells. -/
theorem builderString_walk (B b : Nat) (l : List UInt8) (w : World) (h : IsB B b (Lib.byteCells l) w) (h0 : l ≠ []) :
    Calls Tryz.prog 69 #[.pointer (some ⟨b, 0, none⟩)] w fun e w' => e = .returned (.string ⟨l.toArray⟩) ∧ Below B w w' := by
  obtain ⟨p, hB, v, hbk, hown, hne⟩ : ∃ p, Lib.BuilderAt 116 5 B b p (Lib.byteCells l) w := by
    rcases h with h | h
    · exact ⟨_, h⟩
    · exact ⟨_, h⟩
  have c1 : w.cell? ⟨b, 1, none⟩ = some v := by rw [Lib.cell_of_heap hbk]; rfl
  have hl0 : l.length ≠ 0 := by simpa using h0
  rw [Lib.byteCells_length] at hown
  obtain ⟨g, cap, cur, rfl, hbg, hg, hnc, hcm, hcs, htake⟩ : ∃ g cap cur, v = .slice (some ⟨g, 0, none⟩) l.length cap ∧ B ≤ g ∧ w.heap[g]? = some (.cells cur 5 (0, 0)) ∧ l.length ≤ cap ∧ cap ≤ maxLen ∧ cur.size = cap * 1 ∧ cur.toList.take (l.length * 1) = Lib.byteCells l := by
    rcases hown.2 with ⟨_, hz⟩ | ⟨g, cap, cur, hv, r⟩
    · exact absurd hz hl0
    · exact ⟨g, cap, cur, hv, r⟩
  have hSD : (Builtin.unsafeSliceData_ #[103] 140 #[.slice (some ⟨g, 0, none⟩) l.length cap]).run Tryz.prog w.drew = .ok (.pointer (some ⟨g, 0, none⟩)) w.drew :=
    Lib.run_unsafeSliceData_row _ _ _ _ _ _ (by omega)
  have hUS : (Builtin.unsafeString_ #[140, 3] 9 #[.pointer (some ⟨g, 0, none⟩), .int .i64 l.length]).run Tryz.prog w.drew = .ok (.string ⟨l.toArray⟩) (w.drew.freeze ⟨g, 0, none⟩ l.length) := by
    refine Lib.run_unsafeString_row w.drew 140 3 9 5 Tryz.underlying140 (by kernel_rfl) g cur.size (by have hg' : w.drew.heap[g]? = some (.cells cur 5 (0, 0)) := hg; simp [World.shape?, hg']) l h0 (by omega) (by unfold maxLen at hcm; omega) ?_
    intro j x hx
    exact hown.cells (g := g) rfl j (.int .u8 x.toNat) (by simp [Lib.byteCells, hx])
  go_enter Tryz.func69, Tryz.ntmps69
  go_wp2
  go_region
  all_goals (go_wp2; go_ret; exact ⟨rfl, Lib.below_freeze (Below.drew (Below.refl B w)) (p := ⟨g, 0, none⟩) hbg _⟩)
end Go.Proofs.YtcgdjnmfeibnoaaGreatDoor
/-! Hex -/
namespace Go.Proofs.YtcgdjnmfeibnoaaGreatDoor
open Go.RowKit
set_option linter.unusedVariables false
set_option linter.unusedSimpArgs false
/-- A digit's letter. -/
def digB (d : Nat) : UInt8 := if d < 10 then (48 + d).toUInt8 else (87 + d).toUInt8
/-- The digits of a number to the base 16, the lowest first. -/
def revHex (n : Nat) : List UInt8 := digB (n % 16) :: (if n / 16 = 0 then [] else revHex (n / 16))
  termination_by n
  decreasing_by omega
theorem revHex_last {n : Nat} (h : n / 16 = 0) : revHex n = [digB (n % 16)] := by rw [revHex, if_pos h]
theorem revHex_more {n : Nat} (h : n / 16 ≠ 0) : revHex n = digB (n % 16) :: revHex (n / 16) := by rw [revHex, if_neg h]
set_option maxRecDepth 100000 in
theorem digit_at (m : Nat) (w : World) : (Instr.index 9 (.string ⟨#[48, 49, 50, 51, 52, 53, 54, 55, 56, 57, 97, 98, 99, 100, 101, 102, 103, 104, 105, 106, 107, 108, 109, 110, 111, 112, 113, 114, 115, 116, 117, 118, 119, 120, 121, 122]⟩) (.int .u64 ((m : Int) % 16))).run Tryz.prog w = .ok (.int .u8 (digB (m % 16)).toNat) w := by
  have h : ∃ d : Nat, d < 16 ∧ m % 16 = d := ⟨m % 16, by omega, rfl⟩
  obtain ⟨d, hd, he⟩ := h
  rw [show ((m : Int) % 16) = (d : Int) from by omega, he]
  have hc : d = 0 ∨ d = 1 ∨ d = 2 ∨ d = 3 ∨ d = 4 ∨ d = 5 ∨ d = 6 ∨ d = 7 ∨ d = 8 ∨ d = 9 ∨ d = 10 ∨ d = 11 ∨ d = 12 ∨ d = 13 ∨ d = 14 ∨ d = 15 := by omega
  rcases hc with rfl | rfl | rfl | rfl | rfl | rfl | rfl | rfl | rfl | rfl | rfl | rfl | rfl | rfl | rfl | rfl
  all_goals (change _ = _; kernel_rfl)
/-- What stands when k of the digits have been laid, from the other end. -/
def RevRel (base g cap g2 L : Nat) (all : List UInt8) (w : World) (i : Value) (W : World) : Prop :=
  ∃ k : Nat, k ≤ L ∧ i = .int .i64 k ∧ W.ownsRow base 5 1 (.slice (some ⟨g, 0, none⟩) L cap) L (Lib.byteCells all) ∧
    W.ownsRow base 5 1 (.slice (some ⟨g2, 0, none⟩) L L) L (List.replicate (L - k) (.int .u8 0) ++ Lib.byteCells (all.take k).reverse) ∧ Below w.heap.size w W
theorem rev_step {base g cap g2 n k : Nat} {all : List UInt8} {x : UInt8} {w W : World} (hx : all[k]? = some x) (hlen : n + 1 = all.length) (hk : k < n + 1)
    (hA : W.ownsRow base 5 1 (.slice (some ⟨g, 0, none⟩) (n + 1) cap) (n + 1) (Lib.byteCells all))
    (hO : W.ownsRow base 5 1 (.slice (some ⟨g2, 0, none⟩) (n + 1) (n + 1)) (n + 1) (List.replicate (n + 1 - k) (.int .u8 0) ++ Lib.byteCells (all.take k).reverse)) (hb : Below w.heap.size w W) (hne : g ≠ g2) (hbase : w.heap.size ≤ base) :
    RevRel base g cap g2 (n + 1) all w (.int .i64 ((k : Int) + 1)) (W.setCell ⟨g2, n - k, none⟩ (.int .u8 x.toNat)) := by
  obtain ⟨h1, h2⟩ := hO.stored (n - k) (.int .u8 x.toNat)
  have hg2 : base ≤ g2 := (hO.lt g2 (by simp [Value.ownBlock])).1
  refine ⟨k + 1, by omega, by simp, hA.kept h2 (by simp [Value.ownBlock, hne]), ?_, hb.setCell (p := ⟨g2, n - k, none⟩) (by simpa using Nat.le_trans hbase hg2) _⟩
  have e : (List.replicate (n + 1 - k) (Value.int .u8 0) ++ Lib.byteCells (all.take k).reverse).set (n - k) (.int .u8 x.toNat) = List.replicate (n + 1 - (k + 1)) (.int .u8 0) ++ Lib.byteCells (all.take (k + 1)).reverse := by
    have e1 : n + 1 - k = (n - k) + 1 := by omega
    have e2 : all.take (k + 1) = all.take k ++ [x] := by rw [List.take_add_one, hx]; rfl
    rw [e1, List.replicate_succ', List.append_assoc, List.set_append_right _ _ (by simp), e2]
    simp [Lib.byteCells]
  rw [e] at h1
  exact h1
theorem rev_cell {base g2 n : Nat} {all : List UInt8} {W : World} (hlen : n + 1 = all.length)
    (hO : W.ownsRow base 5 1 (.slice (some ⟨g2, 0, none⟩) (n + 1) (n + 1)) (n + 1) (List.replicate (n + 1 - (n + 1)) (.int .u8 0) ++ Lib.byteCells (all.take (n + 1)).reverse)) (i : Nat) (hi : i < n + 1) :
    W.cell? ⟨g2, i, none⟩ = some (.int .u8 ((all.reverse.map fun b => (b.toNat : Int)).getD i 0)) := by
  rw [hO.cellAt i (by omega)]
  rw [hlen, List.take_length, Nat.sub_self, List.replicate_zero, List.nil_append]
  have hi' : i < all.reverse.length := by simp; omega
  rw [Lib.byteCells, List.getElem?_map, List.getElem?_eq_getElem hi', List.getD_eq_getElem?_getD, List.getElem?_map, List.getElem?_eq_getElem hi']
  rfl
theorem strOfNums_bytes (l : List UInt8) : strOfNums (l.map fun b => (b.toNat : Int)) = ⟨l.toArray⟩ := by
  unfold strOfNums
  rw [List.map_map]
  have : ((fun n : Int => UInt8.ofNat n.toNat) ∘ fun b : UInt8 => (b.toNat : Int)) = id := by
    funext b
    simp
  rw [this, List.map_id]
set_option maxHeartbeats 2000000 in
set_option maxRecDepth 100000 in
theorem print16_walk (N : Nat) (hN : N < 18446744073709551616) (w : World) :
    Calls Tryz.prog 88 #[.int .u64 N, .int .i64 16] w fun e w' => e = .returned (.tuple #[.string ⟨(revHex N).reverse.toArray⟩, .int .i64 0]) ∧ Below w.heap.size w w' := by
  obtain ⟨i0, hi, hz0, hz1, hz2⟩ := info_parts byte_info
  go_enter Tryz.func88, Tryz.ntmps88
  go_wp2
  go_loopw [0, 6] (fun n v wr => ∃ (m : Nat) (done : List UInt8), n = .int .u64 m ∧ m ≤ N ∧ revHex N = done ++ revHex m ∧ wr.ownsRow w.heap.size 5 1 v done.length (Lib.byteCells done) ∧ Below w.heap.size w wr ∧ 2 ^ done.length * m ≤ N ∧ (m = 0 → done = []))
    (fun n _ _ => (intOf n).toNat)
  case atStart => exact ⟨N, [], rfl, Nat.le_refl _, rfl, World.ownsRow_nil _ _ _ _, Below.refl _ _, by simp, fun _ => rfl⟩
  case round =>
    obtain ⟨m, done, rfl, hm, hd, hown, hb, hp, hz⟩ := hrel
    have hs := hb.size
    have hix := digit_at m
    have hl : done.length ≤ 64 := by
      rcases Nat.lt_or_ge 64 done.length with h | h
      · exfalso
        have h0 : m ≠ 0 := fun e => by rw [hz e] at h; simp at h
        have h1 := Nat.pow_le_pow_right (n := 2) (by omega) (show 65 ≤ done.length from h)
        have h2 := Nat.le_mul_of_pos_right (2 ^ done.length) (Nat.pos_of_ne_zero h0)
        have h3 : (2 : Nat) ^ 65 = 36893488147419103232 := by decide
        omega
      · exact h
    have hbl : (Lib.byteCells done).length = done.length := Lib.byteCells_length done
    clear hbl
    go_wp2_with (at_builtin; refine app_one rfl _ _ 103 rfl w.heap.size 5 i0 (.int .u8 0) 1 1 Tryz.underlying103 hi hz0 hz1 hz2 rfl (by decide) _ _ _ rfl hown [.int .u8 (digB (m % 16)).toNat] rfl rfl (by simp [Value.oneCell']) (by unfold maxLen; omega) (by omega) (by omega) ?_; intro g cap w2 hg hown' hgrow hbel)
    · clear hgrow hix
      have hb2 := hbel _ _ (Nat.le_refl _) hb
      have hs2 := hb2.size
      obtain ⟨w3, hmk, hown3, hgr3⟩ := run_make_full w2 w.heap.size 103 5 i0 (.int .u8 0) 1 Tryz.underlying103 hi hz0 hz1 .i64 .i64 (done.length + 1) (by rw [hz2]; omega) (by unfold maxLen; omega) hs2
      rw [show ((done.length + 1 : Nat) : Int) = (done.length : Int) + 1 from by omega] at hmk
      have hb3 : Below w.heap.size w w3 := hb2.grown hgr3 hs2 (fun k hk => by simp at hk)
      have hown3' := hown'.kept hgr3 (by simp [Value.ownBlock])
      have hall : revHex N = done ++ [digB (m % 16)] := by rw [hd, revHex_last (by simp at *; omega)]
      have hne : g ≠ w2.heap.size := by have := (hown'.lt g (by simp [Value.ownBlock])).2; omega
      obtain ⟨all, hal⟩ : ∃ all, all = done ++ [digB (m % 16)] := ⟨_, rfl⟩
      have hlen : done.length + 1 = all.length := by rw [hal]; simp
      have hback : w3.ownsRow w.heap.size 5 1 (.slice (some ⟨g, 0, none⟩) (done.length + 1) cap) (done.length + 1) (Lib.byteCells all) := by
        rw [hal]; simpa [Lib.byteCells] using hown3'
      have hout : w3.ownsRow w.heap.size 5 1 (.slice (some ⟨w2.heap.size, 0, none⟩) (done.length + 1) (done.length + 1)) (done.length + 1) (List.replicate (done.length + 1) (.int .u8 0)) := by
        have h := hown3
        rw [show (Value.int .u8 0).cells = #[.int .u8 0] from rfl, Nat.mul_one, toList_madeCells_one] at h
        exact h
      rw [← hal] at hall
      clear hown3 hown3' hown' hown hd hz hp hb hbel hb2 hgr3
      have HMK := Lib.hid hall
      have HAL := Lib.hid hal
      have HLEN := Lib.hid hlen
      clear hall hal hlen
      go_simp
      go_wp2_with fail
      go_loopw [35] (fun i W => RevRel w.heap.size g cap w2.heap.size (done.length + 1) all w i W) (fun i _ => done.length + 1 - (intOf i).toNat)
      case atStart => exact ⟨0, Nat.zero_le _, rfl, hback, by simpa [Lib.byteCells] using hout, hb3⟩
      case round =>
        clear hback hout hb3 hmk
        obtain ⟨k, hk, rfl, hA, hO, hb4⟩ := hrel
        by_cases hlt : k < done.length + 1
        · obtain ⟨x, hx⟩ : ∃ x, all[k]? = some x := ⟨all[k]'(by have := HLEN.out; omega), List.getElem?_eq_getElem _⟩
          have hc : wr.cell? ⟨g, k, none⟩ = some (.int .u8 x.toNat) := by
            rw [hA.cellAt k (by omega)]; simp [Lib.byteCells, hx]
          have ho : wr.cell? ⟨w2.heap.size, done.length - k, none⟩ = some (.int .u8 0) := by
            rw [hO.cellAt _ (by omega), List.getElem?_append_left (by simp; omega)]
            rw [List.getElem?_replicate, if_pos (by omega)]
          have hf := hO.frozenAt (done.length - k)
          have HX := Lib.hid hx
          clear hx
          go_wp2
          exact ⟨rev_step HX.out HLEN.out hlt hA hO hb4 hne (Nat.le_refl _), by simp [intOf]; omega⟩
        · obtain rfl : k = done.length + 1 := by omega
          have hcv := run_convert_bytes_arg (P := Tryz.prog) wr 103 5 Tryz.underlying103 Tryz.underlying5 w2.heap.size 0 (done.length + 1) (done.length + 1) (all.reverse.map fun b => (b.toNat : Int)) (by simp [HLEN.out])
            (fun i hi => by rw [Nat.zero_add]; exact rev_cell HLEN.out hO i hi) 9 Tryz.underlying9
          rw [strOfNums_bytes] at hcv
          clear hlt
          go_wp2
          go_returns
          exact ⟨by rw [HMK.out]; rfl, hb4⟩
    · have h16 : ¬ (m / 16 = 0) := by simp at *; omega
      have hmm := revHex_more h16
      refine ⟨⟨m / 16, done ++ [digB (m % 16)], rfl, by omega, by rw [hd, hmm]; simp, by simpa [Lib.byteCells] using hown', hbel _ _ (Nat.le_refl _) hb, ?_, fun h => absurd h h16⟩, by simp [intOf]; omega⟩
      rw [List.length_append, List.length_singleton, Nat.pow_succ, Nat.mul_assoc]
      exact Nat.le_trans (Nat.mul_le_mul_left _ (by omega)) hp
end Go.Proofs.YtcgdjnmfeibnoaaGreatDoor
/-! SixRun -/
namespace Go.Proofs.YtcgdjnmfeibnoaaGreatDoor
open Go.RowKit
set_option linter.unusedVariables false
set_option linter.unusedSimpArgs false
/-- A piece's text. -/
def hexL (p : Nat) : List UInt8 := (revHex p).reverse
set_option maxHeartbeats 1000000 in
set_option maxRecDepth 100000 in
theorem hex_walk (p : Nat) (hp : p ≤ 65535) (w : World) :
    Calls Tryz.prog 68 #[.int .u16 p] w fun e w' => e = .returned (.string ⟨(hexL p).toArray⟩) ∧ Below w.heap.size w w' := by
  go_enter Tryz.func68, Tryz.ntmps68
  go_wp2_with fail
  refine (print16_walk p (by omega) _).mono ?_
  rintro e w1 ⟨rfl, hb⟩
  go_wp2_with fail
  go_returns
  exact ⟨rfl, hb⟩
/-- The loop of run: what is left of the pieces, the place, what was found. -/
def runGo : List Nat → Int → Int → Int → Int → Int × Int
  | [], _, at_, most, _ => (at_, most)
  | p :: r, i, at_, most, from_ => if p = 0 then (if most < i + 1 - from_ then runGo r (i + 1) from_ (i + 1 - from_) from_ else runGo r (i + 1) at_ most from_) else runGo r (i + 1) at_ most (i + 1)
/-- The run of pieces: its place and length; -1 and 0. -/
def runL (xs : List Nat) : Int × Int := if (runGo xs 0 (-1) 1 0).1 < 0 then (-1, 0) else runGo xs 0 (-1) 1 0
/-- What stands at the head of a round of run. -/
def RunRel (xs : List Nat) (a m f i : Value) : Prop :=
  ∃ (k : Nat) (at_ most from_ : Int), k ≤ xs.length ∧ i = .int .i64 k ∧ a = .int .i64 at_ ∧ m = .int .i64 most ∧ f = .int .i64 from_ ∧
    runGo xs 0 (-1) 1 0 = runGo (xs.drop k) k at_ most from_ ∧ -1 ≤ at_ ∧ at_ ≤ k ∧ 1 ≤ most ∧ most ≤ k + 1 ∧ 0 ≤ from_ ∧ from_ ≤ k
theorem run_meas {n k : Nat} (h : k < n) : n - (intOf (.int .i64 ((k : Int) + 1))).toNat < n - (intOf (.int .i64 (k : Int))).toNat := by simp [intOf]; omega
theorem run_step0 {xs : List Nat} {k : Nat} {at_ most from_ : Int} (hk : k < xs.length) (hr : runGo xs 0 (-1) 1 0 = runGo (xs.drop k) k at_ most from_)
    (b : -1 ≤ at_ ∧ at_ ≤ k ∧ 1 ≤ most ∧ most ≤ k + 1 ∧ 0 ≤ from_ ∧ from_ ≤ k) (h0 : (((xs[k]'hk : Nat) : Int) != 0) = false) (h : (k : Int) + 1 - from_ ≤ most) :
    RunRel xs (.int .i64 at_) (.int .i64 most) (.int .i64 from_) (.int .i64 ((k : Int) + 1)) := by
  refine ⟨k + 1, at_, most, from_, hk, rfl, rfl, rfl, rfl, ?_, by omega, by omega, by omega, by omega, by omega, by omega⟩
  rw [hr, List.drop_eq_getElem_cons hk, runGo, if_pos (by simp at h0; omega), if_neg (by omega)]
  rfl
theorem run_step1 {xs : List Nat} {k : Nat} {at_ most from_ : Int} (hk : k < xs.length) (hr : runGo xs 0 (-1) 1 0 = runGo (xs.drop k) k at_ most from_)
    (b : -1 ≤ at_ ∧ at_ ≤ k ∧ 1 ≤ most ∧ most ≤ k + 1 ∧ 0 ≤ from_ ∧ from_ ≤ k) (h0 : (((xs[k]'hk : Nat) : Int) != 0) = false) (h : most < (k : Int) + 1 - from_) :
    RunRel xs (.int .i64 from_) (.int .i64 ((k : Int) + 1 - from_)) (.int .i64 from_) (.int .i64 ((k : Int) + 1)) := by
  refine ⟨k + 1, from_, (k : Int) + 1 - from_, from_, hk, rfl, rfl, rfl, rfl, ?_, by omega, by omega, by omega, by omega, by omega, by omega⟩
  rw [hr, List.drop_eq_getElem_cons hk, runGo, if_pos (by simp at h0; omega), if_pos h]
  rfl
theorem run_step2 {xs : List Nat} {k : Nat} {at_ most from_ : Int} (hk : k < xs.length) (hr : runGo xs 0 (-1) 1 0 = runGo (xs.drop k) k at_ most from_)
    (b : -1 ≤ at_ ∧ at_ ≤ k ∧ 1 ≤ most ∧ most ≤ k + 1 ∧ 0 ≤ from_ ∧ from_ ≤ k) (h0 : (((xs[k]'hk : Nat) : Int) != 0) = true) :
    RunRel xs (.int .i64 at_) (.int .i64 most) (.int .i64 ((k : Int) + 1)) (.int .i64 ((k : Int) + 1)) := by
  refine ⟨k + 1, at_, most, (k : Int) + 1, hk, rfl, rfl, rfl, rfl, ?_, by omega, by omega, by omega, by omega, by omega, by omega⟩
  rw [hr, List.drop_eq_getElem_cons hk, runGo, if_neg (by simp at h0; omega)]
  rfl
theorem runL_neg {xs : List Nat} {at_ most from_ : Int} (hr : runGo xs 0 (-1) 1 0 = runGo (xs.drop xs.length) xs.length at_ most from_) (h : at_ < 0) : runL xs = (-1, 0) := by
  rw [List.drop_length, runGo] at hr
  unfold runL
  rw [hr, if_pos h]
theorem runL_pos {xs : List Nat} {at_ most from_ : Int} (hr : runGo xs 0 (-1) 1 0 = runGo (xs.drop xs.length) xs.length at_ most from_) (h : ¬ at_ < 0) : runL xs = (at_, most) := by
  rw [List.drop_length, runGo] at hr
  unfold runL
  rw [hr, if_neg h]
set_option maxHeartbeats 1000000 in
set_option maxRecDepth 100000 in
theorem run_walk (xs : List Nat) (b c : Nat) (w : World) (hl : xs.length ≤ 8) (hc : ∀ j, j < xs.length → w.cell? ⟨b, j, none⟩ = some (.int .u16 (xs.getD j 0))) :
    Calls Tryz.prog 65 #[.slice (some ⟨b, 0, none⟩) xs.length c] w fun e w' => e = .returned (.tuple #[.int .i64 (runL xs).1, .int .i64 (runL xs).2]) ∧ w = w' := by
  go_enter Tryz.func65, Tryz.ntmps65
  go_wp2
  go_loop [4, 5, 6, 12] (RunRel xs) (fun _ _ _ i => xs.length - (intOf i).toNat)
  case atStart => exact ⟨0, -1, 1, 0, Nat.zero_le _, rfl, rfl, rfl, rfl, rfl, by omega, by omega, by omega, by omega, by omega, by omega⟩
  case round =>
    obtain ⟨k, at_, most, from_, hk, rfl, rfl, rfl, rfl, hrun, b1, b2, b3, b4, b5, b6⟩ := hrel
    by_cases hlt : k < xs.length
    · have hck := hc k hlt
      have HR := Lib.hid hrun
      clear hrun hc
      go_wp2
      all_goals refine ⟨?_, run_meas hlt⟩
      all_goals first
        | exact run_step0 hlt HR.out ⟨b1, b2, b3, b4, b5, b6⟩ ‹_› ‹_›
        | exact run_step1 hlt HR.out ⟨b1, b2, b3, b4, b5, b6⟩ ‹_› ‹_›
        | exact run_step2 hlt HR.out ⟨b1, b2, b3, b4, b5, b6⟩ ‹_›
    · obtain rfl : k = xs.length := by omega
      have HR := Lib.hid hrun
      clear hrun hc hlt
      by_cases hneg : at_ < 0
      · go_wp2
        go_returns
        rw [runL_neg HR.out hneg]
        exact ⟨rfl, rfl⟩
      · go_wp2
        go_returns
        rw [runL_pos HR.out (by omega)]
        exact ⟨rfl, rfl⟩
end Go.Proofs.YtcgdjnmfeibnoaaGreatDoor
/-! SixText -/
namespace Go.Proofs.YtcgdjnmfeibnoaaGreatDoor
open Go.RowKit
set_option linter.unusedVariables false
set_option linter.unusedSimpArgs false
theorem revHex_len (n : Nat) : (revHex n).length ≤ n + 1 := by
  induction n using Nat.strongRecOn with
  | ind n ih =>
    by_cases h : n / 16 = 0
    · rw [revHex_last h]; simp
    · rw [revHex_more h, List.length_cons]
      have := ih (n / 16) (by omega)
      omega
theorem hexL_len (n : Nat) : (hexL n).length ≤ n + 1 := by unfold hexL; rw [List.length_reverse]; exact revHex_len n
/-- What a piece writes. -/
def textAt (at_ n i : Int) (p : Nat) : List UInt8 :=
  if i = at_ then [58, 58] else if 0 ≤ at_ ∧ at_ < i ∧ i < at_ + n then [] else (if 0 < i ∧ i ≠ at_ + n then [58] else []) ++ hexL p
/-- What pieces write from one on. -/
def textGo (at_ n : Int) : Int → List Nat → List UInt8
  | _, [] => []
  | i, p :: r => textAt at_ n i p ++ textGo at_ n (i + 1) r
/-- The text of pieces. -/
def textL (xs : List Nat) : List UInt8 := textGo (runL xs).1 (runL xs).2 0 xs
theorem runGo_bounds : ∀ (xs : List Nat) (i at_ most from_ : Int), 0 ≤ i → -1 ≤ at_ → at_ ≤ i → 1 ≤ most → most ≤ i + 1 → 0 ≤ from_ → from_ ≤ i →
    -1 ≤ (runGo xs i at_ most from_).1 ∧ (runGo xs i at_ most from_).1 ≤ i + xs.length ∧ 1 ≤ (runGo xs i at_ most from_).2 ∧ (runGo xs i at_ most from_).2 ≤ i + xs.length + 1
  | [], i, at_, most, from_, h0, h1, h2, h3, h4, h5, h6 => by simp only [runGo, List.length_nil]; omega
  | p :: r, i, at_, most, from_, h0, h1, h2, h3, h4, h5, h6 => by
    rw [runGo, List.length_cons]
    split
    · split
      · have := runGo_bounds r (i + 1) from_ (i + 1 - from_) from_ (by omega) (by omega) (by omega) (by omega) (by omega) (by omega) (by omega)
        omega
      · have := runGo_bounds r (i + 1) at_ most from_ (by omega) (by omega) (by omega) (by omega) (by omega) (by omega) (by omega)
        omega
    · have := runGo_bounds r (i + 1) at_ most (i + 1) (by omega) (by omega) (by omega) (by omega) (by omega) (by omega) (by omega)
      omega
theorem runL_bounds (xs : List Nat) : -1 ≤ (runL xs).1 ∧ (runL xs).1 ≤ xs.length ∧ 0 ≤ (runL xs).2 ∧ (runL xs).2 ≤ xs.length + 1 := by
  have := runGo_bounds xs 0 (-1) 1 0 (by omega) (by omega) (by omega) (by omega) (by omega) (by omega) (by omega)
  unfold runL
  split
  · simp; omega
  · omega
theorem hexL_ne (n : Nat) : hexL n ≠ [] := by
  unfold hexL
  rw [revHex]
  simp
theorem textL_ne {xs : List Nat} (h : xs ≠ []) : textL xs ≠ [] := by
  cases xs with
  | nil => exact absurd rfl h
  | cons p r =>
    unfold textL
    rw [textGo, textAt]
    split
    · simp
    · split
      · rename_i h1; exact absurd h1 (by omega)
      · have := hexL_ne p
        simp [this]
/-- A builder stays where all stays that was there. -/
theorem isB_keep {B b : Nat} {bs : List Value} {w W : World} (h : IsB B b bs w) (hb : Below w.heap.size w W) : IsB B b bs W := by
  have key : ∀ p, Lib.BuilderAt 116 5 B b p bs w → Lib.BuilderAt 116 5 B b p bs W := by
    intro p hp
    have hlt := hp.lt
    obtain ⟨hB, v, hbk, hown, hne⟩ := hp
    exact ⟨hB, v, by rw [hb.block b hlt]; exact hbk, hown.kept (row := none) ⟨hb.os, hb.tape, hb.output, hb.size, fun i hi _ => hb.block i hi⟩ (by cases v.ownBlock <;> simp), hne⟩
  rcases h with h | h
  · exact .inl (key _ h)
  · exact .inr (key _ h)
/-- What stands at the head of a round of text. -/
def TextRel (xs : List Nat) (at_ n : Int) (w : World) (i : Value) (W : World) : Prop :=
  ∃ (k : Nat) (done : List UInt8), k ≤ xs.length ∧ i = .int .i64 k ∧ textL xs = done ++ textGo at_ n k (xs.drop k) ∧ IsB w.heap.size w.heap.size (Lib.byteCells done) W ∧ Below w.heap.size w W ∧ done.length ≤ k * 70000
theorem text_step {xs : List Nat} {at_ n : Int} {k : Nat} {w W : World} {done new : List UInt8} (hk : k < xs.length) (ht : textL xs = done ++ textGo at_ n k (xs.drop k)) (hn : textAt at_ n k xs[k] = new)
    (hB : IsB w.heap.size w.heap.size (Lib.byteCells (done ++ new)) W) (hb : Below w.heap.size w W) (hl : done.length ≤ k * 70000) (hnl : new.length ≤ 70000) :
    TextRel xs at_ n w (.int .i64 ((k : Int) + 1)) W := by
  refine ⟨k + 1, done ++ new, hk, rfl, ?_, hB, hb, by rw [List.length_append]; omega⟩
  rw [ht, List.drop_eq_getElem_cons hk, textGo, hn, List.append_assoc]
  rfl
set_option maxHeartbeats 2000000 in
set_option maxRecDepth 100000 in
theorem text_walk (xs : List Nat) (b c : Nat) (w : World) (hl : xs.length ≤ 8) (h0 : xs ≠ []) (hb : b < w.heap.size) (hp : ∀ x ∈ xs, x ≤ 65535) (hc : ∀ j, j < xs.length → w.cell? ⟨b, j, none⟩ = some (.int .u16 (xs.getD j 0))) :
    Calls Tryz.prog 42 #[.slice (some ⟨b, 0, none⟩) xs.length c] w fun e w' => e = .returned (.string ⟨(textL xs).toArray⟩) ∧ Below w.heap.size w w' := by
  obtain ⟨r1, r2, r3, r4⟩ := runL_bounds xs
  have HT : Hid (textL xs = textGo (runL xs).1 (runL xs).2 0 xs) := Lib.hid rfl
  have HC := Lib.hid hc
  go_enter Tryz.func42, Tryz.ntmps42
  go_wp2_with fail
  refine (run_walk xs b c _ hl hc).mono ?_
  rintro e w1 ⟨rfl, rfl⟩
  generalize (runL xs).1 = at_ at *
  generalize (runL xs).2 = n at *
  clear hc
  go_wp2_with fail
  go_loopw [14] (fun i W => TextRel xs at_ n w i W) (fun i _ => xs.length - (intOf i).toNat)
  case atStart => exact ⟨0, [], Nat.zero_le _, rfl, HT.out, Lib.fresh_isBuilder _ _ _, (Below.refl _ _).alloc (Nat.le_refl _) _, by simp⟩
  case round =>
    obtain ⟨k, done, hk, rfl, ht, hB, hbl, hdl⟩ := hrel
    by_cases hlt : k < xs.length
    · have hpk := hp _ (List.getElem_mem hlt)
      have hwl : w.heap.size ≤ wr.heap.size := hbl.size
      have hcw : wr.cell? ⟨b, k, none⟩ = some (.int .u16 xs[k]) := by
        rw [hbl.cell (p := ⟨b, k, none⟩) hb, HC.out k hlt, List.getD_eq_getElem?_getD, List.getElem?_eq_getElem hlt]; rfl
      have HTT := Lib.hid ht
      have hbc : (Lib.byteCells done).length ≤ 560000 := by rw [Lib.byteCells_length]; omega
      have hhl := hexL_len xs[k]
      generalize hx : xs[k] = x at *
      have HX := Lib.hid hx
      clear ht hx
      by_cases c1 : (k : Int) = at_
      · subst c1
        go_wp2_with fail
        refine (writeString_walk w.heap.size w.heap.size (Lib.byteCells done) ⟨#[58, 58]⟩ _ hB (by simp [ByteArray.size]; omega) hwl).mono ?_
        rintro e w1 ⟨rfl, hA, hb1⟩
        go_wp2_with fail
        refine ⟨text_step hlt HTT.out (new := [58, 58]) (by rw [textAt, if_pos rfl]) (.inr (by rw [Lib.byteCells_append]; exact hA)) (hbl.trans hb1) hdl (by simp), run_meas hlt⟩
      · have e1 : ((k : Int) == at_) = false := beq_eq_false_iff_ne.2 c1
        by_cases c2 : 0 ≤ at_ ∧ at_ < k ∧ (k : Int) < at_ + n
        · obtain ⟨d1, d2, d3⟩ := c2
          go_wp2_with fail
          refine ⟨text_step hlt HTT.out (new := []) (by rw [textAt, if_neg c1, if_pos ⟨d1, d2, d3⟩]) (by simpa using hB) hbl hdl (by simp), run_meas hlt⟩
        · have hN : textAt at_ n k xs[k] = (if 0 < (k : Int) ∧ (k : Int) ≠ at_ + n then [58] else []) ++ hexL x := by rw [textAt, if_neg c1, if_neg c2, HX.out]
          have HN := Lib.hid hN
          clear hN
          have hd : at_ < 0 ∨ (0 ≤ at_ ∧ (k : Int) < at_) ∨ (0 ≤ at_ ∧ at_ < k ∧ at_ + n ≤ k) := by omega
          by_cases c3 : 0 < (k : Int) ∧ (k : Int) ≠ at_ + n
          · obtain ⟨c4, c5⟩ := c3
            have e2 : ((k : Int) != at_ + n) = true := by rw [bne_iff_ne]; exact c5
            clear c2
            rcases hd with d | ⟨d0, d⟩ | ⟨d0, d2, d⟩
            all_goals
              go_wp2_with fail
              refine (writeByte_walk w.heap.size w.heap.size (Lib.byteCells done) 58 _ hB (by omega) hwl).mono ?_
              rintro e w1 ⟨rfl, hA, hb1⟩
              have hcw1 : w1.cell? ⟨b, k, none⟩ = some (.int .u16 x) := by rw [hb1.cell (p := ⟨b, k, none⟩) hb]; exact hcw
              go_wp2_with fail
              refine (hex_walk x hpk _).mono ?_
              rintro e w2 ⟨rfl, hb2⟩
              have hA2 := isB_keep (.inr hA) hb2
              have hs1 := hb1.size
              have hs2 := hb2.size
              go_wp2_with fail
              refine (writeString_walk w.heap.size w.heap.size _ _ _ hA2 (by simp [ByteArray.size]; omega) (by omega)).mono ?_
              rintro e w3 ⟨rfl, hA3, hb3⟩
              go_wp2_with fail
              refine ⟨text_step hlt HTT.out (new := [58] ++ hexL x) (by rw [HN.out, if_pos ⟨c4, c5⟩]) (.inr (by simpa [Lib.byteCells, Lib.strCells] using hA3)) (((hbl.trans hb1).trans (hb2.mono (by omega))).trans hb3) hdl (by simp; omega), run_meas hlt⟩
          · have hd2 : (k : Int) ≤ 0 ∨ (0 < (k : Int) ∧ (k : Int) = at_ + n) := by omega
            rcases hd2 with d4 | ⟨d4, d5⟩
            · rcases hd with d | ⟨d0, d⟩ | ⟨d0, d2, d⟩
              all_goals
                first
                  | (exfalso; omega)
                  | (go_wp2_with fail
                     refine (hex_walk x hpk _).mono ?_
                     rintro e w2 ⟨rfl, hb2⟩
                     have hA2 := isB_keep hB hb2
                     have hs2 := hb2.size
                     go_wp2_with fail
                     refine (writeString_walk w.heap.size w.heap.size _ _ _ hA2 (by simp [ByteArray.size]; omega) (by omega)).mono ?_
                     rintro e w3 ⟨rfl, hA3, hb3⟩
                     go_wp2_with fail
                     refine ⟨text_step hlt HTT.out (new := hexL x) (by rw [HN.out, if_neg c3]; rfl) (.inr (by simpa [Lib.byteCells, Lib.strCells] using hA3)) ((hbl.trans (hb2.mono (by omega))).trans hb3) hdl (by omega), run_meas hlt⟩)
            · have e2 : ((k : Int) != at_ + n) = false := by rw [bne_eq_false_iff_eq]; exact d5
              clear d5
              rcases hd with d | ⟨d0, d⟩ | ⟨d0, d2, d⟩
              all_goals
                first
                  | (exfalso; omega)
                  | (go_wp2_with fail
                     refine (hex_walk x hpk _).mono ?_
                     rintro e w2 ⟨rfl, hb2⟩
                     have hA2 := isB_keep hB hb2
                     have hs2 := hb2.size
                     go_wp2_with fail
                     refine (writeString_walk w.heap.size w.heap.size _ _ _ hA2 (by simp [ByteArray.size]; omega) (by omega)).mono ?_
                     rintro e w3 ⟨rfl, hA3, hb3⟩
                     go_wp2_with fail
                     refine ⟨text_step hlt HTT.out (new := hexL x) (by rw [HN.out, if_neg c3]; rfl) (.inr (by simpa [Lib.byteCells, Lib.strCells] using hA3)) ((hbl.trans (hb2.mono (by omega))).trans hb3) hdl (by omega), run_meas hlt⟩)
    · obtain rfl : k = xs.length := by omega
      rw [List.drop_length, textGo, List.append_nil] at ht
      have hne : done ≠ [] := by
        intro h
        rw [h] at ht
        exact textL_ne h0 ht
      have HTT := Lib.hid ht
      clear ht hlt
      go_wp2_with fail
      refine (builderString_walk w.heap.size w.heap.size done _ hB hne).mono ?_
      rintro e w1 ⟨rfl, hb1⟩
      go_wp2_with fail
      go_returns
      exact ⟨by rw [HTT.out]; rfl, hbl.trans hb1⟩
end Go.Proofs.YtcgdjnmfeibnoaaGreatDoor
/-! SixPrint -/
namespace Go.Proofs.YtcgdjnmfeibnoaaGreatDoor
open Go.RowKit
set_option linter.unusedVariables false
set_option linter.unusedSimpArgs false
/-- The text of an address. -/
def printL (x0 x1 x2 x3 x4 x5 x6 x7 : Int) : List UInt8 := textL [x0.toNat, x1.toNat, x2.toNat, x3.toNat, x4.toNat, x5.toNat, x6.toNat, x7.toNat]
set_option maxHeartbeats 2000000 in
set_option maxRecDepth 100000 in
theorem print_walk (x0 x1 x2 x3 x4 x5 x6 x7 : Int) (h : R8 x0 x1 x2 x3 x4 x5 x6 x7) (w : World) :
    Calls Tryz.prog 22 #[A8 x0 x1 x2 x3 x4 x5 x6 x7] w fun e w' => e = .returned (.string ⟨(printL x0 x1 x2 x3 x4 x5 x6 x7).toArray⟩) ∧ Below w.heap.size w w' := by
  obtain ⟨⟨a0, b0⟩, ⟨a1, b1⟩, ⟨a2, b2⟩, ⟨a3, b3⟩, ⟨a4, b4⟩, ⟨a5, b5⟩, ⟨a6, b6⟩, ⟨a7, b7⟩⟩ := h
  obtain ⟨n0, rfl⟩ := Int.eq_ofNat_of_zero_le a0
  obtain ⟨n1, rfl⟩ := Int.eq_ofNat_of_zero_le a1
  obtain ⟨n2, rfl⟩ := Int.eq_ofNat_of_zero_le a2
  obtain ⟨n3, rfl⟩ := Int.eq_ofNat_of_zero_le a3
  obtain ⟨n4, rfl⟩ := Int.eq_ofNat_of_zero_le a4
  obtain ⟨n5, rfl⟩ := Int.eq_ofNat_of_zero_le a5
  obtain ⟨n6, rfl⟩ := Int.eq_ofNat_of_zero_le a6
  obtain ⟨n7, rfl⟩ := Int.eq_ofNat_of_zero_le a7
  have hT := text_walk [n0, n1, n2, n3, n4, n5, n6, n7] w.heap.size 8 (w.alloc (.cells #[.int .u16 n0, .int .u16 n1, .int .u16 n2, .int .u16 n3, .int .u16 n4, .int .u16 n5, .int .u16 n6, .int .u16 n7] 24))
    (by simp) (by simp) (by simp) (by
      intro x hx
      simp only [List.mem_cons, List.not_mem_nil, or_false] at hx
      omega)
    (by
      intro j hj
      have hb : (w.alloc (.cells #[.int .u16 n0, .int .u16 n1, .int .u16 n2, .int .u16 n3, .int .u16 n4, .int .u16 n5, .int .u16 n6, .int .u16 n7] 24)).heap[w.heap.size]? = some (.cells #[.int .u16 n0, .int .u16 n1, .int .u16 n2, .int .u16 n3, .int .u16 n4, .int .u16 n5, .int .u16 n6, .int .u16 n7] 24 (0, 0)) := heap_alloc_new w _
      rw [Lib.cell_of_heap hb]
      match j, hj with
      | 0, _ => rfl
      | 1, _ => rfl
      | 2, _ => rfl
      | 3, _ => rfl
      | 4, _ => rfl
      | 5, _ => rfl
      | 6, _ => rfl
      | 7, _ => rfl
      | j + 8, hj => exact absurd hj (by simp))
  have HT := Lib.hid hT
  clear hT
  go_enter Tryz.func22, Tryz.ntmps22
  go_wp2_with fail
  refine (HT.out).mono ?_
  rintro e w1 ⟨rfl, hb⟩
  go_wp2_with fail
  go_returns
  exact ⟨rfl, ((Below.refl _ _).alloc (Nat.le_refl _) _).trans (hb.mono (by simp))⟩
theorem revHex_one : revHex 1 = [49] := by rw [revHex_last (by decide)]; rfl
theorem text_one : textL [0, 0, 0, 0, 0, 0, 0, 1] = [58, 58, 49] := by
  unfold textL
  rw [show runL [0, 0, 0, 0, 0, 0, 0, 1] = (0, 7) from by decide]
  simp [textGo, textAt, hexL, revHex_one]
set_option maxHeartbeats 1000000 in
set_option maxRecDepth 100000 in
theorem awake_walk (w : World) : Calls Tryz.prog 9 #[] w fun e w' => e = .returned (.bool true) ∧ Below w.heap.size w w' := by
  go_enter Tryz.func9, Tryz.ntmps9
  go_wp2_with fail
  refine (print_walk 0 0 0 0 0 0 0 1 ⟨by decide, by decide, by decide, by decide, by decide, by decide, by decide, by decide⟩ _).mono ?_
  rintro e w1 ⟨rfl, hb⟩
  rw [show printL 0 0 0 0 0 0 0 1 = [58, 58, 49] from text_one]
  go_wp2_with fail
  go_returns
  exact ⟨rfl, hb⟩
end Go.Proofs.YtcgdjnmfeibnoaaGreatDoor
/-! SixEq -/
namespace Go.Proofs.YtcgdjnmfeibnoaaGreatDoor
open Go.RowKit
set_option linter.unusedVariables false
set_option linter.unusedSimpArgs false
@[go_sem] theorem eq8_flat (x0 x1 x2 x3 x4 x5 x6 x7 y0 y1 y2 y3 y4 y5 y6 y7 : Int) (w : World) :
    (Op.equalIn 10000 23 (A8 x0 x1 x2 x3 x4 x5 x6 x7) (A8 y0 y1 y2 y3 y4 y5 y6 y7)).run Tryz.prog w = .ok (x0 == y0 && (x1 == y1 && (x2 == y2 && (x3 == y3 && (x4 == y4 && (x5 == y5 && (x6 == y6 && x7 == y7))))))) w := by
  obtain ⟨i, hi, _⟩ := info_parts (show (Tryz.prog.info? 22).map (fun i => (i.zero, i.size, i.bytes)) = some (some (.int .u16 0), 1, 2) by kernel_rfl)
  exact run_eq8 Tryz.underlying23 hi Tryz.underlying22 (by kernel_rfl) ..
end Go.Proofs.YtcgdjnmfeibnoaaGreatDoor
/-! SixParses -/
namespace Go.Proofs.YtcgdjnmfeibnoaaGreatDoor
open Go.RowKit Go.Proofs.YtcgdjnmfeibnoaaGreatDoorW.PrintWords
set_option linter.unusedVariables false
set_option linter.unusedSimpArgs false
/-- Both Parse answer the same. -/
theorem parsed_at {s : ByteArray} {w : World} {f : Nat → Int} {a b : Int} (hp : parseR s.data.toList = (f, a, b)) {e : Ending} {w' : World} (h : RefParsed s w e w') :
    e = .returned (.tuple #[.agg #[.int .u16 (f 0), .int .u16 (f 1), .int .u16 (f 2), .int .u16 (f 3), .int .u16 (f 4), .int .u16 (f 5), .int .u16 (f 6), .int .u16 (f 7)], .int .i64 a, .int .i64 b]) ∧ Below w.heap.size w w' := by
  obtain ⟨g, rfl, hg, hb⟩ := h
  rw [hp] at hg ⊢
  refine ⟨?_, hb⟩
  rw [ar8_ext hg]
  rfl
end Go.Proofs.YtcgdjnmfeibnoaaGreatDoor
/-! SixIs -/
namespace Go.Proofs.YtcgdjnmfeibnoaaGreatDoor
open Go.RowKit
set_option linter.unusedVariables false
set_option linter.unusedSimpArgs false
set_option maxHeartbeats 1000000 in
set_option maxRecDepth 100000 in
theorem is_walk (x0 x1 x2 x3 x4 x5 x6 x7 : Int) (h : R8 x0 x1 x2 x3 x4 x5 x6 x7) (n : Int) (w : World) :
    Calls Tryz.prog 20 #[P9 x0 x1 x2 x3 x4 x5 x6 x7 n] w fun e w' => e = .returned (.bool (isPre (V8 x0 x1 x2 x3 x4 x5 x6 x7) n)) ∧ Below w.heap.size w w' := by
  go_enter Tryz.func20, Tryz.ntmps20
  go_wp2_with fail
  refine (mask_all _ _ _ _ _ _ _ _ h n _).mono ?_
  rintro e w1 ⟨y0, y1, y2, y3, y4, y5, y6, y7, rfl, hy, hv, hb1⟩
  have B1 : Below w.heap.size w w1 := chain (by go_grown) hb1
  obtain ⟨hc1, _, hs1⟩ := after hb1
  simp only [World.size_alloc] at hs1
  have l0 : w.heap.size < w1.heap.size := by omega
  have HV := Lib.hid hv
  clear hv hs1
  by_cases hn : 0 ≤ n ∧ n ≤ 128
  · rw [show maskE n = 0 from if_pos hn]
    go_wp2_with fail
    go_returns
    rw [eq8_dec hy h, HV.out, maskV, if_pos hn]
    refine ⟨ret_bool ?_, B1.alloc B1.size _⟩
    unfold isPre
    rw [decide_eq_decide]
    omega
  · rw [show maskE n = 211 from if_neg hn]
    go_wp2_with fail
    go_returns
    refine ⟨ret_bool ?_, B1.alloc B1.size _⟩
    rw [show isPre (V8 x0 x1 x2 x3 x4 x5 x6 x7) n = false from decide_eq_false (by omega)]
end Go.Proofs.YtcgdjnmfeibnoaaGreatDoor
