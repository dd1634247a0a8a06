/- Several texts in one (wip/gen/pack.py): SixNext2 SixAny SixRow SixCut SixWr SixStOk SixShort SixParse Builder Hex SixV SixRun SixText SixPrint SixEq SixParses Itoa Dec SixFourP SixPath SixRunV SixBackV SixOneV SixFull X3 SixMixed SixBack SixDotV Frame SixOpen SixBackAll SixBackCard. -/
import Derived.IntWalk
import Derived.Test.YtcgdjnmfeibnoaaDoorPSB0
import Derived.Shelf.SlicesQ.IndexFunc
import Derived.Deep.AppendLies
import Derived.Laws.AppendOwnNone
import Derived.Lib.SlBy
import Derived.Lib.IndexMore
import Derived.Deep.RegionHeld3
import Derived.Laws.CopyOwn
import Derived.Laws.BitsLemmas
import Derived.Laws.Externs
import Derived.Laws.IdiomCopy
import Derived.Lib.AppendStr
import Derived.Lib.Builder
import Derived.Lib.Slices
import Derived.Lib.Strings
import Derived.Lib.UnsafeStr
import Derived.Lib.Walk
import Derived.Deep.LoopGhost
import Derived.Laws.MakeOwn
import Derived.Laws.OwnMore
import Derived.Lib.ConvBytes
import Derived.Lib.Hide
import Derived.BigQuiet
import Derived.ChangeKeysEq
import Derived.Deep.QuietTactic
import Derived.Handy
import Derived.ProofKit
import Derived.WalkKit
import Derived.WalkLawsBesides
import Derived.WalkSpells
import Derived.Lib.ItoaNum
import Derived.Lib.Join
import Derived.Outline
import Derived.OpenShut
import Derived.ChangeMaps5
import Derived.Deep.DeepHandedRow
import Derived.LaidSub
import Derived.Lib.LaidTab
import Derived.Test.YtcgdjnmfeibnoaaDoorCards
import Derived.Test.YtcgdjnmfeibnoaaDoorTie
/-! SixNext2 -/
namespace Go.Proofs.YtcgdjnmfeibnoaaDoor
open Go.RowKit Go.Proofs.YtcgdjnmfeibnoaaDoorW.PrintWords Go.Proofs.YtcgdjnmfeibnoaaDoor.X
set_option linter.unusedVariables false
set_option linter.unusedSimpArgs false
theorem row_lit' {w W : World} {m : Nat} (x : St) (hm : m = W.heap.size) (hb : Below w.heap.size w W) : StRow w [x] (.returned (.slice (some ⟨m, 0, none⟩) 1 1)) (W.alloc (.cells #[.int .i64 x.wh, .int .i64 x.pc, .bool x.gap, .int .i64 x.dg, .int .i64 x.nu, .int .i64 x.va] 80)) := by
  subst hm
  exact row_lit x hb
theorem row_drew {w W : World} {l : List St} {e : Ending} (h : StRow w l e W) : StRow w l e W.drew := by
  obtain ⟨v, he, ho, hb⟩ := h
  exact ⟨v, he, ho.drew, ⟨hb.os, hb.tape, hb.output, hb.size, hb.block⟩⟩
theorem own_base {B B' : Nat} {W : World} {e : TypeId} {size : Nat} {v : Value} {n : Nat} {xs : List Value} (h : W.ownsRow B' e size v n xs) (hl : B ≤ B') : W.ownsRow B e size v n xs :=
  ⟨h.1, h.2.imp id (fun ⟨g, cap, cur, hv, hg, r⟩ => ⟨g, cap, cur, hv, Nat.le_trans hl hg, r⟩)⟩
set_option maxHeartbeats 2000000 in
set_option maxRecDepth 100000 in
theorem next_0c (p : Int) (g : Bool) (d n v : Int) (c : Int) (h0 : 0 ≤ c) (h1 : c < 256) (hc : c = 58) (w : World) :
    Calls Tryd.prog 42 #[.agg #[.int .i64 0, .int .i64 p, .bool g, .int .i64 d, .int .i64 n, .int .i64 v], .int .u8 c] w (StRow w [⟨1, p, g, d, n, v⟩]) := by
  go_enter Tryd.func42, Tryd.ntmps42
  subst hc
  go_wp2_with fail
  go_returns
  refine row_lit' ⟨1, p, g, d, n, v⟩ ?_ ?_
  · first | rfl | simp
  · go_grown
set_option maxHeartbeats 2000000 in
set_option maxRecDepth 100000 in
theorem next_0 (p : Int) (g : Bool) (d n v : Int) (c : Int) (h0 : 0 ≤ c) (h1 : c < 256) (hc : (c == 58) = false) (w : World) :
    Calls Tryd.prog 42 #[.agg #[.int .i64 0, .int .i64 p, .bool g, .int .i64 d, .int .i64 n, .int .i64 v], .int .u8 c] w (StRow w (beginP ⟨0, p, g, d, n, v⟩ c)) := by
  go_enter Tryd.func42, Tryd.ntmps42
  go_wp2_with fail
  refine (begin_walk ⟨0, p, g, d, n, v⟩ c h0 h1 _).mono ?_
  rintro e w1 ⟨z, rfl, ho, hb1⟩
  go_wp2_with fail
  go_returns
  exact ⟨_, rfl, own_base ho (by simp only [World.size_alloc]; omega), chain0 (by go_grown) hb1⟩
set_option maxHeartbeats 2000000 in
set_option maxRecDepth 100000 in
theorem next_1c (p : Int) (g : Bool) (d n v : Int) (c : Int) (h0 : 0 ≤ c) (h1 : c < 256) (hc : c = 58) (w : World) :
    Calls Tryd.prog 42 #[.agg #[.int .i64 1, .int .i64 p, .bool g, .int .i64 d, .int .i64 n, .int .i64 v], .int .u8 c] w (StRow w [⟨3, p, true, d, n, v⟩]) := by
  go_enter Tryd.func42, Tryd.ntmps42
  subst hc
  go_wp2_with fail
  go_returns
  refine row_lit' ⟨3, p, true, d, n, v⟩ ?_ ?_
  · first | rfl | simp
  · go_grown
set_option maxHeartbeats 2000000 in
set_option maxRecDepth 100000 in
theorem next_1 (p : Int) (g : Bool) (d n v : Int) (c : Int) (h0 : 0 ≤ c) (h1 : c < 256) (hc : (c == 58) = false) (w : World) :
    Calls Tryd.prog 42 #[.agg #[.int .i64 1, .int .i64 p, .bool g, .int .i64 d, .int .i64 n, .int .i64 v], .int .u8 c] w (StRow w []) := by
  go_enter Tryd.func42, Tryd.ntmps42
  go_wp2_with fail
  go_quiet (fail)
  go_wp2_with fail
  go_returns
  refine row_nil ?_
  exact bdn (by go_grown) _
set_option maxHeartbeats 2000000 in
set_option maxRecDepth 100000 in
theorem next_2c (p d n v : Int) (c : Int) (h0 : 0 ≤ c) (h1 : c < 256) (hc : c = 58) (w : World) :
    Calls Tryd.prog 42 #[.agg #[.int .i64 2, .int .i64 p, .bool false, .int .i64 d, .int .i64 n, .int .i64 v], .int .u8 c] w (StRow w [⟨3, p, true, d, n, v⟩]) := by
  go_enter Tryd.func42, Tryd.ntmps42
  subst hc
  go_wp2_with fail
  go_returns
  refine row_lit' ⟨3, p, true, d, n, v⟩ ?_ ?_
  · first | rfl | simp
  · go_grown
set_option maxHeartbeats 2000000 in
set_option maxRecDepth 100000 in
theorem next_2g (p d n v : Int) (c : Int) (h0 : 0 ≤ c) (h1 : c < 256) (w : World) :
    Calls Tryd.prog 42 #[.agg #[.int .i64 2, .int .i64 p, .bool true, .int .i64 d, .int .i64 n, .int .i64 v], .int .u8 c] w (StRow w (beginP ⟨2, p, true, d, n, v⟩ c)) := by
  go_enter Tryd.func42, Tryd.ntmps42
  go_wp2_with fail
  refine (begin_walk ⟨2, p, true, d, n, v⟩ c h0 h1 _).mono ?_
  rintro e w1 ⟨z, rfl, ho, hb1⟩
  go_wp2_with fail
  go_returns
  exact ⟨_, rfl, own_base ho (by simp only [World.size_alloc]; omega), chain0 (by go_grown) hb1⟩
set_option maxHeartbeats 2000000 in
set_option maxRecDepth 100000 in
theorem next_2 (p : Int) (g : Bool) (d n v : Int) (c : Int) (h0 : 0 ≤ c) (h1 : c < 256) (hc : (c == 58) = false) (w : World) :
    Calls Tryd.prog 42 #[.agg #[.int .i64 2, .int .i64 p, .bool g, .int .i64 d, .int .i64 n, .int .i64 v], .int .u8 c] w (StRow w (beginP ⟨2, p, g, d, n, v⟩ c)) := by
  go_enter Tryd.func42, Tryd.ntmps42
  cases g
  all_goals
    go_wp2_with fail
    refine (begin_walk ⟨2, p, _, d, n, v⟩ c h0 h1 _).mono ?_
    rintro e w1 ⟨z, rfl, ho, hb1⟩
    go_wp2_with fail
    go_returns
    exact ⟨_, rfl, own_base ho (by simp only [World.size_alloc]; omega), chain0 (by go_grown) hb1⟩
set_option maxHeartbeats 2000000 in
set_option maxRecDepth 100000 in
theorem next_3 (p : Int) (g : Bool) (d n v : Int) (c : Int) (h0 : 0 ≤ c) (h1 : c < 256) (w : World) :
    Calls Tryd.prog 42 #[.agg #[.int .i64 3, .int .i64 p, .bool g, .int .i64 d, .int .i64 n, .int .i64 v], .int .u8 c] w (StRow w (beginP ⟨3, p, g, d, n, v⟩ c)) := by
  go_enter Tryd.func42, Tryd.ntmps42
  go_wp2_with fail
  refine (begin_walk ⟨3, p, g, d, n, v⟩ c h0 h1 _).mono ?_
  rintro e w1 ⟨z, rfl, ho, hb1⟩
  go_wp2_with fail
  go_returns
  exact ⟨_, rfl, own_base ho (by simp only [World.size_alloc]; omega), chain0 (by go_grown) hb1⟩
set_option maxHeartbeats 2000000 in
set_option maxRecDepth 100000 in
theorem next_4c (p : Int) (g : Bool) (d n v : Int) (c : Int) (h0 : 0 ≤ c) (h1 : c < 256) (p0 : 0 ≤ p) (p1 : p ≤ 100) (hm : moreP ⟨2, p + 1, g, d, n, v⟩ = true) (hc : c = 58) (w : World) :
    Calls Tryd.prog 42 #[.agg #[.int .i64 4, .int .i64 p, .bool g, .int .i64 d, .int .i64 n, .int .i64 v], .int .u8 c] w (StRow w [⟨2, p + 1, g, d, n, v⟩]) := by
  go_enter Tryd.func42, Tryd.ntmps42
  subst hc
  go_upto_region 11 with fail
  go_region
  go_wp2_with fail
  refine (stMore_walk _ _ _ _ _ _ _).mono ?_
  rintro e w1 ⟨rfl, hb1⟩
  rw [hm]
  have B1 : Below w.heap.size w w1 := chain0 (by go_grown) hb1
  obtain ⟨hc1, hf1, hs1⟩ := after hb1
  try simp at hs1
  have l0 : w.heap.size < w1.heap.size := by omega
  have l1 : w.heap.size + 1 < w1.heap.size := by omega
  clear hb1 hs1
  go_wp2_with fail
  go_returns
  exact row_lit' ⟨2, p + 1, g, d, n, v⟩ rfl B1
set_option maxHeartbeats 2000000 in
set_option maxRecDepth 100000 in
theorem next_4cn (p : Int) (g : Bool) (d n v : Int) (c : Int) (h0 : 0 ≤ c) (h1 : c < 256) (p0 : 0 ≤ p) (p1 : p ≤ 100) (hm : moreP ⟨2, p + 1, g, d, n, v⟩ = false) (hc : c = 58) (w : World) :
    Calls Tryd.prog 42 #[.agg #[.int .i64 4, .int .i64 p, .bool g, .int .i64 d, .int .i64 n, .int .i64 v], .int .u8 c] w (StRow w []) := by
  go_enter Tryd.func42, Tryd.ntmps42
  subst hc
  go_upto_region 11 with fail
  go_region
  go_wp2_with fail
  refine (stMore_walk _ _ _ _ _ _ _).mono ?_
  rintro e w1 ⟨rfl, hb1⟩
  rw [hm]
  have B1 : Below w.heap.size w w1 := chain0 (by go_grown) hb1
  obtain ⟨hc1, hf1, hs1⟩ := after hb1
  try simp at hs1
  have l0 : w.heap.size < w1.heap.size := by omega
  have l1 : w.heap.size + 1 < w1.heap.size := by omega
  clear hb1 hs1
  go_wp2_with fail
  go_returns
  exact row_nil B1
set_option maxHeartbeats 2000000 in
set_option maxRecDepth 100000 in
theorem next_4d (p : Int) (g : Bool) (d n v : Int) (c : Int) (h0 : 0 ≤ c) (h1 : c < 256) (d0 : 0 ≤ d) (d1 : d < 4) (hd : decide (0 ≤ digV c 16) = true) (hc : (c == 58) = false) (w : World) :
    Calls Tryd.prog 42 #[.agg #[.int .i64 4, .int .i64 p, .bool g, .int .i64 d, .int .i64 n, .int .i64 v], .int .u8 c] w (StRow w [⟨4, p, g, d + 1, n, v⟩]) := by
  go_enter Tryd.func42, Tryd.ntmps42
  go_wp2_with fail
  refine (digit_walk c 16 h0 h1 _).mono ?_
  rintro e w0 ⟨rfl, rfl⟩
  go_wp2_with fail
  go_returns
  refine row_lit' ⟨4, p, g, d + 1, n, v⟩ ?_ ?_
  · first | rfl | simp
  · go_grown
set_option maxHeartbeats 2000000 in
set_option maxRecDepth 100000 in
theorem next_4n (p : Int) (g : Bool) (d n v : Int) (c : Int) (h0 : 0 ≤ c) (h1 : c < 256) (d1 : 4 ≤ d) (hd : decide (0 ≤ digV c 16) = true) (hc : (c == 58) = false) (w : World) :
    Calls Tryd.prog 42 #[.agg #[.int .i64 4, .int .i64 p, .bool g, .int .i64 d, .int .i64 n, .int .i64 v], .int .u8 c] w (StRow w []) := by
  go_enter Tryd.func42, Tryd.ntmps42
  go_wp2_with fail
  refine (digit_walk c 16 h0 h1 _).mono ?_
  rintro e w0 ⟨rfl, rfl⟩
  go_wp2_with fail
  go_quiet (fail)
  go_wp2_with fail
  go_returns
  refine row_nil ?_
  exact bdn (by go_grown) _
set_option maxHeartbeats 2000000 in
set_option maxRecDepth 100000 in
theorem next_4z (p : Int) (g : Bool) (d n v : Int) (c : Int) (h0 : 0 ≤ c) (h1 : c < 256) (hd : decide (0 ≤ digV c 16) = false) (hc : (c == 58) = false) (w : World) :
    Calls Tryd.prog 42 #[.agg #[.int .i64 4, .int .i64 p, .bool g, .int .i64 d, .int .i64 n, .int .i64 v], .int .u8 c] w (StRow w []) := by
  go_enter Tryd.func42, Tryd.ntmps42
  go_wp2_with fail
  refine (digit_walk c 16 h0 h1 _).mono ?_
  rintro e w0 ⟨rfl, rfl⟩
  go_wp2_with fail
  go_quiet (fail)
  go_wp2_with fail
  go_returns
  refine row_nil ?_
  exact bdn (by go_grown) _
set_option maxHeartbeats 2000000 in
set_option maxRecDepth 100000 in
theorem next_5s (p : Int) (g : Bool) (d n v : Int) (c : Int) (h0 : 0 ≤ c) (h1 : c < 256) (n0 : 0 ≤ n) (n1 : n < 3) (hc : c = 46) (w : World) :
    Calls Tryd.prog 42 #[.agg #[.int .i64 5, .int .i64 p, .bool g, .int .i64 d, .int .i64 n, .int .i64 v], .int .u8 c] w (StRow w [⟨6, p, g, d, n + 1, v⟩]) := by
  go_enter Tryd.func42, Tryd.ntmps42
  subst hc
  go_upto_region 18 with fail
  go_region
  go_wp2_with fail
  go_returns
  refine row_drew ?_
  refine row_lit' ⟨6, p, g, d, n + 1, v⟩ ?_ ?_
  · first | rfl | simp
  · go_grown
set_option maxHeartbeats 2000000 in
set_option maxRecDepth 100000 in
theorem next_5n (p : Int) (g : Bool) (d n v : Int) (c : Int) (h0 : 0 ≤ c) (h1 : c < 256) (n0 : 3 ≤ n) (hc : c = 46) (w : World) :
    Calls Tryd.prog 42 #[.agg #[.int .i64 5, .int .i64 p, .bool g, .int .i64 d, .int .i64 n, .int .i64 v], .int .u8 c] w (StRow w []) := by
  go_enter Tryd.func42, Tryd.ntmps42
  subst hc
  have hd : digV 46 10 = -1 := by rw [digV10]; decide
  go_wp2_with fail
  go_quiet (exact Calls.quiet_of_same ((digit_walk 46 10 h0 h1 _).mono fun e w' q => ⟨q.1.trans (by rw [hd]), q.2.symm⟩))
  go_wp2_with fail
  go_returns
  refine row_nil ?_
  exact bdn (by go_grown) _
set_option maxHeartbeats 2000000 in
set_option maxRecDepth 100000 in
theorem next_5z (p : Int) (g : Bool) (d n v : Int) (c : Int) (h0 : 0 ≤ c) (h1 : c < 256) (hs : (c == 46) = false) (hd : decide (0 ≤ digV c 10) = false) (w : World) :
    Calls Tryd.prog 42 #[.agg #[.int .i64 5, .int .i64 p, .bool g, .int .i64 d, .int .i64 n, .int .i64 v], .int .u8 c] w (StRow w []) := by
  go_enter Tryd.func42, Tryd.ntmps42
  go_wp2_with fail
  go_quiet ((exact Calls.quiet_of_same ((digit_walk c 10 h0 h1 _).mono fun e w' q => ⟨q.1, q.2.symm⟩)))
  go_wp2_with fail
  go_returns
  refine row_nil ?_
  exact bdn (by go_grown) _
set_option maxHeartbeats 2000000 in
set_option maxRecDepth 100000 in
theorem next_5v (p : Int) (g : Bool) (d n v : Int) (c : Int) (h0 : 0 ≤ c) (h1 : c < 256) (hs : (c == 46) = false) (hd : decide (0 ≤ digV c 10) = true) (hv : decide (0 < v) = false) (w : World) :
    Calls Tryd.prog 42 #[.agg #[.int .i64 5, .int .i64 p, .bool g, .int .i64 d, .int .i64 n, .int .i64 v], .int .u8 c] w (StRow w []) := by
  go_enter Tryd.func42, Tryd.ntmps42
  go_wp2_with fail
  go_quiet ((exact Calls.quiet_of_same ((digit_walk c 10 h0 h1 _).mono fun e w' q => ⟨q.1, q.2.symm⟩)))
  go_wp2_with fail
  go_returns
  refine row_nil ?_
  exact bdn (by go_grown) _
set_option maxHeartbeats 2000000 in
set_option maxRecDepth 100000 in
theorem next_5m (p : Int) (g : Bool) (d n v : Int) (c : Int) (h0 : 0 ≤ c) (h1 : c < 256) (hs : (c == 46) = false) (hd : decide (0 ≤ digV c 10) = true) (hv : decide (0 < v) = true) (hv0 : 0 ≤ v) (hdd : 0 ≤ digV c 10) (v1 : v ≤ 1000) (hd1 : digV c 10 ≤ 9) (hm : decide (10 * v + digV c 10 ≤ 255) = false) (w : World) :
    Calls Tryd.prog 42 #[.agg #[.int .i64 5, .int .i64 p, .bool g, .int .i64 d, .int .i64 n, .int .i64 v], .int .u8 c] w (StRow w []) := by
  go_enter Tryd.func42, Tryd.ntmps42
  have w0_ : IntKind.i64.wrap (10 * v) = 10 * v := IntWalk.i64_in _ (by omega)
  have w1_ : IntKind.i64.wrap (10 * v + digV c 10) = 10 * v + digV c 10 := IntWalk.i64_in _ (by omega)
  go_wp2_with fail
  go_quiet ((exact Calls.quiet_of_same ((digit_walk c 10 h0 h1 _).mono fun e w' q => ⟨q.1, q.2.symm⟩)))
  go_wp2_with fail
  go_returns
  refine row_nil ?_
  exact bdn (by go_grown) _
set_option maxHeartbeats 2000000 in
set_option maxRecDepth 100000 in
theorem next_5d (p : Int) (g : Bool) (d n v : Int) (c : Int) (h0 : 0 ≤ c) (h1 : c < 256) (hs : (c == 46) = false) (hd : decide (0 ≤ digV c 10) = true) (hv : decide (0 < v) = true) (hv0 : 0 ≤ v) (hdd : 0 ≤ digV c 10) (v1 : v ≤ 1000) (hd1 : digV c 10 ≤ 9) (hm : decide (10 * v + digV c 10 ≤ 255) = true) (w : World) :
    Calls Tryd.prog 42 #[.agg #[.int .i64 5, .int .i64 p, .bool g, .int .i64 d, .int .i64 n, .int .i64 v], .int .u8 c] w (StRow w [⟨5, p, g, d, n, 10 * v + digV c 10⟩]) := by
  go_enter Tryd.func42, Tryd.ntmps42
  have w0_ : IntKind.i64.wrap (10 * v) = 10 * v := IntWalk.i64_in _ (by omega)
  have w1_ : IntKind.i64.wrap (10 * v + digV c 10) = 10 * v + digV c 10 := IntWalk.i64_in _ (by omega)
  go_wp2_with fail
  go_quiet ((exact Calls.quiet_of_same ((digit_walk c 10 h0 h1 _).mono fun e w' q => ⟨q.1, q.2.symm⟩)))
  go_wp2_with fail
  refine wp_region_ext_tail 7 (by kernel_rfl) (by kernel_rfl) ?_
  dsimp only [List.take, List.drop]
  repeat (go_big_quiet_step (first | (with_reducible exact ext_of_same (digit_walk c 10 h0 h1 _))))
  refine wpQuiet_nil ?_
  rintro w2 ⟨⟨W2, hb2⟩, hw2⟩
  obtain rfl : W2 = w2 := hw2.symm
  have B2 : Below w.heap.size w W2 := chain0 (bdn (by go_grown) _) hb2
  obtain ⟨hc2, hf2, hs2⟩ := after hb2
  try simp at hs2
  have l0 : w.heap.size < W2.heap.size := by omega
  have l1 : w.heap.size + 1 < W2.heap.size := by omega
  clear hs2
  go_wp2_with fail
  go_returns
  exact row_lit' ⟨5, p, g, d, n, 10 * v + digV c 10⟩ (by simp) (B2.setCell (by simp) _)
set_option maxHeartbeats 2000000 in
set_option maxRecDepth 100000 in
theorem next_6d (p : Int) (g : Bool) (d n v : Int) (c : Int) (h0 : 0 ≤ c) (h1 : c < 256) (hd : decide (0 ≤ digV c 10) = true) (w : World) :
    Calls Tryd.prog 42 #[.agg #[.int .i64 6, .int .i64 p, .bool g, .int .i64 d, .int .i64 n, .int .i64 v], .int .u8 c] w (StRow w [⟨5, p, g, d, n, digV c 10⟩]) := by
  go_enter Tryd.func42, Tryd.ntmps42
  go_wp2_with fail
  refine (digit_walk c 10 h0 h1 _).mono ?_
  rintro e w0 ⟨rfl, rfl⟩
  go_wp2_with fail
  refine (digit_walk c 10 h0 h1 _).mono ?_
  rintro e w0 ⟨rfl, rfl⟩
  go_wp2_with fail
  go_returns
  refine row_lit' ⟨5, p, g, d, n, digV c 10⟩ ?_ ?_
  · first | rfl | simp
  · go_grown
set_option maxHeartbeats 2000000 in
set_option maxRecDepth 100000 in
theorem next_6 (p : Int) (g : Bool) (d n v : Int) (c : Int) (h0 : 0 ≤ c) (h1 : c < 256) (hd : decide (0 ≤ digV c 10) = false) (w : World) :
    Calls Tryd.prog 42 #[.agg #[.int .i64 6, .int .i64 p, .bool g, .int .i64 d, .int .i64 n, .int .i64 v], .int .u8 c] w (StRow w []) := by
  go_enter Tryd.func42, Tryd.ntmps42
  go_wp2_with fail
  refine (digit_walk c 10 h0 h1 _).mono ?_
  rintro e w0 ⟨rfl, rfl⟩
  go_wp2_with fail
  go_quiet (fail)
  go_wp2_with fail
  go_returns
  refine row_nil ?_
  exact bdn (by go_grown) _
theorem next_walk (x : St) (hw0 : 0 ≤ x.wh) (hw6 : x.wh ≤ 6) (hp0 : 0 ≤ x.pc) (hp1 : x.pc ≤ 100) (hd0 : 0 ≤ x.dg) (hn0 : 0 ≤ x.nu) (hv0 : 0 ≤ x.va) (hv1 : x.va ≤ 1000) (c : Int) (h0 : 0 ≤ c) (h1 : c < 256) (w : World) :
    Calls Tryd.prog 42 #[stV x, .int .u8 c] w (StRow w (nextP x c)) := by
  obtain ⟨wh, p, g, d, n, v⟩ := x
  simp only at hw0 hw6 hp0 hp1 hd0 hn0 hv0 hv1
  have e10 := digV10 c
  have e16 := digV16 c
  have hw : wh = 0 ∨ wh = 1 ∨ wh = 2 ∨ wh = 3 ∨ wh = 4 ∨ wh = 5 ∨ wh = 6 := by omega
  unfold nextP
  dsimp only
  by_cases hc : c = 58
  · have hd16 : ¬ 0 ≤ digV c 16 := by rw [e16, hc]; decide
    have hd10 : ¬ 0 ≤ digV c 10 := by rw [e10, hc]; decide
    rcases hw with rfl | rfl | rfl | rfl | rfl | rfl | rfl
    · simp only [hc, and_self, if_true]
      subst hc
      exact next_0c p g d n v 58 h0 h1 rfl w
    · simp only [hc]
      subst hc
      exact next_1c p g d n v 58 h0 h1 rfl w
    · cases g
      · simp only [hc]
        subst hc
        exact next_2c p d n v 58 h0 h1 rfl w
      · exact next_2g p d n v c h0 h1 w
    · exact next_3 p g d n v c h0 h1 w
    · rw [if_neg (by simp), if_neg (by simp), if_neg (by simp), if_pos ⟨rfl, hc⟩]
      by_cases hm : moreP ⟨2, p + 1, g, d, n, v⟩ = true
      · rw [if_pos hm]
        exact next_4c p g d n v c h0 h1 hp0 hp1 hm hc w
      · rw [if_neg hm]
        exact next_4cn p g d n v c h0 h1 hp0 hp1 (by simpa using hm) hc w
    · rw [if_neg (by simp), if_neg (by simp), if_neg (by simp), if_neg (by simp), if_neg (by simp), if_neg (by omega), if_neg (by simp), if_neg (by omega)]
      exact next_5z p g d n v c h0 h1 (by rw [hc]; rfl) (decide_eq_false hd10) w
    · rw [if_neg (by simp), if_neg (by simp), if_neg (by simp), if_neg (by simp), if_neg (by simp), if_neg (by simp), if_neg (by omega), if_neg (by simp)]
      exact next_6 p g d n v c h0 h1 (decide_eq_false hd10) w
  · have hb : (c == 58) = false := beq_eq_false_iff_ne.2 hc
    rcases hw with rfl | rfl | rfl | rfl | rfl | rfl | rfl
    · rw [if_neg (by omega), if_neg (by omega), if_pos (by omega)]
      exact next_0 p g d n v c h0 h1 hb w
    · rw [if_neg (by omega), if_neg (by omega), if_neg (by omega), if_neg (by omega), if_neg (by omega), if_neg (by omega), if_neg (by omega), if_neg (by omega)]
      exact next_1 p g d n v c h0 h1 hb w
    · rw [if_neg (by omega), if_neg (by omega), if_pos (by omega)]
      exact next_2 p g d n v c h0 h1 hb w
    · rw [if_neg (by omega), if_neg (by omega), if_pos (by omega)]
      exact next_3 p g d n v c h0 h1 w
    · rw [if_neg (by omega), if_neg (by omega), if_neg (by omega), if_neg (by omega)]
      by_cases hd : 0 ≤ digV c 16
      · by_cases h4 : d < 4
        · rw [if_pos ⟨rfl, hd, h4⟩]
          exact next_4d p g d n v c h0 h1 hd0 h4 (decide_eq_true hd) hb w
        · rw [if_neg (by omega), if_neg (by omega), if_neg (by omega), if_neg (by omega)]
          exact next_4n p g d n v c h0 h1 (by omega) (decide_eq_true hd) hb w
      · rw [if_neg (by omega), if_neg (by omega), if_neg (by omega), if_neg (by omega)]
        exact next_4z p g d n v c h0 h1 (decide_eq_false hd) hb w
    · rw [if_neg (by omega), if_neg (by omega), if_neg (by omega), if_neg (by omega), if_neg (by omega)]
      by_cases hs : c = 46
      · by_cases hn : n < 3
        · rw [if_pos ⟨rfl, hs, hn⟩]
          exact next_5s p g d n v c h0 h1 hn0 hn hs w
        · have hd10 : ¬ 0 ≤ digV c 10 := by rw [e10, hs]; decide
          rw [if_neg (by omega), if_neg (by omega), if_neg (by omega)]
          exact next_5n p g d n v c h0 h1 (by omega) hs w
      · have hsb : (c == 46) = false := beq_eq_false_iff_ne.2 hs
        rw [if_neg (by omega), if_neg (by omega)]
        by_cases hd : 0 ≤ digV c 10
        · have hd9 : digV c 10 ≤ 9 := by
            rw [e10]
            split <;> omega
          by_cases hv : 0 < v
          · by_cases hm : 10 * v + digV c 10 ≤ 255
            · rw [if_pos ⟨rfl, hd, hv, hm⟩]
              exact next_5d p g d n v c h0 h1 hsb (decide_eq_true hd) (decide_eq_true hv) hv0 hd hv1 hd9 (decide_eq_true hm) w
            · rw [if_neg (by omega)]
              exact next_5m p g d n v c h0 h1 hsb (decide_eq_true hd) (decide_eq_true hv) hv0 hd hv1 hd9 (decide_eq_false hm) w
          · rw [if_neg (by omega)]
            exact next_5v p g d n v c h0 h1 hsb (decide_eq_true hd) (decide_eq_false hv) w
        · rw [if_neg (by omega)]
          exact next_5z p g d n v c h0 h1 hsb (decide_eq_false hd) w
    · rw [if_neg (by omega), if_neg (by omega), if_neg (by omega), if_neg (by omega), if_neg (by omega), if_neg (by omega)]
      by_cases hd : 0 ≤ digV c 10
      · rw [if_pos ⟨rfl, hd⟩]
        exact next_6d p g d n v c h0 h1 (decide_eq_true hd) w
      · rw [if_neg (by omega), if_neg (by omega)]
        exact next_6 p g d n v c h0 h1 (decide_eq_false hd) w
set_option maxHeartbeats 1000000 in
set_option maxRecDepth 100000 in
theorem ends_walk (x : St) (w : World) :
    Calls Tryd.prog 44 #[stV x] w fun e w' => e = .returned (.bool (endsP x)) ∧ Below w.heap.size w w' := by
  obtain ⟨wh, p, g, d, n, v⟩ := x
  unfold endsP
  simp only
  by_cases h3 : wh = 3
  · subst h3
    go_enter Tryd.func44, Tryd.ntmps44
    go_wp2
    go_returns
    exact ⟨rfl, by go_grown⟩
  · have b3 : (wh == 3) = false := beq_eq_false_iff_ne.2 h3
    rw [if_neg h3]
    by_cases h4 : wh = 4
    · subst h4
      rw [if_pos rfl]
      cases g
      all_goals
        go_enter Tryd.func44, Tryd.ntmps44
        go_wp2
        go_returns
        exact ⟨by first | rfl | simp, by go_grown⟩
    · have b4 : (wh == 4) = false := beq_eq_false_iff_ne.2 h4
      rw [if_neg h4]
      by_cases h5 : wh = 5
      · subst h5
        rw [if_pos rfl]
        go_enter Tryd.func44, Tryd.ntmps44
        go_wp2
        go_returns
        exact ⟨by first | rfl | simp, by go_grown⟩
      · have b5 : (wh == 5) = false := beq_eq_false_iff_ne.2 h5
        rw [if_neg h5]
        go_enter Tryd.func44, Tryd.ntmps44
        go_wp2
        go_returns
        exact ⟨rfl, by go_grown⟩
end Go.Proofs.YtcgdjnmfeibnoaaDoor
/-! SixAny -/
namespace Go.Proofs.YtcgdjnmfeibnoaaDoor
open Go.RowKit Go.Proofs.YtcgdjnmfeibnoaaDoorW.PrintWords
set_option linter.unusedVariables false
set_option linter.unusedSimpArgs false
theorem eg_ends : ∀ args w, (callFunc 44 args).run Tryd.prog w = .ok (.enter 44 args) w := enters_of Tryd.func44 (by kernel_rfl) rfl
instance : Inhabited St := ⟨⟨0, 0, false, 0, 0, 0⟩⟩
theorem st_index (b off c : Nat) (zs : List St) (w : World) (hbig : zs.length ≤ 9223372036854775807) (hb : b < w.heap.size) (hc : ∀ j, j < zs.length → ∀ i v, (stC zs[j]!)[i]? = some v → w.cell? ⟨b, off + j * 6 + i, none⟩ = some v) :
    Calls Tryd.prog 87 #[.slice (some ⟨b, off, none⟩) zs.length c, .func (.func 44) #[] #[]] w fun e w' => e = .returned (.int .i64 (Lib.idxBy (fun _ y => endsP y) zs default)) ∧ Below w.heap.size w w' := by
  have h := AnyQ.slices_IndexFunc Tryd.stIndex 6 Tryd.isAgg80 Tryd.sizeOf80 stC (fun _ => rfl) endsP 44 #[] eg_ends b off zs.length c zs w (fun W x hB => (ends_walk x W).mono fun _ _ ⟨he, hw⟩ => ⟨he, below_step hB hw⟩) (Nat.le_refl _) hbig hb hc
  rw [List.take_length] at h
  exact h
end Go.Proofs.YtcgdjnmfeibnoaaDoor
/-! SixRow -/
namespace Go.Proofs.YtcgdjnmfeibnoaaDoor
open Go.RowKit Go.Proofs.YtcgdjnmfeibnoaaDoorW.PrintWords
set_option linter.unusedVariables false
set_option linter.unusedSimpArgs false
/-- The same as one step of a region that draws its order. -/
theorem step_app_row {P : Program} {w : World} {ops : Array Oper} {o : Oper} {a : Act} {K : Act → World → Prop} {Q : Exit → Act → World → Prop} {E : Prop} (hgd : o.guard = none) (s x : Operand) (t : TypeId)
    (ho : o.op = .call { callee := .builtin .append, args := #[s, x], argTypes := #[t, t] })
    (base : Nat) (e : TypeId) (i : TypeInfo) (z : Value) (size bytes : Nat) (ht : P.underlying t = some (.slice e)) (hi : P.info? e = some i) (hz : i.zero = some z)
    (hsize : i.size = size) (hby : i.bytes = bytes) (hzs : z.cells.size = size) (hsz : 0 < size)
    (v : Value) (n : Nat) (xs : List Value) (hs : a.eval s = v) (hown : w.ownsRow base e size v n xs)
    (u : Value) (B m : Nat) (news : List Value) (hx : a.eval x = u) (hu : w.ownsRow B e size u m news) (h1 : ∀ q ∈ news, q.oneCell' = true)
    (h63 : n + m ≤ maxLen) (hbytes : (n + m) * bytes ≤ 140737488355328) (hbase : base ≤ w.heap.size)
    (h : ∀ v' w', w'.ownsRow base e size v' (n + m) (xs ++ news) → (∀ B w0, B ≤ base → Below B w0 w → Below B w0 w') → w.grownBy w' v.ownBlock → K (a.put o.dst v') w') :
    if Region.wanted o (yielded ops a.tmps) = true then Oper.wp P o a w K Q else E := by
  have hw : Region.wanted o (yielded ops a.tmps) = true := by simp [Region.wanted, hgd]
  rw [if_pos hw]
  obtain ⟨hl, hu'⟩ := hu
  rcases hu' with ⟨rfl, h0⟩ | ⟨g, cap, cur, rfl, hg, hr⟩
  · subst h0
    obtain rfl : news = [] := List.eq_nil_of_length_eq_zero (by rw [hl]; simp)
    have hrun := run_append_owned_none (P := P) (w := w) base t o.type e i size ht hi v n xs hown
    unfold Oper.wp
    simp [execOp, ho, resolve, invoke, builtin, hs, hx, hrun, Result.andThen]
    exact h v w (by simpa using hown) (fun _ _ _ hb => hb) (World.grownBy.refl w _)
  · have hu2 : w.ownsRow B e size (.slice (some ⟨g, 0, none⟩) m cap) m news := ⟨hl, .inr ⟨g, cap, cur, rfl, hg, hr⟩⟩
    refine wp_append_own w s x t ho base e i z size bytes ht hi hz hsize hby hzs hsz v n xs hs hown ⟨g, 0, none⟩ m cap news hx hl (hu2.cells (by simp [Value.ownBlock])) h1 h63 hbytes hbase ?_
    intro v' w' hown' hgrow _
    exact h v' w' hown' (fun B w0 hb hw => hw.grown hgrow (by omega) (fun k hk => Nat.le_trans hb (hown.lt k hk).1)) hgrow
theorem own_belowS {W W' : World} {base size n : Nat} {e : TypeId} {v : Value} {xs : List Value} (h : W.ownsRow base e size v n xs) (hb : Below W.heap.size W W') : W'.ownsRow base e size v n xs :=
  h.kept (row := none) ⟨hb.os, hb.tape, hb.output, hb.size, fun k hk _ => hb.block k hk⟩ (by cases hv : v.ownBlock <;> simp)
theorem own_slice {w : World} {base : Nat} {e : TypeId} {size n : Nat} {v : Value} {xs : List Value} (h : w.ownsRow base e size v n xs) : ∃ A c, v = .slice A n c := by
  rcases h.2 with ⟨rfl, rfl⟩ | ⟨g, cap, cur, rfl, _⟩
  · exact ⟨_, _, rfl⟩
  · exact ⟨_, _, rfl⟩
theorem stCs_get : ∀ (l : List St) (j i : Nat) (hj : j < l.length), i < 6 → (stCs l)[j * 6 + i]? = (stC l[j])[i]?
  | x :: l, 0, i, _, hi => by
    show (stC x ++ stCs l)[0 * 6 + i]? = _
    rw [List.getElem?_append_left (by simp [stC]; omega)]
    simp
  | x :: l, j + 1, i, hj, hi => by
    show (stC x ++ stCs l)[(j + 1) * 6 + i]? = _
    rw [List.getElem?_append_right (by simp [stC]; omega), show (j + 1) * 6 + i - (stC x).length = j * 6 + i by simp [stC]; omega]
    exact stCs_get l j i (by simpa using hj) hi
theorem stCs_one (l : List St) : ∀ q ∈ stCs l, q.oneCell' = true := by
  intro q hq
  obtain ⟨x, _, hx⟩ := List.mem_flatMap.1 hq
  simp only [stC, List.mem_cons, List.not_mem_nil, or_false] at hx
  rcases hx with rfl | rfl | rfl | rfl | rfl | rfl <;> rfl
theorem stCs_app (a b : List St) : stCs (a ++ b) = stCs a ++ stCs b := by unfold stCs; rw [List.flatMap_append]
theorem own_state {W : World} {B g cap : Nat} {l : List St} (h : W.ownsRow B 80 6 (.slice (some ⟨g, 0, none⟩) l.length cap) l.length (stCs l)) (j : Nat) (hj : j < l.length) (i : Nat) (v : Value) (hv : (stC l[j])[i]? = some v) : W.cell? ⟨g, j * 6 + i, none⟩ = some v := by
  have hi : i < 6 := by
    have := (List.getElem?_eq_some_iff.1 hv).1
    simpa [stC] using this
  rw [h.cellAt (j * 6 + i) (by omega), stCs_get l j i hj hi]
  exact hv
theorem own_head {W : World} {B : Nat} {v : Value} {l : List St} (h : W.ownsRow B 80 6 v l.length (stCs l)) (hn : l ≠ []) : ∃ g cap, v = .slice (some ⟨g, 0, none⟩) l.length cap ∧ B ≤ g ∧ g < W.heap.size := by
  rcases h.2 with ⟨_, h0⟩ | ⟨g, cap, cur, rfl, hg, hr⟩
  · exact absurd (List.eq_nil_of_length_eq_zero h0) hn
  · exact ⟨g, cap, rfl, (h.lt g (by simp [Value.ownBlock])).1, (h.lt g (by simp [Value.ownBlock])).2⟩
set_option maxHeartbeats 1000000 in
set_option maxRecDepth 100000 in
theorem any_walk (g c B : Nat) (l : List St) (w : World) (hn : l ≠ []) (hl : l.length ≤ 9223372036854775807) (h : w.ownsRow B 80 6 (.slice (some ⟨g, 0, none⟩) l.length c) l.length (stCs l)) :
    Calls Tryd.prog 43 #[.slice (some ⟨g, 0, none⟩) l.length c, .func (.func 44) #[] #[]] w fun e w' => e = .returned (.bool (l.any endsP)) ∧ Below w.heap.size w w' := by
  have hI := st_index g 0 c l w hl (h.lt g (by simp [Value.ownBlock])).2 (fun j hj i v hv => by
    rw [getElem!_pos l j hj] at hv
    rw [Nat.zero_add]
    exact own_state h j hj i v hv)
  have hx := Lib.idxBy_nonneg_iff (fun _ y => endsP y) l default
  generalize Lib.idxBy (fun _ y => endsP y) l default = x at *
  rw [← hx]
  have HI := Lib.hid hI
  clear hI hx h
  go_enter Tryd.func43, Tryd.ntmps43
  go_wp2_with fail
  refine (HI.out).mono ?_
  rintro e w1 ⟨rfl, hb1⟩
  go_wp2_with fail
  go_returns
  exact ⟨rfl, hb1⟩
end Go.Proofs.YtcgdjnmfeibnoaaDoor
/-! SixCut -/
namespace Go.Proofs.YtcgdjnmfeibnoaaDoor
open Go.RowKit Go.Proofs.YtcgdjnmfeibnoaaDoorW.PrintWords
set_option linter.unusedVariables false
set_option linter.unusedSimpArgs false
theorem pre_58 (a : UInt8) (l : List UInt8) : ([58, 58] : List UInt8).isPrefixOf (a :: l) = decide (a = 58 ∧ l.head? = some 58) := by
  cases l with
  | nil => simp [List.isPrefixOf]
  | cons b l => 
    rw [Bool.eq_iff_iff]
    simp [List.isPrefixOf]
    constructor
    · rintro ⟨rfl, rfl⟩; exact ⟨rfl, rfl⟩
    · rintro ⟨rfl, rfl⟩; exact ⟨rfl, rfl⟩
theorem cut_58 (l : List UInt8) : Lib.cut l [58, 58] = cut2 l := by
  induction l with
  | nil => rfl
  | cons a l ih =>
    have hidx : Lib.index (a :: l) [58, 58] = if a = 58 ∧ l.head? = some 58 then 0 else if Lib.index l [58, 58] = -1 then -1 else Lib.index l [58, 58] + 1 := by
      rw [Lib.index, pre_58]
      simp only [decide_eq_true_eq, beq_iff_eq]
    have hg := Lib.index_ge l [58, 58]
    unfold Lib.cut at ih ⊢
    rw [cut2, hidx]
    by_cases h : a = 58 ∧ l.head? = some 58
    · rw [if_pos h, if_pos h]
      simp
    · rw [if_neg h, if_neg h, ← ih]
      by_cases hi : Lib.index l [58, 58] = -1
      · rw [hi]
        rfl
      · rw [if_neg hi, if_pos (show 0 ≤ Lib.index l [58, 58] + 1 by omega), if_pos (show 0 ≤ Lib.index l [58, 58] by omega)]
        have e : (Lib.index l [58, 58] + 1).toNat = (Lib.index l [58, 58]).toNat + 1 := by omega
        rw [e, List.take_succ_cons, Nat.add_right_comm, List.drop_succ_cons]
end Go.Proofs.YtcgdjnmfeibnoaaDoor
/-! SixWr -/
namespace Go.Proofs.YtcgdjnmfeibnoaaDoor
open Go.RowKit Go.Proofs.YtcgdjnmfeibnoaaDoorW.PrintWords Go.Proofs.YtcgdjnmfeibnoaaDoor.X Go.IntWalk
set_option linter.unusedVariables false
set_option linter.unusedSimpArgs false
theorem u16wr (x : Int) (h : 0 ≤ x) : IntKind.u16.wrap x = x % 65536 := rfl
theorem strictL_nonneg : ∀ (l : List UInt8) (i : Nat) (n : Int) (part size : Nat) (x : Int), 0 ≤ (strictL l i n part size x).1
  | [], i, n, part, size, x => by
    rw [strictL]
    split
    · exact Int.le_refl _
    · exact Int.emod_nonneg _ (by decide)
  | c :: l, i, n, part, size, x => by
    rw [strictL]
    split
    · exact strictL_nonneg l _ _ _ _ _
    · split
      · exact strictL_nonneg l _ _ _ _ _
      · exact Int.le_refl _
theorem numL_nonneg (base : Int) (hb : 0 ≤ base) : ∀ (l : List UInt8) (n i : Int), 0 ≤ n → 0 ≤ (numL base l n i).1
  | [], n, i, h => by
    rw [numL]
    split
    · exact Int.le_refl _
    · exact h
  | c :: l, n, i, h => by
    rw [numL]
    split
    · exact Int.le_refl _
    · exact numL_nonneg base hb l _ _ (by have := Int.mul_nonneg h hb; omega)
theorem written_loop (L : List (List UInt8)) (hL : ∀ p ∈ L, p.length ≤ 9223372036854775807) (hlen : L.length ≤ 4294967296) : ∀ (m i : Nat) (acc : List Int), i + m = L.length → acc.length ≤ 2 * i →
    Ev (fun k => six_written.l0 k acc (L.map BA) (L.length : Int) (i : Int)) (acc ++ (L.drop i).flatMap grpV) := by
  intro m
  induction m with
  | zero =>
    intro i acc hm ha
    rw [List.drop_of_length_le (by omega), List.flatMap_nil, List.append_nil]
    refine Ev.step (f := fun _ => some acc) (fun k => ?_) (Ev.now _)
    simp only [six_written.l0]
    rw [if_neg (by omega)]
  | succ m ih =>
    intro i acc hm ha
    have hi : i < L.length := by omega
    have hp := hL L[i] (List.getElem_mem hi)
    have hr : rdOf ByteArray.empty (L.map BA) (i : Int) = BA L[i] := rd_map L i hi
    have hs := strict_ev (BA L[i]) (by rw [ba_size]; exact hp)
    rw [ba_list] at hs
    have w1 : wrap64 ((i : Int) + 1) = ((i + 1 : Nat) : Int) := by rw [wrap64_in _ (by omega)]; omega
    rw [List.drop_eq_getElem_cons hi, List.flatMap_cons]
    refine Ev.step (f := fun k => (four_Strict.f k (BA L[i])).bind fun bt => (if bt.2.2 = 0 then ((some (([IntKind.u16.wrap (bt.1 / 65536), IntKind.u16.wrap (bt.1)] : List Int) : List Int)).bind fun y => (if acc.length + y.length < 70368744177664 then (six_written.l0 k (acc ++ y) (L.map BA) (L.length : Int) (((i + 1 : Nat) : Int))) else (none))) else ((octet_Number.f (BA L[i]) 16).bind fun b => (if acc.length < 70368744177664 then (six_written.l0 k (acc ++ [IntKind.u16.wrap (b.1)]) (L.map BA) (L.length : Int) (((i + 1 : Nat) : Int))) else (none))))) (fun k => ?_) ?_
    · simp only [six_written.l0]
      rw [if_pos (by omega), if_pos (by omega), if_pos (by rw [List.length_map]; omega), hr, w1]
    · refine Ev.bind hs ?_
      have hn : 0 ≤ (strictV L[i]).1 := strictL_nonneg L[i] 0 0 0 0 0
      unfold grpV
      by_cases h0 : (strictV L[i]).2.2 = 0
      · rw [if_pos h0]
        have ih' := ih (i + 1) (acc ++ [(strictV L[i]).1 / 65536 % 65536, (strictV L[i]).1 % 65536]) (by omega) (by simp; omega)
        rw [List.append_assoc] at ih'
        refine Ev.congr (fun k => ?_) ih'
        rw [if_pos h0, Option.bind_some, if_pos (by simp; omega), u16wr _ (by omega), u16wr _ hn]
      · rw [if_neg h0]
        have ih' := ih (i + 1) (acc ++ [(numV L[i] 16).1 % 65536]) (by omega) (by simp; omega)
        rw [List.append_assoc] at ih'
        have hnn : 0 ≤ (numV L[i] 16).1 := by
          unfold numV
          rw [if_neg (by decide)]
          split
          · exact Int.le_refl _
          · exact numL_nonneg 16 (by decide) _ _ _ (Int.le_refl _)
        refine Ev.congr (fun k => ?_) ih'
        unfold octet_Number.f
        rw [if_neg h0, if_pos (by rw [ba_size]; exact hp), Option.bind_some, if_pos (by omega), ba_list, u16wr _ hnn]
theorem written_ev (s : ByteArray) (hs : s.size ≤ 4294967280) : Ev (fun k => six_written.f k s) (writtenV s.data.toList) := by
  have hz := size_len s
  have hl := splitC_len 58 s.data.toList
  have hp := splitC_part 58 s.data.toList
  unfold writtenV
  by_cases h : s.data.toList = []
  · rw [if_pos h]
    refine Ev.congr (f := fun _ => some []) (fun k => ?_) (Ev.now _)
    unfold six_written.f
    rw [if_pos (by rw [toList_data]; exact h)]
  · rw [if_neg h]
    have e := written_loop (splitC 58 s.data.toList) (fun p q => by have := hp p q; omega) (by omega) _ 0 [] (Nat.zero_add _) (by simp)
    rw [List.nil_append, List.drop_zero] at e
    refine Ev.congr (fun k => ?_) e
    unfold six_written.f strings_Split.f
    rw [if_neg (by rw [toList_data]; exact h), if_pos ⟨by omega, by decide⟩, show (⟨#[58]⟩ : ByteArray) = BA [58] from rfl, splitB_one, Option.bind_some, List.length_map]
    rfl
end Go.Proofs.YtcgdjnmfeibnoaaDoor
/-! SixStOk -/
namespace Go.Proofs.YtcgdjnmfeibnoaaDoor
open Go.RowKit Go.Proofs.YtcgdjnmfeibnoaaDoorW.PrintWords
set_option linter.unusedVariables false
set_option linter.unusedSimpArgs false
structure StOk (x : St) : Prop where
  w0 : 0 ≤ x.wh
  w6 : x.wh ≤ 6
  p0 : 0 ≤ x.pc
  p8 : x.pc ≤ 8
  d0 : 0 ≤ x.dg
  n0 : 0 ≤ x.nu
  v0 : 0 ≤ x.va
  v1 : x.va ≤ 255
theorem begin_ok {x : St} (h : StOk x) (c : Int) : ∀ y ∈ beginP x c, StOk y := by
  have e := digV10 c
  intro y hy
  unfold beginP at hy
  rcases List.mem_append.1 hy with q | q
  · split at q
    · rw [List.mem_singleton] at q
      subst q
      exact ⟨(by decide : (0 : Int) ≤ 4), (by decide : (4 : Int) ≤ 6), h.p0, h.p8, (by decide : (0 : Int) ≤ 1), h.n0, h.v0, h.v1⟩
    · cases q
  · split at q
    · rename_i hd
      rw [List.mem_singleton] at q
      subst q
      exact ⟨(by decide : (0 : Int) ≤ 5), (by decide : (5 : Int) ≤ 6), h.p0, h.p8, h.d0, h.n0, hd.1, by show digV c 10 ≤ 255; rw [e]; split <;> omega⟩
    · cases q
theorem next_ok {x : St} (h : StOk x) (c : Int) : ∀ y ∈ nextP x c, StOk y := by
  have e := digV10 c
  have hd : digV c 10 ≤ 9 := by rw [e]; split <;> omega
  obtain ⟨w0, w6, p0, p8, d0, n0, v0, v1⟩ := h
  intro y hy
  unfold nextP at hy
  split at hy
  · rw [List.mem_singleton] at hy; subst hy
    exact ⟨(by decide : (0 : Int) ≤ 1), (by decide : (1 : Int) ≤ 6), p0, p8, d0, n0, v0, v1⟩
  split at hy
  · rw [List.mem_singleton] at hy; subst hy
    exact ⟨(by decide : (0 : Int) ≤ 3), (by decide : (3 : Int) ≤ 6), p0, p8, d0, n0, v0, v1⟩
  split at hy
  · exact begin_ok ⟨w0, w6, p0, p8, d0, n0, v0, v1⟩ c y hy
  split at hy
  · split at hy
    · rename_i hm
      rw [List.mem_singleton] at hy; subst hy
      refine ⟨(by decide : (0 : Int) ≤ 2), (by decide : (2 : Int) ≤ 6), by show 0 ≤ x.pc + 1; omega, ?_, d0, n0, v0, v1⟩
      show x.pc + 1 ≤ 8
      unfold moreP at hm
      dsimp only at hm
      split at hm
      · have := of_decide_eq_true hm; omega
      · have := of_decide_eq_true hm; omega
    · cases hy
  split at hy
  · rw [List.mem_singleton] at hy; subst hy
    exact ⟨w0, w6, p0, p8, by show 0 ≤ x.dg + 1; omega, n0, v0, v1⟩
  split at hy
  · rw [List.mem_singleton] at hy; subst hy
    exact ⟨(by decide : (0 : Int) ≤ 6), (by decide : (6 : Int) ≤ 6), p0, p8, d0, by show 0 ≤ x.nu + 1; omega, v0, v1⟩
  split at hy
  · rename_i hq
    rw [List.mem_singleton] at hy; subst hy
    exact ⟨(by decide : (0 : Int) ≤ 5), (by decide : (5 : Int) ≤ 6), p0, p8, d0, n0, hq.2, by show digV c 10 ≤ 255; omega⟩
  split at hy
  · rename_i hq
    rw [List.mem_singleton] at hy; subst hy
    exact ⟨w0, w6, p0, p8, d0, n0, by show 0 ≤ 10 * x.va + digV c 10; omega, hq.2.2.2⟩
  · cases hy
theorem st0_ok : StOk ⟨0, 0, false, 0, 0, 0⟩ := ⟨by decide, by decide, by decide, by decide, by decide, by decide, by decide, by decide⟩
theorem all_ok {l : List St} (h : ∀ x ∈ l, StOk x) (c : Int) : ∀ y ∈ l.flatMap (nextP · c), StOk y := by
  intro y hy
  obtain ⟨x, hx, hy⟩ := List.mem_flatMap.1 hy
  exact next_ok (h x hx) c y hy
end Go.Proofs.YtcgdjnmfeibnoaaDoor
/-! SixShort -/
namespace Go.Proofs.YtcgdjnmfeibnoaaDoor
open Go.RowKit Go.Proofs.YtcgdjnmfeibnoaaDoorW.PrintWords
set_option linter.unusedVariables false
set_option linter.unusedSimpArgs false
/-- How many digits a number of an IPv4 address has. -/
def ndig (v : Int) : Int := if v < 10 then 1 else if v < 100 then 2 else 3
/-- How far a reader is. -/
def restP (x : St) : Int := if x.wh = 1 then 1 else if x.wh = 4 then x.dg else if x.wh = 5 then 4 * x.nu + ndig x.va else if x.wh = 6 then 4 * x.nu else 0
def farP (x : St) : Int := 6 * x.pc + (if x.gap then 2 else 0) + restP x
structure FarOk (x : St) : Prop where
  p0 : 0 ≤ x.pc
  p8 : x.pc ≤ 8
  d4 : x.wh = 4 → 1 ≤ x.dg ∧ x.dg ≤ 4
  n0 : 0 ≤ x.nu
  n3 : x.nu ≤ 3
  v0 : x.wh = 5 → 0 ≤ x.va
  w : 0 ≤ x.wh ∧ x.wh ≤ 6
  g1 : x.wh ≤ 1 → x.gap = false
theorem ndig_lo (v : Int) : 1 ≤ ndig v ∧ ndig v ≤ 3 := by unfold ndig; split; omega; split <;> omega
theorem far_most {x : St} (h : FarOk x) : farP x ≤ 65 := by
  obtain ⟨p0, p8, d4, n0, n3, v0, w, g1⟩ := h
  have := ndig_lo x.va
  unfold farP restP
  have hg : (if x.gap then (2 : Int) else 0) ≤ 2 := by split <;> omega
  by_cases h4 : x.wh = 4
  · have := d4 h4
    rw [if_neg (by omega : ¬ x.wh = 1), if_pos h4]
    omega
  · rw [if_neg h4]
    by_cases h1 : x.wh = 1
    · rw [if_pos h1]; omega
    · rw [if_neg h1]
      by_cases h5 : x.wh = 5
      · rw [if_pos h5]; omega
      · rw [if_neg h5]; split <;> omega
theorem begin_far {x : St} (h : FarOk x) (hw : x.wh = 0 ∨ x.wh = 2 ∨ x.wh = 3) (c : Int) : ∀ y ∈ beginP x c, FarOk y ∧ farP x + 1 ≤ farP y := by
  have e := digV10 c
  obtain ⟨p0, p8, d4, n0, n3, v0, w, g1⟩ := h
  have hx : farP x = 6 * x.pc + (if x.gap then 2 else 0) := by
    have hr : restP x = 0 := by unfold restP; rw [if_neg (by omega), if_neg (by omega), if_neg (by omega), if_neg (by omega)]
    unfold farP
    rw [hr]
    omega
  intro y hy
  unfold beginP at hy
  rcases List.mem_append.1 hy with q | q
  · split at q
    · rw [List.mem_singleton] at q
      subst q
      refine ⟨⟨p0, p8, fun _ => ⟨by show (1 : Int) ≤ 1; omega, by show (1 : Int) ≤ 4; omega⟩, n0, n3, fun q => absurd (show (4 : Int) = 5 from q) (by decide), by show (0 : Int) ≤ 4 ∧ (4 : Int) ≤ 6; omega, fun q => absurd (show (4 : Int) ≤ 1 from q) (by decide)⟩, ?_⟩
      rw [hx]
      show _ ≤ 6 * x.pc + (if x.gap then 2 else 0) + (if (4 : Int) = 1 then (1 : Int) else if (4 : Int) = 4 then 1 else _)
      rw [if_neg (by decide : ¬ (4 : Int) = 1), if_pos rfl]
      omega
    · cases q
  · split at q
    · rename_i hd
      rw [List.mem_singleton] at q
      subst q
      refine ⟨⟨p0, p8, fun q => absurd (show (5 : Int) = 4 from q) (by decide), n0, n3, fun _ => hd.1, by show (0 : Int) ≤ 5 ∧ (5 : Int) ≤ 6; omega, fun q => absurd (show (5 : Int) ≤ 1 from q) (by decide)⟩, ?_⟩
      rw [hx]
      have := ndig_lo (digV c 10)
      show _ ≤ 6 * x.pc + (if x.gap then 2 else 0) + (if (5 : Int) = 1 then (1 : Int) else if (5 : Int) = 4 then x.dg else if (5 : Int) = 5 then 4 * x.nu + ndig (digV c 10) else _)
      rw [if_neg (by decide : ¬ (5 : Int) = 1), if_neg (by decide : ¬ (5 : Int) = 4), if_pos rfl]
      omega
    · cases q
theorem next_far {x : St} (h : FarOk x) (c : Int) : ∀ y ∈ nextP x c, FarOk y ∧ farP x + 1 ≤ farP y := by
  have e := digV10 c
  have hd : digV c 10 ≤ 9 := by rw [e]; split <;> omega
  have h0 := h
  obtain ⟨p0, p8, d4, n0, n3, v0, w, g1⟩ := h
  have nd := ndig_lo x.va
  intro y hy
  unfold nextP at hy
  split at hy
  · rename_i hc
    rw [List.mem_singleton] at hy; subst hy
    refine ⟨⟨p0, p8, fun q => absurd (show (1 : Int) = 4 from q) (by decide), n0, n3, fun q => absurd (show (1 : Int) = 5 from q) (by decide), by show (0 : Int) ≤ 1 ∧ (1 : Int) ≤ 6; omega, fun _ => g1 (by omega)⟩, ?_⟩
    have hx : farP x = 6 * x.pc + (if x.gap then 2 else 0) := by
      have hr : restP x = 0 := by unfold restP; rw [if_neg (by omega), if_neg (by omega), if_neg (by omega), if_neg (by omega)]
      unfold farP
      rw [hr]
      omega
    rw [hx]
    show _ ≤ 6 * x.pc + (if x.gap then 2 else 0) + (if (1 : Int) = 1 then (1 : Int) else _)
    rw [if_pos rfl]
    omega
  split at hy
  · rename_i _ hc
    rw [List.mem_singleton] at hy; subst hy
    refine ⟨⟨p0, p8, fun q => absurd (show (3 : Int) = 4 from q) (by decide), n0, n3, fun q => absurd (show (3 : Int) = 5 from q) (by decide), by show (0 : Int) ≤ 3 ∧ (3 : Int) ≤ 6; omega, fun q => absurd (show (3 : Int) ≤ 1 from q) (by decide)⟩, ?_⟩
    show _ ≤ 6 * x.pc + (if true = true then 2 else 0) + (if (3 : Int) = 1 then (1 : Int) else if (3 : Int) = 4 then x.dg else if (3 : Int) = 5 then 4 * x.nu + ndig x.va else if (3 : Int) = 6 then 4 * x.nu else 0)
    rw [if_pos rfl, if_neg (by decide : ¬ (3 : Int) = 1), if_neg (by decide : ¬ (3 : Int) = 4), if_neg (by decide : ¬ (3 : Int) = 5), if_neg (by decide : ¬ (3 : Int) = 6)]
    have hx : farP x ≤ 6 * x.pc + 1 := by
      unfold farP
      rcases hc.1 with h1 | ⟨h1, h2⟩
      · have hr : restP x = 1 := by unfold restP; rw [if_pos h1]
        rw [g1 (by omega), hr]
        simp
      · have hr : restP x = 0 := by unfold restP; rw [if_neg (by omega), if_neg (by omega), if_neg (by omega), if_neg (by omega)]
        rw [h2, hr]
        simp
        omega
    omega
  split at hy
  · rename_i _ _ hc
    exact begin_far h0 hc c y hy
  split at hy
  · rename_i hc
    have hdg := d4 hc.1
    have hx : farP x = 6 * x.pc + (if x.gap then 2 else 0) + x.dg := by
      have hr : restP x = x.dg := by unfold restP; rw [if_neg (by omega), if_pos hc.1]
      unfold farP
      rw [hr]
    split at hy
    · rename_i hm
      rw [List.mem_singleton] at hy; subst hy
      refine ⟨⟨by show 0 ≤ x.pc + 1; omega, ?_, fun q => absurd (show (2 : Int) = 4 from q) (by decide), n0, n3, fun q => absurd (show (2 : Int) = 5 from q) (by decide), by show (0 : Int) ≤ 2 ∧ (2 : Int) ≤ 6; omega, fun q => absurd (show (2 : Int) ≤ 1 from q) (by decide)⟩, ?_⟩
      · show x.pc + 1 ≤ 8
        unfold moreP at hm
        dsimp only at hm
        split at hm
        · have := of_decide_eq_true hm; omega
        · have := of_decide_eq_true hm; omega
      · rw [hx]
        show _ ≤ 6 * (x.pc + 1) + (if x.gap then 2 else 0) + (if (2 : Int) = 1 then (1 : Int) else if (2 : Int) = 4 then x.dg else if (2 : Int) = 5 then 4 * x.nu + ndig x.va else if (2 : Int) = 6 then 4 * x.nu else 0)
        rw [if_neg (by decide : ¬ (2 : Int) = 1), if_neg (by decide : ¬ (2 : Int) = 4), if_neg (by decide : ¬ (2 : Int) = 5), if_neg (by decide : ¬ (2 : Int) = 6)]
        omega
    · cases hy
  split at hy
  · rename_i hc
    have hx : farP x = 6 * x.pc + (if x.gap then 2 else 0) + x.dg := by
      have hr : restP x = x.dg := by unfold restP; rw [if_neg (by omega), if_pos hc.1]
      unfold farP
      rw [hr]
    rw [List.mem_singleton] at hy; subst hy
    refine ⟨⟨p0, p8, fun _ => ⟨by show 1 ≤ x.dg + 1; have := d4 hc.1; omega, by show x.dg + 1 ≤ 4; omega⟩, n0, n3, fun q => by have q' : x.wh = 5 := q; omega, w, g1⟩, ?_⟩
    rw [hx]
    show _ ≤ 6 * x.pc + (if x.gap then 2 else 0) + (if x.wh = 1 then (1 : Int) else if x.wh = 4 then x.dg + 1 else _)
    rw [if_neg (by omega : ¬ x.wh = 1), if_pos hc.1]
    omega
  split at hy
  · rename_i hc
    have hx : farP x = 6 * x.pc + (if x.gap then 2 else 0) + (4 * x.nu + ndig x.va) := by
      have hr : restP x = (4 * x.nu + ndig x.va) := by unfold restP; rw [if_neg (by omega), if_neg (by omega), if_pos hc.1]
      unfold farP
      rw [hr]
    rw [List.mem_singleton] at hy; subst hy
    refine ⟨⟨p0, p8, fun q => absurd (show (6 : Int) = 4 from q) (by decide), by show 0 ≤ x.nu + 1; omega, by show x.nu + 1 ≤ 3; omega, fun q => absurd (show (6 : Int) = 5 from q) (by decide), by show (0 : Int) ≤ 6 ∧ (6 : Int) ≤ 6; omega, fun q => absurd (show (6 : Int) ≤ 1 from q) (by decide)⟩, ?_⟩
    rw [hx]
    show _ ≤ 6 * x.pc + (if x.gap then 2 else 0) + (if (6 : Int) = 1 then (1 : Int) else if (6 : Int) = 4 then x.dg else if (6 : Int) = 5 then 4 * (x.nu + 1) + ndig x.va else if (6 : Int) = 6 then 4 * (x.nu + 1) else 0)
    rw [if_neg (by decide : ¬ (6 : Int) = 1), if_neg (by decide : ¬ (6 : Int) = 4), if_neg (by decide : ¬ (6 : Int) = 5), if_pos rfl]
    omega
  split at hy
  · rename_i hc
    have hx : farP x = 6 * x.pc + (if x.gap then 2 else 0) + 4 * x.nu := by
      have hr : restP x = 4 * x.nu := by unfold restP; rw [if_neg (by omega), if_neg (by omega), if_neg (by omega), if_pos hc.1]
      unfold farP
      rw [hr]
    rw [List.mem_singleton] at hy; subst hy
    refine ⟨⟨p0, p8, fun q => absurd (show (5 : Int) = 4 from q) (by decide), n0, n3, fun _ => hc.2, by show (0 : Int) ≤ 5 ∧ (5 : Int) ≤ 6; omega, fun q => absurd (show (5 : Int) ≤ 1 from q) (by decide)⟩, ?_⟩
    rw [hx]
    have := ndig_lo (digV c 10)
    show _ ≤ 6 * x.pc + (if x.gap then 2 else 0) + (if (5 : Int) = 1 then (1 : Int) else if (5 : Int) = 4 then x.dg else if (5 : Int) = 5 then 4 * x.nu + ndig (digV c 10) else _)
    rw [if_neg (by decide : ¬ (5 : Int) = 1), if_neg (by decide : ¬ (5 : Int) = 4), if_pos rfl]
    omega
  split at hy
  · rename_i hc
    obtain ⟨c1, c2, c3, c4⟩ := hc
    have hx : farP x = 6 * x.pc + (if x.gap then 2 else 0) + (4 * x.nu + ndig x.va) := by
      have hr : restP x = (4 * x.nu + ndig x.va) := by unfold restP; rw [if_neg (by omega), if_neg (by omega), if_pos c1]
      unfold farP
      rw [hr]
    rw [List.mem_singleton] at hy; subst hy
    refine ⟨⟨p0, p8, fun q => by have q' : x.wh = 4 := q; omega, n0, n3, fun _ => by show 0 ≤ 10 * x.va + digV c 10; omega, w, g1⟩, ?_⟩
    rw [hx]
    have hnd : ndig x.va + 1 ≤ ndig (10 * x.va + digV c 10) := by
      unfold ndig
      by_cases q1 : x.va < 10
      · rw [if_pos q1, if_neg (by omega)]
        split <;> omega
      · rw [if_neg q1, if_pos (by omega), if_neg (by omega), if_neg (by omega)]
        omega
    show _ ≤ 6 * x.pc + (if x.gap then 2 else 0) + (if x.wh = 1 then (1 : Int) else if x.wh = 4 then x.dg else if x.wh = 5 then 4 * x.nu + ndig (10 * x.va + digV c 10) else _)
    rw [if_neg (by omega : ¬ x.wh = 1), if_neg (by omega : ¬ x.wh = 4), if_pos c1]
    omega
  · cases hy
theorem states_short : ∀ (s : List UInt8) (l : List St) (k : Int) (i : Nat) (m : List St), l ≠ [] → (∀ x ∈ l, FarOk x ∧ k ≤ farP x) → statesV s l i = .inr m → k + (s.length : Int) ≤ 65
  | [], l, k, i, m, hn, h, _ => by
    cases l with
    | nil => exact absurd rfl hn
    | cons x l =>
      obtain ⟨a, b⟩ := h x (by simp)
      have := far_most a
      simp
      omega
  | c :: s, l, k, i, m, hn, h, hs => by
    rw [statesV] at hs
    split at hs
    · cases hs
    · rename_i hne
      have := states_short s _ (k + 1) _ m hne (fun y hy => by
        obtain ⟨x, hx, hy⟩ := List.mem_flatMap.1 hy
        obtain ⟨a, b⟩ := h x hx
        obtain ⟨a', b'⟩ := next_far a _ y hy
        exact ⟨a', by omega⟩) hs
      rw [List.length_cons]
      omega
/-- A text over which a reader comes to its end is short. -/
theorem parse_short {s : List UInt8} {m : List St} (h : statesV s [st0] 0 = .inr m) : s.length ≤ 65 := by
  have := states_short s [st0] 0 0 m (by simp) (fun x hx => by
    rw [List.mem_singleton.1 hx]
    exact ⟨⟨by decide, by decide, fun q => absurd (show (0 : Int) = 4 from q) (by decide), by decide, by decide, fun q => absurd (show (0 : Int) = 5 from q) (by decide), by decide, fun _ => rfl⟩, by decide⟩) h
  omega
end Go.Proofs.YtcgdjnmfeibnoaaDoor
/-! SixParse -/
namespace Go.Proofs.YtcgdjnmfeibnoaaDoor
open Go.RowKit Go.Proofs.YtcgdjnmfeibnoaaDoorW.PrintWords
set_option linter.unusedVariables false
set_option linter.unusedSimpArgs false
/-- The result's box is there, and all that was there. -/
structure PB (w w0 W : World) : Prop where
  box : w0.heap[w.heap.size]? = some (.cells (ar8 fun _ => 0) 24 (0, 0))
  below : Below w0.heap.size w0 W
  start : Below w.heap.size w w0
theorem PB.keep {w w0 W W' : World} (h : PB w w0 W) (hb : Below W.heap.size W W') : PB w w0 W' := ⟨h.box, h.below.trans (hb.mono h.below.size), h.start⟩
theorem PB.blk {w w0 W : World} (h : PB w w0 W) : W.heap[w.heap.size]? = some (.cells (ar8 fun _ => 0) 24 (0, 0)) := blk_below h.box h.below
theorem PB.all {w w0 W : World} (h : PB w w0 W) : Below w.heap.size w W := h.start.trans (h.below.mono h.start.size)
/-- What stands at the head of a round over the bytes. -/
def ORel (s : ByteArray) (w w0 : World) (v i : Value) (W : World) : Prop :=
  ∃ (n : Nat) (x : Sc) (l : List St), n ≤ s.size ∧ i = .int .i64 n ∧ statesV s.data.toList [st0] 0 = statesV (s.data.toList.drop n) l n ∧ Sim x l ∧ (∀ y ∈ l, StOk y) ∧ W.ownsRow w0.heap.size 80 6 v l.length (stCs l) ∧ PB w w0 W
/-- What stands at the head of a round over the states. -/
def NRel (W1 : World) (l : List St) (c : Int) (v k : Value) (W : World) : Prop :=
  ∃ n : Nat, n ≤ l.length ∧ k = .int .i64 n ∧ W.ownsRow W1.heap.size 80 6 v ((l.take n).flatMap (nextP · c)).length (stCs ((l.take n).flatMap (nextP · c))) ∧ Below W1.heap.size W1 W
theorem sim_len {x : Sc} {l : List St} (h : Sim x l) : l.length ≤ 2 := by cases h <;> simp
theorem next_len (x : St) (c : Int) : (nextP x c).length ≤ 2 := by
  have hb : (beginP x c).length ≤ 2 := by unfold beginP; rw [List.length_append]; repeat' split; all_goals simp
  unfold nextP
  repeat' split
  all_goals first | exact hb | simp
theorem flat_len (l : List St) (c : Int) : (l.flatMap (nextP · c)).length ≤ 2 * l.length := by
  induction l with
  | nil => simp
  | cons x l ih =>
    have := next_len x c
    rw [List.flatMap_cons, List.length_append, List.length_cons]
    omega
theorem ld8a {W : World} {b : Nat} {f : Nat → Int} (h : W.heap[b]? = some (.cells (ar8 f) 24 (0, 0))) : (loadVar 24 ⟨b, 0, none⟩).run Tryd.prog W = .ok (.agg (ar8 f)) W :=
  run_loadVar_row _ _ 24 24 _ (0, 0) _ h Tryd.underlying24 rfl (by kernel_rfl)
theorem parsed_of {s : ByteArray} {w W : World} {f F : Nat → Int} {a b : Int} (h : parseP s.data.toList = (F, a, b)) (hf : ∀ j, j < 8 → f j = F j) (hb : Below w.heap.size w W) : RefParsed s w (.returned (.tuple #[.agg (ar8 f), .int .i64 a, .int .i64 b])) W := by
  obtain ⟨h1, h2⟩ := parse_same s.data.toList
  rw [h] at h1 h2
  exact ⟨f, by rw [← h2], fun j hj => (hf j hj).trans (h1 j hj), hb⟩
theorem cut2_len (l : List UInt8) : (cut2 l).1.length ≤ l.length ∧ (cut2 l).2.1.length ≤ l.length := by
  induction l with
  | nil => exact ⟨Nat.le_refl _, Nat.le_refl _⟩
  | cons a l ih =>
    rw [cut2]
    split
    · exact ⟨Nat.zero_le _, by simp; omega⟩
    · exact ⟨by simp only [List.length_cons]; omega, by simp only [List.length_cons]; omega⟩
def off8 (n : Nat) : Nat := if n = 0 then 0 else 8 - n
theorem slice8 (b : Nat) : ∀ n : Nat, n ≤ 8 → ∀ W : World, (Instr.sliceAt 24 (.pointer (some ⟨b, 0, none⟩)) (some (.int .i64 (8 - (n : Int)))) none none).run Tryd.prog W = .ok (.slice (some ⟨b, off8 n, none⟩) n n) W
  | 0, _ => fun W => by kernel_rfl
  | 1, _ => fun W => by kernel_rfl
  | 2, _ => fun W => by kernel_rfl
  | 3, _ => fun W => by kernel_rfl
  | 4, _ => fun W => by kernel_rfl
  | 5, _ => fun W => by kernel_rfl
  | 6, _ => fun W => by kernel_rfl
  | 7, _ => fun W => by kernel_rfl
  | 8, _ => fun W => by kernel_rfl
  | n + 9, h => absurd h (by omega)
/-- The row behind both copies. -/
theorem rows_out {F B : List Int} (h : F.length + B.length ≤ 8) : splice (splice (List.replicate 8 (Value.int .u16 0)) 0 (F.map (Value.int .u16))) (8 - B.length) (B.map (Value.int .u16)) = (ar8 (outOf F B)).toList := by
  have e : (ar8 (outOf F B)).toList = (List.range 8).map fun j => Value.int .u16 (outOf F B j) := rfl
  rw [e]
  apply List.ext_getElem?
  intro j
  rw [List.getElem?_map]
  by_cases hj : j < 8
  · rw [List.getElem?_range hj]
    show _ = some (Value.int .u16 (outOf F B j))
    have hl : (splice (List.replicate 8 (Value.int .u16 0)) 0 (F.map (Value.int .u16))).length = 8 := by rw [length_splice _ _ _ (by simp; omega)]; simp
    unfold outOf
    by_cases hB : 8 - B.length ≤ j
    · rw [if_pos hB]
      unfold splice
      rw [List.getElem?_append_right (by rw [List.length_take]; simp; omega)]
      have hk : j - (8 - B.length) < B.length := by omega
      rw [List.length_take]
      rw [show min (8 - B.length) (List.take 0 (List.replicate 8 (Value.int .u16 0)) ++ (List.map (Value.int .u16) F ++ List.drop (0 + (List.map (Value.int .u16) F).length) (List.replicate 8 (Value.int .u16 0)))).length = 8 - B.length from by simp; omega]
      rw [List.getElem?_append_left (by rw [List.length_map]; exact hk), List.getElem?_map, List.getElem?_eq_getElem hk, List.getD_eq_getElem?_getD, List.getElem?_eq_getElem hk]
      rfl
    · rw [if_neg hB]
      generalize hsp : splice (List.replicate 8 (Value.int .u16 0)) 0 (F.map (Value.int .u16)) = R at *
      have hR : R = F.map (Value.int .u16) ++ List.replicate (8 - F.length) (Value.int .u16 0) := by
        rw [← hsp]
        show List.take 0 _ ++ (F.map (Value.int .u16) ++ List.drop (0 + (F.map (Value.int .u16)).length) (List.replicate 8 (Value.int .u16 0))) = _
        rw [List.drop_replicate, List.length_map, Nat.zero_add]
        rfl
      unfold splice
      rw [List.getElem?_append_left (by rw [List.length_take]; omega), List.getElem?_take, if_pos (by omega), hR]
      by_cases hF : j < F.length
      · rw [List.getElem?_append_left (by rw [List.length_map]; exact hF), List.getElem?_map, List.getElem?_eq_getElem hF, List.getD_eq_getElem?_getD, List.getElem?_eq_getElem hF]
        rfl
      · rw [List.getElem?_append_right (by rw [List.length_map]; omega), List.length_map, List.getElem?_replicate, if_pos (by omega), List.getD_eq_getElem?_getD, List.getElem?_eq_none (by omega)]
        rfl
  · rw [List.getElem?_eq_none (by
      rw [length_splice _ _ _ (by rw [length_splice _ _ _ (by simp; omega), List.length_map]; simp; omega), length_splice _ _ _ (by simp; omega)]
      simp
      omega), List.getElem?_eq_none (by simp; omega)]
    rfl
/-- Pieces that lie in a row. -/
def Cells16 (W : World) (A : Option Addr) (l : List Int) : Prop := 0 < l.length → ∃ ad, A = some ad ∧ ∀ j v, (l.map (Value.int .u16))[j]? = some v → W.cell? (ad.add j) = some v
theorem written_walk (t : ByteArray) (ht : t.size ≤ 4294967280) (w : World) (hG : GW w) : Calls Tryd.prog 46 #[.string t] w fun e w' => ∃ A c, e = .returned (.slice A (writtenV t.data.toList).length c) ∧ Cells16 w' A (writtenV t.data.toList) ∧ Below w.heap.size w w' := by
  obtain ⟨k, hk⟩ := (written_ev t ht).rounds
  refine (Go.Proofs.YtcgdjnmfeibnoaaDoor.X.six_written.calls k t _ w hG hk).mono ?_
  rintro e w' ⟨v, rfl, hR, hb⟩
  obtain ⟨A, c, rfl, _, hC⟩ := Kd.R_reads hR
  refine ⟨A, c, rfl, ?_, hb⟩
  intro hpos
  obtain ⟨ad, hA, _⟩ := Kd.at_int hC 0 (Int.le_refl _) (by omega)
  refine ⟨ad, hA, fun j v hv => ?_⟩
  have hj := (List.getElem?_eq_some_iff.1 hv).1
  rw [List.length_map] at hj
  obtain ⟨ad', hA', hc⟩ := Kd.at_int hC (j : Int) (by omega) (by omega)
  obtain rfl : ad = ad' := Option.some.inj (hA.symm.trans hA')
  rw [Int.toNat_natCast] at hc
  rw [hc]
  rw [List.getElem?_map, List.getElem?_eq_getElem hj] at hv
  rw [← Option.some.inj hv]
  unfold rd
  rw [Int.toNat_natCast, List.getD_eq_getElem?_getD, List.getElem?_eq_getElem hj]
  rfl
theorem cut_walk (s : ByteArray) (hs : s.size ≤ 4294967280) (w : World) (hG : GW w) : Calls Tryd.prog 45 #[.string s, .string ⟨#[58, 58]⟩] w fun e w' => e = .returned (.tuple #[.string (BA (cut2 s.data.toList).1), .string (BA (cut2 s.data.toList).2.1), .bool (cut2 s.data.toList).2.2]) ∧ Below w.heap.size w w' := by
  refine (strings_Cut.calls s ⟨#[58, 58]⟩ (BA (cut2 s.data.toList).1) (BA (cut2 s.data.toList).2.1) (cut2 s.data.toList).2.2 w hG ?_).mono fun e w' ⟨h1, h2⟩ => ⟨h1, h2.below⟩
  unfold strings_Cut.f
  rw [if_pos (.inl (by omega)), ← cut_58]
  rfl
set_option maxHeartbeats 4000000 in
set_option maxRecDepth 100000 in
theorem parse_walk (s : ByteArray) (hs : s.size ≤ 9223372036854775807) (w : World) (hG : GW w) : Calls Tryd.prog 15 #[.string s] w (RefParsed s w) := by
  have HZ := Lib.hid (size_len s)
  have HG := Lib.hid hG
  clear hG
  obtain ⟨i0, hi0, hz0, hz1, hz2⟩ := st_info
  have HI := Lib.hid hi0
  have HZ0 := Lib.hid hz0
  have HZ1 := Lib.hid hz1
  have HZ2 := Lib.hid hz2
  clear hi0 hz0 hz1 hz2
  go_enter Tryd.func15, Tryd.ntmps15
  go_upto_region 1 with fail
  have hPB : PB w (w.alloc (.cells #[.int .u16 0, .int .u16 0, .int .u16 0, .int .u16 0, .int .u16 0, .int .u16 0, .int .u16 0, .int .u16 0] 24)) (w.alloc (.cells #[.int .u16 0, .int .u16 0, .int .u16 0, .int .u16 0, .int .u16 0, .int .u16 0, .int .u16 0, .int .u16 0] 24)) := ⟨blk_new _ _, Below.refl _ _, (Below.refl _ _).alloc (Nat.le_refl _) _⟩
  generalize w.alloc (.cells #[.int .u16 0, .int .u16 0, .int .u16 0, .int .u16 0, .int .u16 0, .int .u16 0, .int .u16 0, .int .u16 0] 24) = w0 at *
  go_wp2_with fail
  go_loopw [5, 19] (fun v i W => ORel s w w0 v i W) (fun v i _ => s.size - (intOf i).toNat)
  case atStart =>
    refine ⟨0, sc0, [st0], Nat.zero_le _, rfl, rfl, sim0, fun y hy => by rw [List.mem_singleton.1 hy]; exact st0_ok, ?_, hPB.keep ((Below.refl _ _).alloc (Nat.le_refl _) _)⟩
    exact World.ownsRow_lit (base := w0.heap.size) (size := 6) (e := 80) w0 #[.int .i64 0, .int .i64 0, .bool false, .int .i64 0, .int .i64 0, .int .i64 0] 1 (Nat.le_refl _) (by unfold maxLen; omega) rfl
  case round =>
    obtain ⟨n, x, l, hn, rfl, hsv, hS, hok, hown, hP⟩ := hrel
    have hne := hS.ne
    have hl2 := sim_len hS
    obtain ⟨g, cap, rfl, hg0, hg1⟩ := own_head hown hne
    by_cases hlt : n < s.size
    · have hz := HZ.out
      have hd : s.data.toList.drop n = s[n] :: s.data.toList.drop (n + 1) := List.drop_eq_getElem_cons (by omega)
      rw [hd, statesV] at hsv
      have hst := step_sim hS ((s[n].toNat : Nat) : Int)
      have c1 : ((s[n].toNat : Nat) : Int) < 256 := by have := s[n].toNat_lt; omega
      have hltI : (n : Int) < s.size := by omega
      have HSV := Lib.hid hsv
      have HST := Lib.hid hst
      have HOK := Lib.hid hok
      have HOW := Lib.hid hown
      have HNE := Lib.hid hne
      clear hsv hst hok hown hd hz hne
      obtain ⟨W1, rfl⟩ : ∃ W, W = wr := ⟨_, rfl⟩
      go_wp2_with fail
      go_loopw [7, 24] (fun v k W => NRel W1 l ((s[n].toNat : Nat) : Int) v k W) (fun v k _ => l.length - (intOf k).toNat)
      case atStart => exact ⟨0, Nat.zero_le _, rfl, own_nil _ _ _ _, Below.refl _ _⟩
      case round =>
        obtain ⟨k, hk, rfl, hrow, hbi⟩ := hrel
        have HROW := Lib.hid hrow
        have hle := hbi.size
        clear hrow
        by_cases hkl : k < l.length
        · obtain ⟨y, ey⟩ : ∃ y, y = l[k] := ⟨_, rfl⟩
          have cell : ∀ (i : Nat) (u : Value), (stC y)[i]? = some u → wr.cell? ⟨g, k * 6 + i, none⟩ = some u := fun i u h => (hbi.cell (p := ⟨g, k * 6 + i, none⟩) hg1).trans (own_state HOW.out k hkl i u (by rw [← ey]; exact h))
          have c0 : wr.cell? ⟨g, k * 6, none⟩ = some (.int .i64 y.wh) := cell 0 _ rfl
          have c1' := cell 1 _ rfl
          have c2 := cell 2 _ rfl
          have c3 := cell 3 _ rfl
          have c4 := cell 4 _ rfl
          have c5 := cell 5 _ rfl
          have hyo := HOK.out y (by rw [ey]; exact List.getElem_mem _)
          have HYO := Lib.hid hyo
          have EY := Lib.hid ey
          have hgl : g < wr.heap.size := by omega
          clear ey hyo cell
          go_wp2_with fail
          have hbk : (wr.alloc (.cells #[.int .i64 y.wh, .int .i64 y.pc, .bool y.gap, .int .i64 y.dg, .int .i64 y.nu, .int .i64 y.va] 80)).heap[wr.heap.size]? = some (.cells #[.int .i64 y.wh, .int .i64 y.pc, .bool y.gap, .int .i64 y.dg, .int .i64 y.nu, .int .i64 y.va] 80 (0, 0)) := blk_new _ _
          have HROW2 := Lib.hid (HROW.out.alloc (.cells #[.int .i64 y.wh, .int .i64 y.pc, .bool y.gap, .int .i64 y.dg, .int .i64 y.nu, .int .i64 y.va] 80))
          have hbw : Below W1.heap.size W1 (wr.alloc (.cells #[.int .i64 y.wh, .int .i64 y.pc, .bool y.gap, .int .i64 y.dg, .int .i64 y.nu, .int .i64 y.va] 80)) := hbi.alloc hle _
          have hlk := blk_lt hbk
          have hnb : u7.ownBlock ≠ some wr.heap.size := fun e => Nat.lt_irrefl _ (HROW.out.lt _ e).2
          have HNB := Lib.hid hnb
          clear hnb
          generalize wr.heap.size = b at *
          generalize wr.alloc (.cells #[.int .i64 y.wh, .int .i64 y.pc, .bool y.gap, .int .i64 y.dg, .int .i64 y.nu, .int .i64 y.va] 80) = WA at *
          have hle2 := hbw.size
          clear c0 c1' c2 c3 c4 c5
          have d0 : WA.cell? ⟨b, 0, none⟩ = some (.int .i64 y.wh) := (blk_cell hbk 0).trans rfl
          have d1 : WA.cell? ⟨b, 1, none⟩ = some (.int .i64 y.pc) := (blk_cell hbk 1).trans rfl
          have d2 : WA.cell? ⟨b, 2, none⟩ = some (.bool y.gap) := (blk_cell hbk 2).trans rfl
          have d3 : WA.cell? ⟨b, 3, none⟩ = some (.int .i64 y.dg) := (blk_cell hbk 3).trans rfl
          have d4 : WA.cell? ⟨b, 4, none⟩ = some (.int .i64 y.nu) := (blk_cell hbk 4).trans rfl
          have d5 : WA.cell? ⟨b, 5, none⟩ = some (.int .i64 y.va) := (blk_cell hbk 5).trans rfl
          clear hbk
          have hlen := flat_len (l.take k) ((s[n].toNat : Nat) : Int)
          have hnl := next_len y ((s[n].toNat : Nat) : Int)
          have hlk2 : (l.take k).length ≤ 2 := by rw [List.length_take]; omega
          generalize hrows : (l.take k).flatMap (nextP · ((s[n].toNat : Nat) : Int)) = rows at *
          generalize hnews : nextP y ((s[n].toNat : Nat) : Int) = news at *
          have HROWS := Lib.hid hrows
          have HNEWS := Lib.hid hnews
          clear hrows
          have HN : Hid (∀ W, Calls Tryd.prog 42 #[stV y, .int .u8 ((s[n].toNat : Nat) : Int)] W (StRow W news)) := Lib.hid (fun W => by rw [← hnews]; exact next_walk y HYO.out.w0 HYO.out.w6 HYO.out.p0 (by have := HYO.out.p8; omega) HYO.out.d0 HYO.out.n0 HYO.out.v0 (by have := HYO.out.v1; omega) _ (by omega) c1 W)
          clear hnews
          go_region_held3 (fun w' => w'.cell? ⟨b, 0, none⟩ = some (.int .i64 y.wh) ∧ w'.cell? ⟨b, 1, none⟩ = some (.int .i64 y.pc) ∧ w'.cell? ⟨b, 2, none⟩ = some (.bool y.gap) ∧ w'.cell? ⟨b, 3, none⟩ = some (.int .i64 y.dg) ∧ w'.cell? ⟨b, 4, none⟩ = some (.int .i64 y.nu) ∧ w'.cell? ⟨b, 5, none⟩ = some (.int .i64 y.va))
            (first | go_keep | (go_split_ands; refine ⟨?_, ?_, ?_, ?_, ?_, ?_⟩ <;> (rw [hgrow.cell_far _ (Nat.lt_of_lt_of_le hlk hb3.size) (Ne.symm HNB.out)]; assumption)))
            (first
              | (go_at_call 42
                 refine (HN.out _).mono ?_
                 rintro e w3 ⟨u, rfl, ho3, hb3⟩
                 have hcc : ∀ (q o : Nat), q < WA.heap.size → w3.cell? ⟨q, o, none⟩ = WA.cell? ⟨q, o, none⟩ := fun q o h => hb3.cell (p := ⟨q, o, none⟩) h)
              | (revert hb3
                 intro hb3
                 refine step_app_row (by rfl) (.tmp 28) (.tmp 33) 81 (by rfl) W1.heap.size 80 i0 (.agg #[.int .i64 0, .int .i64 0, .bool false, .int .i64 0, .int .i64 0, .int .i64 0]) 6 48 Tryd.underlying81 HI.out HZ0.out HZ1.out HZ2.out rfl (by decide) u7 rows.length (stCs rows) (by rfl) (own_belowS HROW2.out.drew hb3) u WA.heap.size news.length (stCs news) (by rfl) ho3 (stCs_one _) (by unfold maxLen; omega) (by omega) (Nat.le_trans hle2 hb3.size) ?_
                 intro v4 w4 hown4 hbel4 hgrow))
          rename_i hHeld
          clear hHeld
          go_wp2_with fail
          have hnow : (l.take (k + 1)).flatMap (nextP · ((s[n].toNat : Nat) : Int)) = rows ++ news := by
            rw [List.take_succ_eq_append_getElem hkl, List.flatMap_append, HROWS.out, ← EY.out]
            show rows ++ (nextP y ((s[n].toNat : Nat) : Int) ++ []) = _
            rw [List.append_nil, HNEWS.out]
          refine ⟨⟨k + 1, by omega, by go_num, ?_, hbel4 _ _ (Nat.le_refl _) ((bdn hbw 1).trans (hb3.mono hle2))⟩, ?_⟩
          · rw [hnow, List.length_append, stCs_app]
            exact hown4
          · simp [intOf]; omega
        · obtain rfl : k = l.length := by omega
          have hP2 := hP.keep hbi
          have hrow := HROW.out
          rw [List.take_length] at hrow
          obtain ⟨L, hL⟩ : ∃ L, L = l.flatMap (nextP · ((s[n].toNat : Nat) : Int)) := ⟨_, rfl⟩
          rw [← hL] at hrow
          have HL := Lib.hid hL
          clear hL HROW
          obtain ⟨A, cc, rfl⟩ := own_slice hrow
          have HR2 := Lib.hid hrow
          have hP3 := Lib.hid hP2
          have hb2 := hP2.blk
          clear hrow hP2
          by_cases hLn : L = []
          · subst hLn
            have y0 : wr.cell? ⟨w.heap.size, 0, none⟩ = some (.int .u16 0) := (blk_cell hb2 0).trans rfl
            have v0 : wr.frozen? ⟨w.heap.size, 0, none⟩ = false := blk_frozen hb2 0
            have y1 : wr.cell? ⟨w.heap.size, 1, none⟩ = some (.int .u16 0) := (blk_cell hb2 1).trans rfl
            have v1 : wr.frozen? ⟨w.heap.size, 1, none⟩ = false := blk_frozen hb2 1
            have y2 : wr.cell? ⟨w.heap.size, 2, none⟩ = some (.int .u16 0) := (blk_cell hb2 2).trans rfl
            have v2 : wr.frozen? ⟨w.heap.size, 2, none⟩ = false := blk_frozen hb2 2
            have y3 : wr.cell? ⟨w.heap.size, 3, none⟩ = some (.int .u16 0) := (blk_cell hb2 3).trans rfl
            have v3 : wr.frozen? ⟨w.heap.size, 3, none⟩ = false := blk_frozen hb2 3
            have y4 : wr.cell? ⟨w.heap.size, 4, none⟩ = some (.int .u16 0) := (blk_cell hb2 4).trans rfl
            have v4 : wr.frozen? ⟨w.heap.size, 4, none⟩ = false := blk_frozen hb2 4
            have y5 : wr.cell? ⟨w.heap.size, 5, none⟩ = some (.int .u16 0) := (blk_cell hb2 5).trans rfl
            have v5 : wr.frozen? ⟨w.heap.size, 5, none⟩ = false := blk_frozen hb2 5
            have y6 : wr.cell? ⟨w.heap.size, 6, none⟩ = some (.int .u16 0) := (blk_cell hb2 6).trans rfl
            have v6 : wr.frozen? ⟨w.heap.size, 6, none⟩ = false := blk_frozen hb2 6
            have y7 : wr.cell? ⟨w.heap.size, 7, none⟩ = some (.int .u16 0) := (blk_cell hb2 7).trans rfl
            have v7 : wr.frozen? ⟨w.heap.size, 7, none⟩ = false := blk_frozen hb2 7
            go_wp2_with fail
            try simp only [Exit.inBlock, Exit.then]
            refine bodyPost_ret (results_cell3 rfl rfl (ld8a (blk_put8 hb2 (fun _ => 0)))) rfl ?_
            refine parsed_of (f := fun _ => 0) (F := fun _ => 0) (a := n) (b := 210) ?_ (fun _ _ => rfl) (below_put8 hP3.out.all (Nat.le_refl _) _ _ _ _ _ _ _ _)
            unfold parseP
            rw [HSV.out, ← HL.out, if_pos rfl]
          · have hLl : L.length ≠ 0 := fun e => hLn (List.eq_nil_of_length_eq_zero e)
            have hL0 : (L.length == 0) = false := beq_eq_false_iff_ne.2 hLl
            go_wp2_with fail
            refine ⟨⟨n + 1, x.step ((s[n].toNat : Nat) : Int), L, by omega, by go_num, by rw [HSV.out, ← HL.out, if_neg hLn], ?_, ?_, own_base HR2.out hP.below.size, hP3.out⟩, by simp [intOf]; omega⟩
            · rcases HST.out with q | q
              · exact absurd (HL.out.trans q.2) hLn
              · rw [HL.out]; exact q.2
            · rw [HL.out]; exact all_ok HOK.out _
    · obtain rfl : n = s.size := by omega
      have hz := HZ.out
      have hsv' : statesV s.data.toList [st0] 0 = .inr l := hsv.trans (by rw [List.drop_of_length_le (by omega)]; rfl)
      have HSV := Lib.hid hsv'
      have HAC := Lib.hid (any_walk g cap w0.heap.size l wr hne (by omega) hown)
      clear hsv hsv' hown hz hok hlt
      go_wp2_with fail
      refine HAC.out.mono ?_
      rintro e w2 ⟨rfl, hb2⟩
      have hP2 := hP.keep hb2
      generalize hany : l.any endsP = any at *
      have HANY := Lib.hid hany
      clear hany HAC hb2
      cases any
      · have hk2 := hP2.blk
        have y0 : w2.cell? ⟨w.heap.size, 0, none⟩ = some (.int .u16 0) := (blk_cell hk2 0).trans rfl
        have v0 : w2.frozen? ⟨w.heap.size, 0, none⟩ = false := blk_frozen hk2 0
        have y1 : w2.cell? ⟨w.heap.size, 1, none⟩ = some (.int .u16 0) := (blk_cell hk2 1).trans rfl
        have v1 : w2.frozen? ⟨w.heap.size, 1, none⟩ = false := blk_frozen hk2 1
        have y2 : w2.cell? ⟨w.heap.size, 2, none⟩ = some (.int .u16 0) := (blk_cell hk2 2).trans rfl
        have v2 : w2.frozen? ⟨w.heap.size, 2, none⟩ = false := blk_frozen hk2 2
        have y3 : w2.cell? ⟨w.heap.size, 3, none⟩ = some (.int .u16 0) := (blk_cell hk2 3).trans rfl
        have v3 : w2.frozen? ⟨w.heap.size, 3, none⟩ = false := blk_frozen hk2 3
        have y4 : w2.cell? ⟨w.heap.size, 4, none⟩ = some (.int .u16 0) := (blk_cell hk2 4).trans rfl
        have v4 : w2.frozen? ⟨w.heap.size, 4, none⟩ = false := blk_frozen hk2 4
        have y5 : w2.cell? ⟨w.heap.size, 5, none⟩ = some (.int .u16 0) := (blk_cell hk2 5).trans rfl
        have v5 : w2.frozen? ⟨w.heap.size, 5, none⟩ = false := blk_frozen hk2 5
        have y6 : w2.cell? ⟨w.heap.size, 6, none⟩ = some (.int .u16 0) := (blk_cell hk2 6).trans rfl
        have v6 : w2.frozen? ⟨w.heap.size, 6, none⟩ = false := blk_frozen hk2 6
        have y7 : w2.cell? ⟨w.heap.size, 7, none⟩ = some (.int .u16 0) := (blk_cell hk2 7).trans rfl
        have v7 : w2.frozen? ⟨w.heap.size, 7, none⟩ = false := blk_frozen hk2 7
        go_wp2_with fail
        try simp only [Exit.inBlock, Exit.then]
        refine bodyPost_ret (results_cell3 rfl rfl (ld8a (blk_put8 hk2 (fun _ => 0)))) rfl ?_
        refine parsed_of (f := fun _ => 0) (F := fun _ => 0) (a := s.size) (b := 210) ?_ (fun _ _ => rfl) (below_put8 hP2.all (Nat.le_refl _) _ _ _ _ _ _ _ _)
        unfold parseP
        rw [HSV.out]
        simp only
        rw [HANY.out, if_neg (by decide), HZ.out]
      · have hfit := parse_fits s.data.toList l HSV.out HANY.out
        have hcl := cut2_len s.data.toList
        have hzz := HZ.out
        have hshort := parse_short HSV.out
        have hs' : s.size ≤ 65 := by omega
        have HCUT := Lib.hid (cut_walk s (by omega) w2 (HG.out.keep hP2.all))
        have HPV : Hid (parseP s.data.toList = (outOf (writtenV (cut2 s.data.toList).1) (writtenV (cut2 s.data.toList).2.1), 0, 0)) := Lib.hid (by
          unfold parseP
          rw [HSV.out]
          simp only
          rw [HANY.out, if_pos rfl])
        have hW1 := fun w hG => written_walk (BA (cut2 s.data.toList).1) (by rw [ba_size]; omega) w hG
        have hW2 := fun w hG => written_walk (BA (cut2 s.data.toList).2.1) (by rw [ba_size]; omega) w hG
        rw [ba_list] at hW1 hW2
        generalize (cut2 s.data.toList).1 = front at *
        generalize (cut2 s.data.toList).2.1 = back at *
        generalize (cut2 s.data.toList).2.2 = found at *
        generalize writtenV front = F at *
        generalize writtenV back = B at *
        have HW1 := Lib.hid hW1
        have HW2 := Lib.hid hW2
        clear hW1 hW2 hzz hcl
        go_wp2_with fail
        refine HCUT.out.mono ?_
        rintro e w3 ⟨rfl, hb3⟩
        have hP3 := hP2.keep hb3
        clear hb3 HCUT
        go_wp2_with fail
        have hP4 := hP3.keep ((Below.refl _ _).alloc (Nat.le_refl _) (.cells (ar8 fun _ => 0) 24))
        have hk4 : (w3.alloc (.cells (ar8 fun _ => 0) 24)).heap[w3.heap.size]? = some (.cells (((List.replicate 8 (Value.int .u16 0)) : List Value).toArray) 24 (0, 0)) := blk_new _ _
        have hle4 : w0.heap.size ≤ w3.heap.size := hP3.below.size
        have hwb : w.heap.size < w3.heap.size := blk_lt hP3.blk
        show (Code.region 19 _ true).wp Tryd.prog _ _ (w3.alloc (.cells (ar8 fun _ => 0) 24))
        generalize w3.heap.size = b at *
        generalize w3.alloc (.cells (ar8 fun _ => 0) 24) = WA at *
        have hbl := blk_lt hk4
        have HP4 := Lib.hid hP4
        have HK4 := Lib.hid hk4
        clear hP4 hk4 hP3
        go_region_held3 (fun w' => True) (trivial)
          (first
            | (go_at_call 46
               refine (HW1.out _ (HG.out.keep (bdn HP4.out.all 1))).mono ?_
               rintro e w5 ⟨A1, k1, rfl, hc1, hb5⟩)
            | (revert hb5
               intro hb5
               refine step_copy_splice (by rfl) (.tmp 55) (.tmp 57) 87 87 (by rfl) 22 Tryd.underlying87 (by kernel_rfl) (some ⟨b, 0, none⟩) A1 8 8 F.length k1 (by rfl) (by rfl) b 0 (List.replicate 8 (Value.int .u16 0)) 24 (blk_below HK4.out ((bdn (Below.refl _ _) 1).trans hb5)) (F.map (Value.int .u16)) (by rw [List.length_map]; exact (Nat.min_eq_left (by omega)).symm) (fun hp => ⟨rfl, hc1 (by rw [List.length_map] at hp; exact hp)⟩) (by simp; omega) (by intro v hv; obtain ⟨x, _, rfl⟩ := List.mem_map.1 hv; rfl) w0.heap.size w0 (HP4.out.keep ((bdn (Below.refl _ _) 1).trans hb5)).below hle4 ?_
               intro w6 hg6 hB6))
        rename_i hHeld
        clear hHeld hc1 hb5
        have hP6 : PB w w0 w6 := ⟨hP.box, hB6, hP.start⟩
        clear hB6
        generalize hrow : splice (List.replicate 8 (Value.int .u16 0)) 0 (F.map (Value.int .u16)) = row1 at *
        have hr1 : row1.length = 8 := by rw [← hrow, length_splice _ _ _ (by simp; omega)]; simp
        have HROW1 := Lib.hid hrow
        have HR1 := Lib.hid hr1
        clear hrow hr1
        go_wp2_with fail
        refine (HW2.out _ (HG.out.keep hP6.all)).mono ?_
        rintro e w7 ⟨A2, k2, rfl, hc2, hb7⟩
        have hP7 := hP6.keep hb7
        have hk7 := blk_below hg6.out hb7
        have HC2 := Lib.hid hc2
        have HP7 := Lib.hid hP7
        have HK7 := Lib.hid hk7
        clear hc2 hb7 hg6 hP6 hP7 hk7
        have hB8 : B.length ≤ 8 := by omega
        have hB8' : (B.length : Int) ≤ 8 := by omega
        have hsl := slice8 b B.length hB8
        go_wp2_with (with_reducible refine wpList_copy_splice (o := ⟨some 66, _, _, _, _, _⟩) rfl (.tmp 64) (.tmp 65) 87 87 rfl 22 ?u ?sz (some ⟨b, off8 B.length, none⟩) A2 B.length B.length B.length k2 rfl rfl b (8 - B.length) row1 24 HK7.out (B.map (Value.int .u16)) ?hn ?hpos ?hfit ?h1 w0.heap.size w0 ?hb hle4 ?_)
        case u => exact Tryd.underlying87
        case sz => kernel_rfl
        case hn => rw [List.length_map]; exact (Nat.min_self _).symm
        case hpos =>
          intro hp
          rw [List.length_map] at hp
          exact ⟨by unfold off8; rw [if_neg (by omega)], HC2.out hp⟩
        case hfit => rw [List.length_map, HR1.out]; omega
        case h1 =>
          intro v hv
          obtain ⟨x, _, rfl⟩ := List.mem_map.1 hv
          rfl
        case hb => exact HP7.out.below
        intro w9 hg9 hB9
        have hP9 : PB w w0 w9 := ⟨hP.box, hB9, hP.start⟩
        obtain ⟨f, hf⟩ : ∃ f, f = outOf F B := ⟨_, rfl⟩
        have hk9 : w9.heap[b]? = some (.cells (ar8 f) 24 (0, 0)) := by rw [hg9.out, ← HROW1.out, rows_out hfit, hf, Array.toArray_toList]
        have hk9w := hP9.blk
        have HF := Lib.hid hf
        have hne9 : ¬ b = w.heap.size := by omega
        have hne9' : ¬ w.heap.size = b := by omega
        clear hsl hg9 hB9 HK7 HP7 hf
        have y0 : w9.cell? ⟨w.heap.size, 0, none⟩ = some (.int .u16 0) := (blk_cell hk9w 0).trans rfl
        have v0 : w9.frozen? ⟨w.heap.size, 0, none⟩ = false := blk_frozen hk9w 0
        have z0 : w9.cell? ⟨b, 0, none⟩ = some (.int .u16 (f 0)) := (blk_cell hk9 0).trans rfl
        have y1 : w9.cell? ⟨w.heap.size, 1, none⟩ = some (.int .u16 0) := (blk_cell hk9w 1).trans rfl
        have v1 : w9.frozen? ⟨w.heap.size, 1, none⟩ = false := blk_frozen hk9w 1
        have z1 : w9.cell? ⟨b, 1, none⟩ = some (.int .u16 (f 1)) := (blk_cell hk9 1).trans rfl
        have y2 : w9.cell? ⟨w.heap.size, 2, none⟩ = some (.int .u16 0) := (blk_cell hk9w 2).trans rfl
        have v2 : w9.frozen? ⟨w.heap.size, 2, none⟩ = false := blk_frozen hk9w 2
        have z2 : w9.cell? ⟨b, 2, none⟩ = some (.int .u16 (f 2)) := (blk_cell hk9 2).trans rfl
        have y3 : w9.cell? ⟨w.heap.size, 3, none⟩ = some (.int .u16 0) := (blk_cell hk9w 3).trans rfl
        have v3 : w9.frozen? ⟨w.heap.size, 3, none⟩ = false := blk_frozen hk9w 3
        have z3 : w9.cell? ⟨b, 3, none⟩ = some (.int .u16 (f 3)) := (blk_cell hk9 3).trans rfl
        have y4 : w9.cell? ⟨w.heap.size, 4, none⟩ = some (.int .u16 0) := (blk_cell hk9w 4).trans rfl
        have v4 : w9.frozen? ⟨w.heap.size, 4, none⟩ = false := blk_frozen hk9w 4
        have z4 : w9.cell? ⟨b, 4, none⟩ = some (.int .u16 (f 4)) := (blk_cell hk9 4).trans rfl
        have y5 : w9.cell? ⟨w.heap.size, 5, none⟩ = some (.int .u16 0) := (blk_cell hk9w 5).trans rfl
        have v5 : w9.frozen? ⟨w.heap.size, 5, none⟩ = false := blk_frozen hk9w 5
        have z5 : w9.cell? ⟨b, 5, none⟩ = some (.int .u16 (f 5)) := (blk_cell hk9 5).trans rfl
        have y6 : w9.cell? ⟨w.heap.size, 6, none⟩ = some (.int .u16 0) := (blk_cell hk9w 6).trans rfl
        have v6 : w9.frozen? ⟨w.heap.size, 6, none⟩ = false := blk_frozen hk9w 6
        have z6 : w9.cell? ⟨b, 6, none⟩ = some (.int .u16 (f 6)) := (blk_cell hk9 6).trans rfl
        have y7 : w9.cell? ⟨w.heap.size, 7, none⟩ = some (.int .u16 0) := (blk_cell hk9w 7).trans rfl
        have v7 : w9.frozen? ⟨w.heap.size, 7, none⟩ = false := blk_frozen hk9w 7
        have z7 : w9.cell? ⟨b, 7, none⟩ = some (.int .u16 (f 7)) := (blk_cell hk9 7).trans rfl
        go_wp2_with fail
        try simp only [Exit.inBlock, Exit.then]
        refine bodyPost_ret (results_cell3 rfl rfl (ld8a (blk_put8 hk9w f))) rfl ?_
        exact parsed_of HPV.out (fun j _ => by rw [HF.out]) (below_put8 hP9.all (Nat.le_refl _) _ _ _ _ _ _ _ _)
end Go.Proofs.YtcgdjnmfeibnoaaDoor
/-! Builder -/
namespace Go.Proofs.YtcgdjnmfeibnoaaDoor
open Go.RowKit
set_option linter.unusedVariables false
set_option linter.unusedSimpArgs false
theorem bld_size : (Tryd.prog.info? 126).map (·.size) = some 2 := by kernel_rfl
theorem bld_lies : liesAt Tryd.prog Tryd.prog.depth 126 (2 / Tryd.prog.cellsOf 126) 0 126 1 = true := by kernel_rfl
theorem byte_info : (Tryd.prog.info? 5).map (fun i => (i.zero, i.size, i.bytes)) = some (some (.int .u8 0), 1, 1) := by kernel_rfl
theorem bld_ne : (126 : Nat) ≠ 5 := by decide
/-- A builder of this program. -/
abbrev IsB (B b : Nat) (bs : List Value) (w : World) : Prop := Lib.IsBuilder 126 5 B b bs w
/-- .. that has been written to. -/
abbrev AtB (B b : Nat) (bs : List Value) (w : World) : Prop := Lib.BuilderAt 126 5 B b (.pointer (some ⟨b, 0, none⟩)) bs w
set_option maxHeartbeats 1000000 in
set_option maxRecDepth 100000 in
theorem copyCheck_old (b : Nat) (w : World) (h0 : w.cell? ⟨b, 0, none⟩ = some (.pointer (some ⟨b, 0, none⟩))) :
    Calls Tryd.prog 113 #[.pointer (some ⟨b, 0, none⟩)] w fun e w' => e = .returned (.tuple #[]) ∧ w = w' := by
  obtain ⟨j, hj, _⟩ := Option.map_eq_some_iff.1 bld_size
  go_enter Tryd.func113, Tryd.ntmps113
  go_wp2
  rw [Lib.run_neq_ptr_same w _ Tryd.underlying123 hj]
  go_wp2
  go_end0
  exact ⟨rfl, rfl⟩
set_option maxHeartbeats 1000000 in
set_option maxRecDepth 100000 in
theorem copyCheck_new (b : Nat) (w : World) (h0 : w.cell? ⟨b, 0, none⟩ = some (.pointer none)) (hsh : w.shape? b = some (126, 2)) (hfz : w.frozen? ⟨b, 0, none⟩ = false) :
    Calls Tryd.prog 113 #[.pointer (some ⟨b, 0, none⟩)] w fun e w' => e = .returned (.tuple #[]) ∧ w.setCell ⟨b, 0, none⟩ (.pointer (some ⟨b, 0, none⟩)) = w' := by
  obtain ⟨j, hj, hjs⟩ := Option.map_eq_some_iff.1 bld_size
  go_enter Tryd.func113, Tryd.ntmps113
  go_wp2
  rw [Lib.run_to_unsafe w ⟨b, 0, none⟩ Tryd.underlying123 Tryd.underlying186 hj (by rw [hjs]; decide) hsh (Nat.zero_lt_succ 1)]
  simp only [Result.andThen]
  rw [Oper.upon_value]
  go_wp2
  rw [run_callFunc_extern Tryd.func142 (by kernel_rfl) (by kernel_rfl) (by kernel_rfl) (e := Extern.AbiNoEscape.same) (by kernel_rfl)]
  rw [Lib.run_noEscape]
  simp only [Result.andThen]
  rw [Oper.upon_value]
  go_wp2
  rw [Lib.run_from_unsafe w ⟨b, 0, none⟩ Tryd.underlying186 Tryd.underlying123 hj hsh bld_lies]
  simp only [Result.andThen]
  rw [Oper.upon_value]
  go_wp2
  go_end0
  exact ⟨rfl, rfl⟩
theorem copyCheck_walk (B b : Nat) (bs : List Value) (w : World) (h : IsB B b bs w) :
    Calls Tryd.prog 113 #[.pointer (some ⟨b, 0, none⟩)] w fun e w' => e = .returned (.tuple #[]) ∧ AtB B b bs w' ∧ Below B w w' := by
  rcases h with h | h
  · exact (copyCheck_new b w h.cell0 h.shape h.frozen0).mono fun e w' ⟨he, hw⟩ => ⟨he, hw ▸ h.used _, hw ▸ (Below.refl B w).setCell (p := ⟨b, 0, none⟩) h.1 _⟩
  · exact (copyCheck_old b w h.cell0).mono fun e w' ⟨he, hw⟩ => ⟨he, hw ▸ h, hw ▸ Below.refl B w⟩
/-- What a used builder's block gives a walk. -/
theorem atB_open {B b : Nat} {bs : List Value} {w : World} (h : AtB B b bs w) : ∃ v, B ≤ b ∧ b < w.heap.size ∧ w.heap[b]? = some (.cells #[.pointer (some ⟨b, 0, none⟩), v] 126 (0, 0)) ∧ w.ownsRow B 5 1 v bs.length bs ∧ v.ownBlock ≠ some b ∧
    w.cell? ⟨b, 0, none⟩ = some (.pointer (some ⟨b, 0, none⟩)) ∧ w.cell? ⟨b, 1, none⟩ = some v ∧ w.frozen? ⟨b, 1, none⟩ = false := by
  have hlt := h.lt
  obtain ⟨hB, v, hbk, hown, hne⟩ := h
  exact ⟨v, hB, hlt, hbk, hown, hne, by rw [Lib.cell_of_heap hbk]; rfl, by rw [Lib.cell_of_heap hbk]; rfl, Lib.frozen_of_heap hbk 1⟩
set_option maxHeartbeats 2000000 in
set_option maxRecDepth 100000 in
theorem writeByte_walk (B b : Nat) (bs : List Value) (c : Int) (w : World) (h : IsB B b bs w) (hlen : bs.length + 1 ≤ 140737488355328) (hBw : B ≤ w.heap.size) :
    Calls Tryd.prog 77 #[.pointer (some ⟨b, 0, none⟩), .int .u8 c] w fun e w' => e = .returned .nilIface ∧ AtB B b (bs ++ [.int .u8 c]) w' ∧ Below B w w' := by
  obtain ⟨i0, hi, hz0, hz1, hz2⟩ := info_parts byte_info
  go_enter Tryd.func77, Tryd.ntmps77
  go_wp2_with fail
  refine (copyCheck_walk B b bs _ h).mono ?_
  rintro e w1 ⟨rfl, h1, hb1⟩
  obtain ⟨v, hB, hlt, hbk, hown, hne, c0, c1, f1⟩ := atB_open h1
  have hs1 := hb1.size
  go_wp2_with (at_builtin; refine wpList_append_own _ rfl _ _ 124 rfl B 5 i0 (.int .u8 0) 1 1 Tryd.underlying124 hi hz0 hz1 hz2 rfl (by decide) _ _ _ rfl (hown.alloc _) ⟨w1.heap.size, 0, none⟩ 1 1 [.int .u8 c] rfl rfl ?c1 ?c2 ?c3 ?c4 ?c5 ?_)
  case c1 =>
    intro j u hj
    match j, hj with
    | 0, hj => simp at hj; subst hj; simp [Addr.add]
  case c2 => intro u hu; simp at hu; subst hu; rfl
  case c3 => unfold maxLen; omega
  case c4 => omega
  case c5 => simp; omega
  intro v' w2 hown' hgrow _
  have hb2 : w2.heap[b]? = some (.cells #[.pointer (some ⟨b, 0, none⟩), v] 126 (0, 0)) := by
    rw [hgrow.block b (by simp; omega) (fun e => hne e.symm), Lib.alloc_old w1 _ b hlt]
    exact hbk
  have d1 : w2.cell? ⟨b, 1, none⟩ = some v := by rw [Lib.cell_of_heap hb2]; rfl
  have f2 : w2.frozen? ⟨b, 1, none⟩ = false := Lib.frozen_of_heap hb2 1
  obtain ⟨g, cap, rfl⟩ : ∃ g cap, v' = .slice (some ⟨g, 0, none⟩) (bs.length + 1) cap := by
    rcases hown'.2 with ⟨_, h0⟩ | ⟨g, cap, cur, hv, _⟩
    · omega
    · exact ⟨g, cap, hv⟩
  go_wp2
  go_ret
  refine ⟨rfl, ?_, ?_⟩
  · exact Lib.BuilderAt.put hB hb2 (bs' := bs ++ [.int .u8 c]) (by simpa using hown') bld_ne
  · exact ((hb1.alloc (by omega) _).grown hgrow (by simp; omega) (fun k hk => (hown.lt k hk).1)).setCell (p := ⟨b, 1, none⟩) hB _
set_option maxHeartbeats 2000000 in
set_option maxRecDepth 100000 in
theorem writeString_walk (B b : Nat) (bs : List Value) (s : ByteArray) (w : World) (h : IsB B b bs w) (hlen : bs.length + s.size ≤ 140737488355328) (hBw : B ≤ w.heap.size) :
    Calls Tryd.prog 97 #[.pointer (some ⟨b, 0, none⟩), .string s] w fun e w' => e = .returned (.tuple #[.int .i64 s.size, .nilIface]) ∧ AtB B b (bs ++ Lib.strCells s) w' ∧ Below B w w' := by
  obtain ⟨i0, hi, hz0, hz1, hz2⟩ := info_parts byte_info
  go_enter Tryd.func97, Tryd.ntmps97
  go_wp2_with fail
  refine (copyCheck_walk B b bs _ h).mono ?_
  rintro e w1 ⟨rfl, h1, hb1⟩
  obtain ⟨v, hB, hlt, hbk, hown, hne, c0, c1, f1⟩ := atB_open h1
  have hs1 := hb1.size
  go_wp2_with (at_builtin; refine Lib.wpList_append_own_string _ rfl _ _ 124 9 rfl B 5 i0 Tryd.underlying124 Tryd.underlying9 hi hz0 hz1 hz2 _ _ _ rfl hown s rfl ?c3 ?c4 ?c5 ?_)
  case c3 => unfold maxLen; omega
  case c4 => omega
  case c5 => omega
  intro v' w2 hown' hgrow _
  have hb2 : w2.heap[b]? = some (.cells #[.pointer (some ⟨b, 0, none⟩), v] 126 (0, 0)) := by
    rw [hgrow.block b hlt (fun e => hne e.symm)]
    exact hbk
  have d1 : w2.cell? ⟨b, 1, none⟩ = some v := by rw [Lib.cell_of_heap hb2]; rfl
  have f2 : w2.frozen? ⟨b, 1, none⟩ = false := Lib.frozen_of_heap hb2 1
  obtain ⟨ao, n', cap, rfl⟩ : ∃ ao n' cap, v' = .slice ao n' cap := by
    rcases hown'.2 with ⟨hv, _⟩ | ⟨g, cap, cur, hv, _⟩
    · exact ⟨_, _, _, hv⟩
    · exact ⟨_, _, _, hv⟩
  go_wp2
  go_ret2
  refine ⟨rfl, ?_, ?_⟩
  · exact Lib.BuilderAt.put hB hb2 (bs' := bs ++ Lib.strCells s) (by simpa [Lib.strCells_length] using hown') bld_ne
  · exact (hb1.grown hgrow (by omega) (fun k hk => (hown.lt k hk).1)).setCell (p := ⟨b, 1, none⟩) hB _
set_option maxHeartbeats 2000000 in
set_option maxRecDepth 100000 in
/-- What a builder that holds a byte at least tells. -/
theorem builderString_walk (B b : Nat) (l : List UInt8) (w : World) (h : IsB B b (Lib.byteCells l) w) (h0 : l ≠ []) :
    Calls Tryd.prog 78 #[.pointer (some ⟨b, 0, none⟩)] w fun e w' => e = .returned (.string ⟨l.toArray⟩) ∧ Below B w w' := by
  obtain ⟨p, hB, v, hbk, hown, hne⟩ : ∃ p, Lib.BuilderAt 126 5 B b p (Lib.byteCells l) w := by
    rcases h with h | h
    · exact ⟨_, h⟩
    · exact ⟨_, h⟩
  have c1 : w.cell? ⟨b, 1, none⟩ = some v := by rw [Lib.cell_of_heap hbk]; rfl
  have hl0 : l.length ≠ 0 := by simpa using h0
  rw [Lib.byteCells_length] at hown
  obtain ⟨g, cap, cur, rfl, hbg, hg, hnc, hcm, hcs, htake⟩ : ∃ g cap cur, v = .slice (some ⟨g, 0, none⟩) l.length cap ∧ B ≤ g ∧ w.heap[g]? = some (.cells cur 5 (0, 0)) ∧ l.length ≤ cap ∧ cap ≤ maxLen ∧ cur.size = cap * 1 ∧ cur.toList.take (l.length * 1) = Lib.byteCells l := by
    rcases hown.2 with ⟨_, hz⟩ | ⟨g, cap, cur, hv, r⟩
    · exact absurd hz hl0
    · exact ⟨g, cap, cur, hv, r⟩
  have hSD : (Builtin.unsafeSliceData_ #[124] 165 #[.slice (some ⟨g, 0, none⟩) l.length cap]).run Tryd.prog w.drew = .ok (.pointer (some ⟨g, 0, none⟩)) w.drew :=
    Lib.run_unsafeSliceData_row _ _ _ _ _ _ (by omega)
  have hUS : (Builtin.unsafeString_ #[165, 3] 9 #[.pointer (some ⟨g, 0, none⟩), .int .i64 l.length]).run Tryd.prog w.drew = .ok (.string ⟨l.toArray⟩) (w.drew.freeze ⟨g, 0, none⟩ l.length) := by
    refine Lib.run_unsafeString_row w.drew 165 3 9 5 Tryd.underlying165 (by kernel_rfl) g cur.size (by have hg' : w.drew.heap[g]? = some (.cells cur 5 (0, 0)) := hg; simp [World.shape?, hg']) l h0 (by omega) (by unfold maxLen at hcm; omega) ?_
    intro j x hx
    exact hown.cells (g := g) rfl j (.int .u8 x.toNat) (by simp [Lib.byteCells, hx])
  go_enter Tryd.func78, Tryd.ntmps78
  go_wp2
  go_region
  all_goals (go_wp2; go_ret; exact ⟨rfl, Lib.below_freeze (Below.drew (Below.refl B w)) (p := ⟨g, 0, none⟩) hbg _⟩)
end Go.Proofs.YtcgdjnmfeibnoaaDoor
/-! Hex -/
namespace Go.Proofs.YtcgdjnmfeibnoaaDoor
open Go.RowKit
set_option linter.unusedVariables false
set_option linter.unusedSimpArgs false
/-- A digit's letter. -/
def digB (d : Nat) : UInt8 := if d < 10 then (48 + d).toUInt8 else (87 + d).toUInt8
/-- The digits of a number to the base 16, the lowest first. -/
def revHex (n : Nat) : List UInt8 := digB (n % 16) :: (if n / 16 = 0 then [] else revHex (n / 16))
  termination_by n
  decreasing_by omega
theorem revHex_last {n : Nat} (h : n / 16 = 0) : revHex n = [digB (n % 16)] := by rw [revHex, if_pos h]
theorem revHex_more {n : Nat} (h : n / 16 ≠ 0) : revHex n = digB (n % 16) :: revHex (n / 16) := by rw [revHex, if_neg h]
set_option maxRecDepth 100000 in
theorem digit_at (m : Nat) (w : World) : (Instr.index 9 (.string ⟨#[48, 49, 50, 51, 52, 53, 54, 55, 56, 57, 97, 98, 99, 100, 101, 102, 103, 104, 105, 106, 107, 108, 109, 110, 111, 112, 113, 114, 115, 116, 117, 118, 119, 120, 121, 122]⟩) (.int .u64 ((m : Int) % 16))).run Tryd.prog w = .ok (.int .u8 (digB (m % 16)).toNat) w := by
  have h : ∃ d : Nat, d < 16 ∧ m % 16 = d := ⟨m % 16, by omega, rfl⟩
  obtain ⟨d, hd, he⟩ := h
  rw [show ((m : Int) % 16) = (d : Int) from by omega, he]
  have hc : d = 0 ∨ d = 1 ∨ d = 2 ∨ d = 3 ∨ d = 4 ∨ d = 5 ∨ d = 6 ∨ d = 7 ∨ d = 8 ∨ d = 9 ∨ d = 10 ∨ d = 11 ∨ d = 12 ∨ d = 13 ∨ d = 14 ∨ d = 15 := by omega
  rcases hc with rfl | rfl | rfl | rfl | rfl | rfl | rfl | rfl | rfl | rfl | rfl | rfl | rfl | rfl | rfl | rfl
  all_goals (change _ = _; kernel_rfl)
/-- What stands when k of the digits have been laid, from the other end. -/
def RevRel (base g cap g2 L : Nat) (all : List UInt8) (w : World) (i : Value) (W : World) : Prop :=
  ∃ k : Nat, k ≤ L ∧ i = .int .i64 k ∧ W.ownsRow base 5 1 (.slice (some ⟨g, 0, none⟩) L cap) L (Lib.byteCells all) ∧
    W.ownsRow base 5 1 (.slice (some ⟨g2, 0, none⟩) L L) L (List.replicate (L - k) (.int .u8 0) ++ Lib.byteCells (all.take k).reverse) ∧ Below w.heap.size w W
theorem rev_step {base g cap g2 n k : Nat} {all : List UInt8} {x : UInt8} {w W : World} (hx : all[k]? = some x) (hlen : n + 1 = all.length) (hk : k < n + 1)
    (hA : W.ownsRow base 5 1 (.slice (some ⟨g, 0, none⟩) (n + 1) cap) (n + 1) (Lib.byteCells all))
    (hO : W.ownsRow base 5 1 (.slice (some ⟨g2, 0, none⟩) (n + 1) (n + 1)) (n + 1) (List.replicate (n + 1 - k) (.int .u8 0) ++ Lib.byteCells (all.take k).reverse)) (hb : Below w.heap.size w W) (hne : g ≠ g2) (hbase : w.heap.size ≤ base) :
    RevRel base g cap g2 (n + 1) all w (.int .i64 ((k : Int) + 1)) (W.setCell ⟨g2, n - k, none⟩ (.int .u8 x.toNat)) := by
  obtain ⟨h1, h2⟩ := hO.stored (n - k) (.int .u8 x.toNat)
  have hg2 : base ≤ g2 := (hO.lt g2 (by simp [Value.ownBlock])).1
  refine ⟨k + 1, by omega, by simp, hA.kept h2 (by simp [Value.ownBlock, hne]), ?_, hb.setCell (p := ⟨g2, n - k, none⟩) (by simpa using Nat.le_trans hbase hg2) _⟩
  have e : (List.replicate (n + 1 - k) (Value.int .u8 0) ++ Lib.byteCells (all.take k).reverse).set (n - k) (.int .u8 x.toNat) = List.replicate (n + 1 - (k + 1)) (.int .u8 0) ++ Lib.byteCells (all.take (k + 1)).reverse := by
    have e1 : n + 1 - k = (n - k) + 1 := by omega
    have e2 : all.take (k + 1) = all.take k ++ [x] := by rw [List.take_add_one, hx]; rfl
    rw [e1, List.replicate_succ', List.append_assoc, List.set_append_right _ _ (by simp), e2]
    simp [Lib.byteCells]
  rw [e] at h1
  exact h1
theorem rev_cell {base g2 n : Nat} {all : List UInt8} {W : World} (hlen : n + 1 = all.length)
    (hO : W.ownsRow base 5 1 (.slice (some ⟨g2, 0, none⟩) (n + 1) (n + 1)) (n + 1) (List.replicate (n + 1 - (n + 1)) (.int .u8 0) ++ Lib.byteCells (all.take (n + 1)).reverse)) (i : Nat) (hi : i < n + 1) :
    W.cell? ⟨g2, i, none⟩ = some (.int .u8 ((all.reverse.map fun b => (b.toNat : Int)).getD i 0)) := by
  rw [hO.cellAt i (by omega)]
  rw [hlen, List.take_length, Nat.sub_self, List.replicate_zero, List.nil_append]
  have hi' : i < all.reverse.length := by simp; omega
  rw [Lib.byteCells, List.getElem?_map, List.getElem?_eq_getElem hi', List.getD_eq_getElem?_getD, List.getElem?_map, List.getElem?_eq_getElem hi']
  rfl
theorem strOfNums_bytes (l : List UInt8) : strOfNums (l.map fun b => (b.toNat : Int)) = ⟨l.toArray⟩ := by
  unfold strOfNums
  rw [List.map_map]
  have : ((fun n : Int => UInt8.ofNat n.toNat) ∘ fun b : UInt8 => (b.toNat : Int)) = id := by
    funext b
    simp
  rw [this, List.map_id]
set_option maxHeartbeats 2000000 in
set_option maxRecDepth 100000 in
theorem print16_walk (N : Nat) (hN : N < 18446744073709551616) (w : World) :
    Calls Tryd.prog 104 #[.int .u64 N, .int .i64 16] w fun e w' => e = .returned (.tuple #[.string ⟨(revHex N).reverse.toArray⟩, .int .i64 0]) ∧ Below w.heap.size w w' := by
  obtain ⟨i0, hi, hz0, hz1, hz2⟩ := info_parts byte_info
  go_enter Tryd.func104, Tryd.ntmps104
  go_wp2
  go_loopw [0, 6] (fun n v wr => ∃ (m : Nat) (done : List UInt8), n = .int .u64 m ∧ m ≤ N ∧ revHex N = done ++ revHex m ∧ wr.ownsRow w.heap.size 5 1 v done.length (Lib.byteCells done) ∧ Below w.heap.size w wr ∧ 2 ^ done.length * m ≤ N ∧ (m = 0 → done = []))
    (fun n _ _ => (intOf n).toNat)
  case atStart => exact ⟨N, [], rfl, Nat.le_refl _, rfl, World.ownsRow_nil _ _ _ _, Below.refl _ _, by simp, fun _ => rfl⟩
  case round =>
    obtain ⟨m, done, rfl, hm, hd, hown, hb, hp, hz⟩ := hrel
    have hs := hb.size
    have hix := digit_at m
    have hl : done.length ≤ 64 := by
      rcases Nat.lt_or_ge 64 done.length with h | h
      · exfalso
        have h0 : m ≠ 0 := fun e => by rw [hz e] at h; simp at h
        have h1 := Nat.pow_le_pow_right (n := 2) (by omega) (show 65 ≤ done.length from h)
        have h2 := Nat.le_mul_of_pos_right (2 ^ done.length) (Nat.pos_of_ne_zero h0)
        have h3 : (2 : Nat) ^ 65 = 36893488147419103232 := by decide
        omega
      · exact h
    have hbl : (Lib.byteCells done).length = done.length := Lib.byteCells_length done
    clear hbl
    go_wp2_with (at_builtin; refine app_one rfl _ _ 124 rfl w.heap.size 5 i0 (.int .u8 0) 1 1 Tryd.underlying124 hi hz0 hz1 hz2 rfl (by decide) _ _ _ rfl hown [.int .u8 (digB (m % 16)).toNat] rfl rfl (by simp [Value.oneCell']) (by unfold maxLen; omega) (by omega) (by omega) ?_; intro g cap w2 hg hown' hgrow hbel)
    · clear hgrow hix
      have hb2 := hbel _ _ (Nat.le_refl _) hb
      have hs2 := hb2.size
      obtain ⟨w3, hmk, hown3, hgr3⟩ := run_make_full w2 w.heap.size 124 5 i0 (.int .u8 0) 1 Tryd.underlying124 hi hz0 hz1 .i64 .i64 (done.length + 1) (by rw [hz2]; omega) (by unfold maxLen; omega) hs2
      rw [show ((done.length + 1 : Nat) : Int) = (done.length : Int) + 1 from by omega] at hmk
      have hb3 : Below w.heap.size w w3 := hb2.grown hgr3 hs2 (fun k hk => by simp at hk)
      have hown3' := hown'.kept hgr3 (by simp [Value.ownBlock])
      have hall : revHex N = done ++ [digB (m % 16)] := by rw [hd, revHex_last (by simp at *; omega)]
      have hne : g ≠ w2.heap.size := by have := (hown'.lt g (by simp [Value.ownBlock])).2; omega
      obtain ⟨all, hal⟩ : ∃ all, all = done ++ [digB (m % 16)] := ⟨_, rfl⟩
      have hlen : done.length + 1 = all.length := by rw [hal]; simp
      have hback : w3.ownsRow w.heap.size 5 1 (.slice (some ⟨g, 0, none⟩) (done.length + 1) cap) (done.length + 1) (Lib.byteCells all) := by
        rw [hal]; simpa [Lib.byteCells] using hown3'
      have hout : w3.ownsRow w.heap.size 5 1 (.slice (some ⟨w2.heap.size, 0, none⟩) (done.length + 1) (done.length + 1)) (done.length + 1) (List.replicate (done.length + 1) (.int .u8 0)) := by
        have h := hown3
        rw [show (Value.int .u8 0).cells = #[.int .u8 0] from rfl, Nat.mul_one, toList_madeCells_one] at h
        exact h
      rw [← hal] at hall
      clear hown3 hown3' hown' hown hd hz hp hb hbel hb2 hgr3
      have HMK := Lib.hid hall
      have HAL := Lib.hid hal
      have HLEN := Lib.hid hlen
      clear hall hal hlen
      go_simp
      go_wp2_with fail
      go_loopw [35] (fun i W => RevRel w.heap.size g cap w2.heap.size (done.length + 1) all w i W) (fun i _ => done.length + 1 - (intOf i).toNat)
      case atStart => exact ⟨0, Nat.zero_le _, rfl, hback, by simpa [Lib.byteCells] using hout, hb3⟩
      case round =>
        clear hback hout hb3 hmk
        obtain ⟨k, hk, rfl, hA, hO, hb4⟩ := hrel
        by_cases hlt : k < done.length + 1
        · obtain ⟨x, hx⟩ : ∃ x, all[k]? = some x := ⟨all[k]'(by have := HLEN.out; omega), List.getElem?_eq_getElem _⟩
          have hc : wr.cell? ⟨g, k, none⟩ = some (.int .u8 x.toNat) := by
            rw [hA.cellAt k (by omega)]; simp [Lib.byteCells, hx]
          have ho : wr.cell? ⟨w2.heap.size, done.length - k, none⟩ = some (.int .u8 0) := by
            rw [hO.cellAt _ (by omega), List.getElem?_append_left (by simp; omega)]
            rw [List.getElem?_replicate, if_pos (by omega)]
          have hf := hO.frozenAt (done.length - k)
          have HX := Lib.hid hx
          clear hx
          go_wp2
          exact ⟨rev_step HX.out HLEN.out hlt hA hO hb4 hne (Nat.le_refl _), by simp [intOf]; omega⟩
        · obtain rfl : k = done.length + 1 := by omega
          have hcv := run_convert_bytes_arg (P := Tryd.prog) wr 124 5 Tryd.underlying124 Tryd.underlying5 w2.heap.size 0 (done.length + 1) (done.length + 1) (all.reverse.map fun b => (b.toNat : Int)) (by simp [HLEN.out])
            (fun i hi => by rw [Nat.zero_add]; exact rev_cell HLEN.out hO i hi) 9 Tryd.underlying9
          rw [strOfNums_bytes] at hcv
          clear hlt
          go_wp2
          go_returns
          exact ⟨by rw [HMK.out]; rfl, hb4⟩
    · have h16 : ¬ (m / 16 = 0) := by simp at *; omega
      have hmm := revHex_more h16
      refine ⟨⟨m / 16, done ++ [digB (m % 16)], rfl, by omega, by rw [hd, hmm]; simp, by simpa [Lib.byteCells] using hown', hbel _ _ (Nat.le_refl _) hb, ?_, fun h => absurd h h16⟩, by simp [intOf]; omega⟩
      rw [List.length_append, List.length_singleton, Nat.pow_succ, Nat.mul_assoc]
      exact Nat.le_trans (Nat.mul_le_mul_left _ (by omega)) hp
end Go.Proofs.YtcgdjnmfeibnoaaDoor
/-! SixV -/
namespace Go.Proofs.YtcgdjnmfeibnoaaDoor
open Go.RowKit
set_option linter.unusedVariables false
set_option linter.unusedSimpArgs false
abbrev A8 (x0 x1 x2 x3 x4 x5 x6 x7 : Int) : Value := .agg #[.int .u16 x0, .int .u16 x1, .int .u16 x2, .int .u16 x3, .int .u16 x4, .int .u16 x5, .int .u16 x6, .int .u16 x7]
/-- Each piece is of 16 bits. -/
structure R8 (x0 x1 x2 x3 x4 x5 x6 x7 : Int) : Prop where
  h0 : 0 ≤ x0 ∧ x0 ≤ 65535
  h1 : 0 ≤ x1 ∧ x1 ≤ 65535
  h2 : 0 ≤ x2 ∧ x2 ≤ 65535
  h3 : 0 ≤ x3 ∧ x3 ≤ 65535
  h4 : 0 ≤ x4 ∧ x4 ≤ 65535
  h5 : 0 ≤ x5 ∧ x5 ≤ 65535
  h6 : 0 ≤ x6 ∧ x6 ≤ 65535
  h7 : 0 ≤ x7 ∧ x7 ≤ 65535
theorem run_part8 {P : Program} {E : TypeId} (hE : P.underlying E = some (.int .u16)) (cs : Array Value) (k : Nat) (v : Value) (h : cs[k]? = some v) (w : World) : (part E cs k).run P w = .ok v w := by
  simp [part, isAgg, run_underlying hE, h]
/-- Two arrays of eight pieces: '=='. -/
theorem run_eq8 {P : Program} {T E : TypeId} {i : TypeInfo} (hT : P.underlying T = some (.array 8 E)) (hi : P.info? E = some i) (hE : P.underlying E = some (.int .u16)) (hc : P.cellsOf E = 1)
    (x0 x1 x2 x3 x4 x5 x6 x7 y0 y1 y2 y3 y4 y5 y6 y7 : Int) (w : World) :
    (Op.equalIn 10000 T (A8 x0 x1 x2 x3 x4 x5 x6 x7) (A8 y0 y1 y2 y3 y4 y5 y6 y7)).run P w = .ok (x0 == y0 && (x1 == y1 && (x2 == y2 && (x3 == y3 && (x4 == y4 && (x5 == y5 && (x6 == y6 && x7 == y7))))))) w := by
  rw [run_equalIn_array w 9999 _ _ hT hi, hc, show List.range 8 = [0, 1, 2, 3, 4, 5, 6, 7] from rfl]
  have he : ∀ a b : Int, (Op.equalIn 9999 E (.int .u16 a) (.int .u16 b)).run P w = .ok (a == b) w := fun a b => run_equalIn_int w 9998 E .u16 .u16 a b hE
  have st : ∀ (xs ys : Array Value) (k : Nat) (ks : List Nat) (a b : Int) (r : Bool), xs[k]? = some (.int .u16 a) → ys[k]? = some (.int .u16 b) → (Op.eqItems 9999 E 1 xs ys ks).run P w = .ok r w →
      (Op.eqItems 9999 E 1 xs ys (k :: ks)).run P w = .ok (a == b && r) w := by
    intro xs ys k ks a b r h1 h2 h3
    simp only [Op.eqItems, Sem.run_bind, Nat.mul_one]
    rw [run_part8 hE _ k _ h1, Result.andThen_ok, run_part8 hE _ k _ h2, Result.andThen_ok, he, Result.andThen_ok]
    cases a == b
    · simp
    · simpa using h3
  have h8 : (Op.eqItems 9999 E 1 #[.int .u16 x0, .int .u16 x1, .int .u16 x2, .int .u16 x3, .int .u16 x4, .int .u16 x5, .int .u16 x6, .int .u16 x7] #[.int .u16 y0, .int .u16 y1, .int .u16 y2, .int .u16 y3, .int .u16 y4, .int .u16 y5, .int .u16 y6, .int .u16 y7] []).run P w = .ok true w := rfl
  have h7 := st _ _ 7 [] x7 y7 _ rfl rfl h8
  have h6 := st _ _ 6 [7] x6 y6 _ rfl rfl h7
  have h5 := st _ _ 5 [6, 7] x5 y5 _ rfl rfl h6
  have h4 := st _ _ 4 [5, 6, 7] x4 y4 _ rfl rfl h5
  have h3 := st _ _ 3 [4, 5, 6, 7] x3 y3 _ rfl rfl h4
  have h2 := st _ _ 2 [3, 4, 5, 6, 7] x2 y2 _ rfl rfl h3
  have h1 := st _ _ 1 [2, 3, 4, 5, 6, 7] x1 y1 _ rfl rfl h2
  have h0 := st _ _ 0 [1, 2, 3, 4, 5, 6, 7] x0 y0 _ rfl rfl h1
  rw [Bool.and_true] at h0
  exact h0
@[go_sem] theorem eq8_six (x0 x1 x2 x3 x4 x5 x6 x7 y0 y1 y2 y3 y4 y5 y6 y7 : Int) (w : World) :
    (Op.equalIn 10000 24 (A8 x0 x1 x2 x3 x4 x5 x6 x7) (A8 y0 y1 y2 y3 y4 y5 y6 y7)).run Tryd.prog w = .ok (x0 == y0 && (x1 == y1 && (x2 == y2 && (x3 == y3 && (x4 == y4 && (x5 == y5 && (x6 == y6 && x7 == y7))))))) w := by
  obtain ⟨i, hi, _⟩ := info_parts (show (Tryd.prog.info? 22).map (fun i => (i.zero, i.size, i.bytes)) = some (some (.int .u16 0), 1, 2) by kernel_rfl)
  exact run_eq8 Tryd.underlying24 hi Tryd.underlying22 (by kernel_rfl) ..
@[go_sem] theorem eq8_ref (x0 x1 x2 x3 x4 x5 x6 x7 y0 y1 y2 y3 y4 y5 y6 y7 : Int) (w : World) :
    (Op.equalIn 10000 30 (A8 x0 x1 x2 x3 x4 x5 x6 x7) (A8 y0 y1 y2 y3 y4 y5 y6 y7)).run Tryd.prog w = .ok (x0 == y0 && (x1 == y1 && (x2 == y2 && (x3 == y3 && (x4 == y4 && (x5 == y5 && (x6 == y6 && x7 == y7))))))) w := by
  obtain ⟨i, hi, _⟩ := info_parts (show (Tryd.prog.info? 22).map (fun i => (i.zero, i.size, i.bytes)) = some (some (.int .u16 0), 1, 2) by kernel_rfl)
  exact run_eq8 Tryd.underlying30 hi Tryd.underlying22 (by kernel_rfl) ..
end Go.Proofs.YtcgdjnmfeibnoaaDoor
/-! SixRun -/
namespace Go.Proofs.YtcgdjnmfeibnoaaDoor
open Go.RowKit
set_option linter.unusedVariables false
set_option linter.unusedSimpArgs false
/-- A piece's text. -/
def hexL (p : Nat) : List UInt8 := (revHex p).reverse
set_option maxHeartbeats 1000000 in
set_option maxRecDepth 100000 in
theorem hex_walk (p : Nat) (hp : p ≤ 65535) (w : World) :
    Calls Tryd.prog 68 #[.int .u16 p] w fun e w' => e = .returned (.string ⟨(hexL p).toArray⟩) ∧ Below w.heap.size w w' := by
  go_enter Tryd.func68, Tryd.ntmps68
  go_wp2_with fail
  refine (print16_walk p (by omega) _).mono ?_
  rintro e w1 ⟨rfl, hb⟩
  go_wp2_with fail
  go_returns
  exact ⟨rfl, hb⟩
/-- The loop of run: what is left of the pieces, the place, what was found. -/
def runGo : List Nat → Int → Int → Int → Int → Int × Int
  | [], _, at_, most, _ => (at_, most)
  | p :: r, i, at_, most, from_ => if p = 0 then (if most < i + 1 - from_ then runGo r (i + 1) from_ (i + 1 - from_) from_ else runGo r (i + 1) at_ most from_) else runGo r (i + 1) at_ most (i + 1)
/-- The run of pieces: its place and length; -1 and 0. -/
def runL (xs : List Nat) : Int × Int := if (runGo xs 0 (-1) 1 0).1 < 0 then (-1, 0) else runGo xs 0 (-1) 1 0
/-- What stands at the head of a round of run. -/
def RunRel (xs : List Nat) (a m f i : Value) : Prop :=
  ∃ (k : Nat) (at_ most from_ : Int), k ≤ xs.length ∧ i = .int .i64 k ∧ a = .int .i64 at_ ∧ m = .int .i64 most ∧ f = .int .i64 from_ ∧
    runGo xs 0 (-1) 1 0 = runGo (xs.drop k) k at_ most from_ ∧ -1 ≤ at_ ∧ at_ ≤ k ∧ 1 ≤ most ∧ most ≤ k + 1 ∧ 0 ≤ from_ ∧ from_ ≤ k
theorem run_meas {n k : Nat} (h : k < n) : n - (intOf (.int .i64 ((k : Int) + 1))).toNat < n - (intOf (.int .i64 (k : Int))).toNat := by simp [intOf]; omega
theorem run_step0 {xs : List Nat} {k : Nat} {at_ most from_ : Int} (hk : k < xs.length) (hr : runGo xs 0 (-1) 1 0 = runGo (xs.drop k) k at_ most from_)
    (b : -1 ≤ at_ ∧ at_ ≤ k ∧ 1 ≤ most ∧ most ≤ k + 1 ∧ 0 ≤ from_ ∧ from_ ≤ k) (h0 : (((xs[k]'hk : Nat) : Int) != 0) = false) (h : (k : Int) + 1 - from_ ≤ most) :
    RunRel xs (.int .i64 at_) (.int .i64 most) (.int .i64 from_) (.int .i64 ((k : Int) + 1)) := by
  refine ⟨k + 1, at_, most, from_, hk, rfl, rfl, rfl, rfl, ?_, by omega, by omega, by omega, by omega, by omega, by omega⟩
  rw [hr, List.drop_eq_getElem_cons hk, runGo, if_pos (by simp at h0; omega), if_neg (by omega)]
  rfl
theorem run_step1 {xs : List Nat} {k : Nat} {at_ most from_ : Int} (hk : k < xs.length) (hr : runGo xs 0 (-1) 1 0 = runGo (xs.drop k) k at_ most from_)
    (b : -1 ≤ at_ ∧ at_ ≤ k ∧ 1 ≤ most ∧ most ≤ k + 1 ∧ 0 ≤ from_ ∧ from_ ≤ k) (h0 : (((xs[k]'hk : Nat) : Int) != 0) = false) (h : most < (k : Int) + 1 - from_) :
    RunRel xs (.int .i64 from_) (.int .i64 ((k : Int) + 1 - from_)) (.int .i64 from_) (.int .i64 ((k : Int) + 1)) := by
  refine ⟨k + 1, from_, (k : Int) + 1 - from_, from_, hk, rfl, rfl, rfl, rfl, ?_, by omega, by omega, by omega, by omega, by omega, by omega⟩
  rw [hr, List.drop_eq_getElem_cons hk, runGo, if_pos (by simp at h0; omega), if_pos h]
  rfl
theorem run_step2 {xs : List Nat} {k : Nat} {at_ most from_ : Int} (hk : k < xs.length) (hr : runGo xs 0 (-1) 1 0 = runGo (xs.drop k) k at_ most from_)
    (b : -1 ≤ at_ ∧ at_ ≤ k ∧ 1 ≤ most ∧ most ≤ k + 1 ∧ 0 ≤ from_ ∧ from_ ≤ k) (h0 : (((xs[k]'hk : Nat) : Int) != 0) = true) :
    RunRel xs (.int .i64 at_) (.int .i64 most) (.int .i64 ((k : Int) + 1)) (.int .i64 ((k : Int) + 1)) := by
  refine ⟨k + 1, at_, most, (k : Int) + 1, hk, rfl, rfl, rfl, rfl, ?_, by omega, by omega, by omega, by omega, by omega, by omega⟩
  rw [hr, List.drop_eq_getElem_cons hk, runGo, if_neg (by simp at h0; omega)]
  rfl
theorem runL_neg {xs : List Nat} {at_ most from_ : Int} (hr : runGo xs 0 (-1) 1 0 = runGo (xs.drop xs.length) xs.length at_ most from_) (h : at_ < 0) : runL xs = (-1, 0) := by
  rw [List.drop_length, runGo] at hr
  unfold runL
  rw [hr, if_pos h]
theorem runL_pos {xs : List Nat} {at_ most from_ : Int} (hr : runGo xs 0 (-1) 1 0 = runGo (xs.drop xs.length) xs.length at_ most from_) (h : ¬ at_ < 0) : runL xs = (at_, most) := by
  rw [List.drop_length, runGo] at hr
  unfold runL
  rw [hr, if_neg h]
set_option maxHeartbeats 1000000 in
set_option maxRecDepth 100000 in
theorem run_walk (xs : List Nat) (b c : Nat) (w : World) (hl : xs.length ≤ 8) (hc : ∀ j, j < xs.length → w.cell? ⟨b, j, none⟩ = some (.int .u16 (xs.getD j 0))) :
    Calls Tryd.prog 65 #[.slice (some ⟨b, 0, none⟩) xs.length c] w fun e w' => e = .returned (.tuple #[.int .i64 (runL xs).1, .int .i64 (runL xs).2]) ∧ w = w' := by
  go_enter Tryd.func65, Tryd.ntmps65
  go_wp2
  go_loop [4, 5, 6, 12] (RunRel xs) (fun _ _ _ i => xs.length - (intOf i).toNat)
  case atStart => exact ⟨0, -1, 1, 0, Nat.zero_le _, rfl, rfl, rfl, rfl, rfl, by omega, by omega, by omega, by omega, by omega, by omega⟩
  case round =>
    obtain ⟨k, at_, most, from_, hk, rfl, rfl, rfl, rfl, hrun, b1, b2, b3, b4, b5, b6⟩ := hrel
    by_cases hlt : k < xs.length
    · have hck := hc k hlt
      have HR := Lib.hid hrun
      clear hrun hc
      go_wp2
      all_goals refine ⟨?_, run_meas hlt⟩
      all_goals first
        | exact run_step0 hlt HR.out ⟨b1, b2, b3, b4, b5, b6⟩ ‹_› ‹_›
        | exact run_step1 hlt HR.out ⟨b1, b2, b3, b4, b5, b6⟩ ‹_› ‹_›
        | exact run_step2 hlt HR.out ⟨b1, b2, b3, b4, b5, b6⟩ ‹_›
    · obtain rfl : k = xs.length := by omega
      have HR := Lib.hid hrun
      clear hrun hc hlt
      by_cases hneg : at_ < 0
      · go_wp2
        go_returns
        rw [runL_neg HR.out hneg]
        exact ⟨rfl, rfl⟩
      · go_wp2
        go_returns
        rw [runL_pos HR.out (by omega)]
        exact ⟨rfl, rfl⟩
end Go.Proofs.YtcgdjnmfeibnoaaDoor
/-! SixText -/
namespace Go.Proofs.YtcgdjnmfeibnoaaDoor
open Go.RowKit
set_option linter.unusedVariables false
set_option linter.unusedSimpArgs false
theorem revHex_len (n : Nat) : (revHex n).length ≤ n + 1 := by
  induction n using Nat.strongRecOn with
  | ind n ih =>
    by_cases h : n / 16 = 0
    · rw [revHex_last h]; simp
    · rw [revHex_more h, List.length_cons]
      have := ih (n / 16) (by omega)
      omega
theorem hexL_len (n : Nat) : (hexL n).length ≤ n + 1 := by unfold hexL; rw [List.length_reverse]; exact revHex_len n
/-- What a piece writes. -/
def textAt (at_ n i : Int) (p : Nat) : List UInt8 :=
  if i = at_ then [58, 58] else if 0 ≤ at_ ∧ at_ < i ∧ i < at_ + n then [] else (if 0 < i ∧ i ≠ at_ + n then [58] else []) ++ hexL p
/-- What pieces write from one on. -/
def textGo (at_ n : Int) : Int → List Nat → List UInt8
  | _, [] => []
  | i, p :: r => textAt at_ n i p ++ textGo at_ n (i + 1) r
/-- The text of pieces. -/
def textL (xs : List Nat) : List UInt8 := textGo (runL xs).1 (runL xs).2 0 xs
theorem runGo_bounds : ∀ (xs : List Nat) (i at_ most from_ : Int), 0 ≤ i → -1 ≤ at_ → at_ ≤ i → 1 ≤ most → most ≤ i + 1 → 0 ≤ from_ → from_ ≤ i →
    -1 ≤ (runGo xs i at_ most from_).1 ∧ (runGo xs i at_ most from_).1 ≤ i + xs.length ∧ 1 ≤ (runGo xs i at_ most from_).2 ∧ (runGo xs i at_ most from_).2 ≤ i + xs.length + 1
  | [], i, at_, most, from_, h0, h1, h2, h3, h4, h5, h6 => by simp only [runGo, List.length_nil]; omega
  | p :: r, i, at_, most, from_, h0, h1, h2, h3, h4, h5, h6 => by
    rw [runGo, List.length_cons]
    split
    · split
      · have := runGo_bounds r (i + 1) from_ (i + 1 - from_) from_ (by omega) (by omega) (by omega) (by omega) (by omega) (by omega) (by omega)
        omega
      · have := runGo_bounds r (i + 1) at_ most from_ (by omega) (by omega) (by omega) (by omega) (by omega) (by omega) (by omega)
        omega
    · have := runGo_bounds r (i + 1) at_ most (i + 1) (by omega) (by omega) (by omega) (by omega) (by omega) (by omega) (by omega)
      omega
theorem runL_bounds (xs : List Nat) : -1 ≤ (runL xs).1 ∧ (runL xs).1 ≤ xs.length ∧ 0 ≤ (runL xs).2 ∧ (runL xs).2 ≤ xs.length + 1 := by
  have := runGo_bounds xs 0 (-1) 1 0 (by omega) (by omega) (by omega) (by omega) (by omega) (by omega) (by omega)
  unfold runL
  split
  · simp; omega
  · omega
theorem hexL_ne (n : Nat) : hexL n ≠ [] := by
  unfold hexL
  rw [revHex]
  simp
theorem textL_ne {xs : List Nat} (h : xs ≠ []) : textL xs ≠ [] := by
  cases xs with
  | nil => exact absurd rfl h
  | cons p r =>
    unfold textL
    rw [textGo, textAt]
    split
    · simp
    · split
      · rename_i h1; exact absurd h1 (by omega)
      · have := hexL_ne p
        simp [this]
/-- A builder stays where all stays that was there. -/
theorem isB_keep {B b : Nat} {bs : List Value} {w W : World} (h : IsB B b bs w) (hb : Below w.heap.size w W) : IsB B b bs W := by
  have key : ∀ p, Lib.BuilderAt 126 5 B b p bs w → Lib.BuilderAt 126 5 B b p bs W := by
    intro p hp
    have hlt := hp.lt
    obtain ⟨hB, v, hbk, hown, hne⟩ := hp
    exact ⟨hB, v, by rw [hb.block b hlt]; exact hbk, hown.kept (row := none) ⟨hb.os, hb.tape, hb.output, hb.size, fun i hi _ => hb.block i hi⟩ (by cases v.ownBlock <;> simp), hne⟩
  rcases h with h | h
  · exact .inl (key _ h)
  · exact .inr (key _ h)
/-- What stands at the head of a round of text. -/
def TextRel (xs : List Nat) (at_ n : Int) (w : World) (i : Value) (W : World) : Prop :=
  ∃ (k : Nat) (done : List UInt8), k ≤ xs.length ∧ i = .int .i64 k ∧ textL xs = done ++ textGo at_ n k (xs.drop k) ∧ IsB w.heap.size w.heap.size (Lib.byteCells done) W ∧ Below w.heap.size w W ∧ done.length ≤ k * 70000
theorem text_step {xs : List Nat} {at_ n : Int} {k : Nat} {w W : World} {done new : List UInt8} (hk : k < xs.length) (ht : textL xs = done ++ textGo at_ n k (xs.drop k)) (hn : textAt at_ n k xs[k] = new)
    (hB : IsB w.heap.size w.heap.size (Lib.byteCells (done ++ new)) W) (hb : Below w.heap.size w W) (hl : done.length ≤ k * 70000) (hnl : new.length ≤ 70000) :
    TextRel xs at_ n w (.int .i64 ((k : Int) + 1)) W := by
  refine ⟨k + 1, done ++ new, hk, rfl, ?_, hB, hb, by rw [List.length_append]; omega⟩
  rw [ht, List.drop_eq_getElem_cons hk, textGo, hn, List.append_assoc]
  rfl
set_option maxHeartbeats 2000000 in
set_option maxRecDepth 100000 in
theorem text_walk (xs : List Nat) (b c : Nat) (w : World) (hl : xs.length ≤ 8) (h0 : xs ≠ []) (hb : b < w.heap.size) (hp : ∀ x ∈ xs, x ≤ 65535) (hc : ∀ j, j < xs.length → w.cell? ⟨b, j, none⟩ = some (.int .u16 (xs.getD j 0))) :
    Calls Tryd.prog 49 #[.slice (some ⟨b, 0, none⟩) xs.length c] w fun e w' => e = .returned (.string ⟨(textL xs).toArray⟩) ∧ Below w.heap.size w w' := by
  obtain ⟨r1, r2, r3, r4⟩ := runL_bounds xs
  have HT : Hid (textL xs = textGo (runL xs).1 (runL xs).2 0 xs) := Lib.hid rfl
  have HC := Lib.hid hc
  go_enter Tryd.func49, Tryd.ntmps49
  go_wp2_with fail
  refine (run_walk xs b c _ hl hc).mono ?_
  rintro e w1 ⟨rfl, rfl⟩
  generalize (runL xs).1 = at_ at *
  generalize (runL xs).2 = n at *
  clear hc
  go_wp2_with fail
  go_loopw [14] (fun i W => TextRel xs at_ n w i W) (fun i _ => xs.length - (intOf i).toNat)
  case atStart => exact ⟨0, [], Nat.zero_le _, rfl, HT.out, Lib.fresh_isBuilder _ _ _, (Below.refl _ _).alloc (Nat.le_refl _) _, by simp⟩
  case round =>
    obtain ⟨k, done, hk, rfl, ht, hB, hbl, hdl⟩ := hrel
    by_cases hlt : k < xs.length
    · have hpk := hp _ (List.getElem_mem hlt)
      have hwl : w.heap.size ≤ wr.heap.size := hbl.size
      have hcw : wr.cell? ⟨b, k, none⟩ = some (.int .u16 xs[k]) := by
        rw [hbl.cell (p := ⟨b, k, none⟩) hb, HC.out k hlt, List.getD_eq_getElem?_getD, List.getElem?_eq_getElem hlt]; rfl
      have HTT := Lib.hid ht
      have hbc : (Lib.byteCells done).length ≤ 560000 := by rw [Lib.byteCells_length]; omega
      have hhl := hexL_len xs[k]
      generalize hx : xs[k] = x at *
      have HX := Lib.hid hx
      clear ht hx
      by_cases c1 : (k : Int) = at_
      · subst c1
        go_wp2_with fail
        refine (writeString_walk w.heap.size w.heap.size (Lib.byteCells done) ⟨#[58, 58]⟩ _ hB (by simp [ByteArray.size]; omega) hwl).mono ?_
        rintro e w1 ⟨rfl, hA, hb1⟩
        go_wp2_with fail
        refine ⟨text_step hlt HTT.out (new := [58, 58]) (by rw [textAt, if_pos rfl]) (.inr (by rw [Lib.byteCells_append]; exact hA)) (hbl.trans hb1) hdl (by simp), run_meas hlt⟩
      · have e1 : ((k : Int) == at_) = false := beq_eq_false_iff_ne.2 c1
        by_cases c2 : 0 ≤ at_ ∧ at_ < k ∧ (k : Int) < at_ + n
        · obtain ⟨d1, d2, d3⟩ := c2
          go_wp2_with fail
          refine ⟨text_step hlt HTT.out (new := []) (by rw [textAt, if_neg c1, if_pos ⟨d1, d2, d3⟩]) (by simpa using hB) hbl hdl (by simp), run_meas hlt⟩
        · have hN : textAt at_ n k xs[k] = (if 0 < (k : Int) ∧ (k : Int) ≠ at_ + n then [58] else []) ++ hexL x := by rw [textAt, if_neg c1, if_neg c2, HX.out]
          have HN := Lib.hid hN
          clear hN
          have hd : at_ < 0 ∨ (0 ≤ at_ ∧ (k : Int) < at_) ∨ (0 ≤ at_ ∧ at_ < k ∧ at_ + n ≤ k) := by omega
          by_cases c3 : 0 < (k : Int) ∧ (k : Int) ≠ at_ + n
          · obtain ⟨c4, c5⟩ := c3
            have e2 : ((k : Int) != at_ + n) = true := by rw [bne_iff_ne]; exact c5
            clear c2
            rcases hd with d | ⟨d0, d⟩ | ⟨d0, d2, d⟩
            all_goals
              go_wp2_with fail
              refine (writeByte_walk w.heap.size w.heap.size (Lib.byteCells done) 58 _ hB (by omega) hwl).mono ?_
              rintro e w1 ⟨rfl, hA, hb1⟩
              have hcw1 : w1.cell? ⟨b, k, none⟩ = some (.int .u16 x) := by rw [hb1.cell (p := ⟨b, k, none⟩) hb]; exact hcw
              go_wp2_with fail
              refine (hex_walk x hpk _).mono ?_
              rintro e w2 ⟨rfl, hb2⟩
              have hA2 := isB_keep (.inr hA) hb2
              have hs1 := hb1.size
              have hs2 := hb2.size
              go_wp2_with fail
              refine (writeString_walk w.heap.size w.heap.size _ _ _ hA2 (by simp [ByteArray.size]; omega) (by omega)).mono ?_
              rintro e w3 ⟨rfl, hA3, hb3⟩
              go_wp2_with fail
              refine ⟨text_step hlt HTT.out (new := [58] ++ hexL x) (by rw [HN.out, if_pos ⟨c4, c5⟩]) (.inr (by simpa [Lib.byteCells, Lib.strCells] using hA3)) (((hbl.trans hb1).trans (hb2.mono (by omega))).trans hb3) hdl (by simp; omega), run_meas hlt⟩
          · have hd2 : (k : Int) ≤ 0 ∨ (0 < (k : Int) ∧ (k : Int) = at_ + n) := by omega
            rcases hd2 with d4 | ⟨d4, d5⟩
            · rcases hd with d | ⟨d0, d⟩ | ⟨d0, d2, d⟩
              all_goals
                first
                  | (exfalso; omega)
                  | (go_wp2_with fail
                     refine (hex_walk x hpk _).mono ?_
                     rintro e w2 ⟨rfl, hb2⟩
                     have hA2 := isB_keep hB hb2
                     have hs2 := hb2.size
                     go_wp2_with fail
                     refine (writeString_walk w.heap.size w.heap.size _ _ _ hA2 (by simp [ByteArray.size]; omega) (by omega)).mono ?_
                     rintro e w3 ⟨rfl, hA3, hb3⟩
                     go_wp2_with fail
                     refine ⟨text_step hlt HTT.out (new := hexL x) (by rw [HN.out, if_neg c3]; rfl) (.inr (by simpa [Lib.byteCells, Lib.strCells] using hA3)) ((hbl.trans (hb2.mono (by omega))).trans hb3) hdl (by omega), run_meas hlt⟩)
            · have e2 : ((k : Int) != at_ + n) = false := by rw [bne_eq_false_iff_eq]; exact d5
              clear d5
              rcases hd with d | ⟨d0, d⟩ | ⟨d0, d2, d⟩
              all_goals
                first
                  | (exfalso; omega)
                  | (go_wp2_with fail
                     refine (hex_walk x hpk _).mono ?_
                     rintro e w2 ⟨rfl, hb2⟩
                     have hA2 := isB_keep hB hb2
                     have hs2 := hb2.size
                     go_wp2_with fail
                     refine (writeString_walk w.heap.size w.heap.size _ _ _ hA2 (by simp [ByteArray.size]; omega) (by omega)).mono ?_
                     rintro e w3 ⟨rfl, hA3, hb3⟩
                     go_wp2_with fail
                     refine ⟨text_step hlt HTT.out (new := hexL x) (by rw [HN.out, if_neg c3]; rfl) (.inr (by simpa [Lib.byteCells, Lib.strCells] using hA3)) ((hbl.trans (hb2.mono (by omega))).trans hb3) hdl (by omega), run_meas hlt⟩)
    · obtain rfl : k = xs.length := by omega
      rw [List.drop_length, textGo, List.append_nil] at ht
      have hne : done ≠ [] := by
        intro h
        rw [h] at ht
        exact textL_ne h0 ht
      have HTT := Lib.hid ht
      clear ht hlt
      go_wp2_with fail
      refine (builderString_walk w.heap.size w.heap.size done _ hB hne).mono ?_
      rintro e w1 ⟨rfl, hb1⟩
      go_wp2_with fail
      go_returns
      exact ⟨by rw [HTT.out]; rfl, hbl.trans hb1⟩
end Go.Proofs.YtcgdjnmfeibnoaaDoor
/-! SixPrint -/
namespace Go.Proofs.YtcgdjnmfeibnoaaDoor
open Go.RowKit
set_option linter.unusedVariables false
set_option linter.unusedSimpArgs false
/-- The text of an address. -/
def printL (x0 x1 x2 x3 x4 x5 x6 x7 : Int) : List UInt8 := textL [x0.toNat, x1.toNat, x2.toNat, x3.toNat, x4.toNat, x5.toNat, x6.toNat, x7.toNat]
set_option maxHeartbeats 2000000 in
set_option maxRecDepth 100000 in
theorem print_walk (x0 x1 x2 x3 x4 x5 x6 x7 : Int) (h : R8 x0 x1 x2 x3 x4 x5 x6 x7) (w : World) :
    Calls Tryd.prog 17 #[A8 x0 x1 x2 x3 x4 x5 x6 x7] w fun e w' => e = .returned (.string ⟨(printL x0 x1 x2 x3 x4 x5 x6 x7).toArray⟩) ∧ Below w.heap.size w w' := by
  obtain ⟨⟨a0, b0⟩, ⟨a1, b1⟩, ⟨a2, b2⟩, ⟨a3, b3⟩, ⟨a4, b4⟩, ⟨a5, b5⟩, ⟨a6, b6⟩, ⟨a7, b7⟩⟩ := h
  obtain ⟨n0, rfl⟩ := Int.eq_ofNat_of_zero_le a0
  obtain ⟨n1, rfl⟩ := Int.eq_ofNat_of_zero_le a1
  obtain ⟨n2, rfl⟩ := Int.eq_ofNat_of_zero_le a2
  obtain ⟨n3, rfl⟩ := Int.eq_ofNat_of_zero_le a3
  obtain ⟨n4, rfl⟩ := Int.eq_ofNat_of_zero_le a4
  obtain ⟨n5, rfl⟩ := Int.eq_ofNat_of_zero_le a5
  obtain ⟨n6, rfl⟩ := Int.eq_ofNat_of_zero_le a6
  obtain ⟨n7, rfl⟩ := Int.eq_ofNat_of_zero_le a7
  have hT := text_walk [n0, n1, n2, n3, n4, n5, n6, n7] w.heap.size 8 (w.alloc (.cells #[.int .u16 n0, .int .u16 n1, .int .u16 n2, .int .u16 n3, .int .u16 n4, .int .u16 n5, .int .u16 n6, .int .u16 n7] 24))
    (by simp) (by simp) (by simp) (by
      intro x hx
      simp only [List.mem_cons, List.not_mem_nil, or_false] at hx
      omega)
    (by
      intro j hj
      have hb : (w.alloc (.cells #[.int .u16 n0, .int .u16 n1, .int .u16 n2, .int .u16 n3, .int .u16 n4, .int .u16 n5, .int .u16 n6, .int .u16 n7] 24)).heap[w.heap.size]? = some (.cells #[.int .u16 n0, .int .u16 n1, .int .u16 n2, .int .u16 n3, .int .u16 n4, .int .u16 n5, .int .u16 n6, .int .u16 n7] 24 (0, 0)) := heap_alloc_new w _
      rw [Lib.cell_of_heap hb]
      match j, hj with
      | 0, _ => rfl
      | 1, _ => rfl
      | 2, _ => rfl
      | 3, _ => rfl
      | 4, _ => rfl
      | 5, _ => rfl
      | 6, _ => rfl
      | 7, _ => rfl
      | j + 8, hj => exact absurd hj (by simp))
  have HT := Lib.hid hT
  clear hT
  go_enter Tryd.func17, Tryd.ntmps17
  go_wp2_with fail
  refine (HT.out).mono ?_
  rintro e w1 ⟨rfl, hb⟩
  go_wp2_with fail
  go_returns
  exact ⟨rfl, ((Below.refl _ _).alloc (Nat.le_refl _) _).trans (hb.mono (by simp))⟩
theorem revHex_one : revHex 1 = [49] := by rw [revHex_last (by decide)]; rfl
theorem text_one : textL [0, 0, 0, 0, 0, 0, 0, 1] = [58, 58, 49] := by
  unfold textL
  rw [show runL [0, 0, 0, 0, 0, 0, 0, 1] = (0, 7) from by decide]
  simp [textGo, textAt, hexL, revHex_one]
set_option maxHeartbeats 1000000 in
set_option maxRecDepth 100000 in
theorem awake_walk (w : World) : Calls Tryd.prog 12 #[] w fun e w' => e = .returned (.bool true) ∧ Below w.heap.size w w' := by
  go_enter Tryd.func12, Tryd.ntmps12
  go_wp2_with fail
  refine (print_walk 0 0 0 0 0 0 0 1 ⟨by decide, by decide, by decide, by decide, by decide, by decide, by decide, by decide⟩ _).mono ?_
  rintro e w1 ⟨rfl, hb⟩
  rw [show printL 0 0 0 0 0 0 0 1 = [58, 58, 49] from text_one]
  go_wp2_with fail
  go_returns
  exact ⟨rfl, hb⟩
end Go.Proofs.YtcgdjnmfeibnoaaDoor
/-! SixEq -/
namespace Go.Proofs.YtcgdjnmfeibnoaaDoor
open Go.RowKit
set_option linter.unusedVariables false
set_option linter.unusedSimpArgs false
@[go_sem] theorem eq8_flat (x0 x1 x2 x3 x4 x5 x6 x7 y0 y1 y2 y3 y4 y5 y6 y7 : Int) (w : World) :
    (Op.equalIn 10000 23 (A8 x0 x1 x2 x3 x4 x5 x6 x7) (A8 y0 y1 y2 y3 y4 y5 y6 y7)).run Tryd.prog w = .ok (x0 == y0 && (x1 == y1 && (x2 == y2 && (x3 == y3 && (x4 == y4 && (x5 == y5 && (x6 == y6 && x7 == y7))))))) w := by
  obtain ⟨i, hi, _⟩ := info_parts (show (Tryd.prog.info? 22).map (fun i => (i.zero, i.size, i.bytes)) = some (some (.int .u16 0), 1, 2) by kernel_rfl)
  exact run_eq8 Tryd.underlying23 hi Tryd.underlying22 (by kernel_rfl) ..
end Go.Proofs.YtcgdjnmfeibnoaaDoor
/-! SixParses -/
namespace Go.Proofs.YtcgdjnmfeibnoaaDoor
open Go.RowKit Go.Proofs.YtcgdjnmfeibnoaaDoorW.PrintWords
set_option linter.unusedVariables false
set_option linter.unusedSimpArgs false
theorem parsed_atP {s : ByteArray} {w : World} {f : Nat → Int} {a b : Int} (hp : parseP s.data.toList = (f, a, b)) {e : Ending} {w' : World} (h : RefParsed s w e w') :
    e = .returned (.tuple #[.agg #[.int .u16 (f 0), .int .u16 (f 1), .int .u16 (f 2), .int .u16 (f 3), .int .u16 (f 4), .int .u16 (f 5), .int .u16 (f 6), .int .u16 (f 7)], .int .i64 a, .int .i64 b]) ∧ Below w.heap.size w w' := by
  obtain ⟨g, rfl, hg, hb⟩ := h
  obtain ⟨h1, h2⟩ := parse_same s.data.toList
  rw [hp] at h1 h2
  rw [← h2]
  refine ⟨?_, hb⟩
  rw [ar8_ext (fun j hj => (hg j hj).trans (h1 j hj).symm)]
  rfl
end Go.Proofs.YtcgdjnmfeibnoaaDoor
/-! Itoa -/
namespace Go.Proofs.YtcgdjnmfeibnoaaDoor
open Go.RowKit Go.Proofs.YtcgdjnmfeibnoaaDoorW.PrintWords Go.Sort
set_option linter.unusedVariables false
set_option linter.unusedSimpArgs false
theorem below_grow (w : World) (n : Nat) (os : Array Obj) : Below w.heap.size w (grow (w.drewN n) os) :=
  ⟨rfl, rfl, rfl, by show w.heap.size ≤ (w.heap ++ os).size; rw [Array.size_append]; omega, fun _ hj => Sort.heap_grow_old (w.drewN n) os hj⟩
def strconv_Itoa.f (a0 : Int) : Option ByteArray := if -9223372036854775808 ≤ a0 ∧ a0 ≤ 9223372036854775807 then some ⟨(Lib.itoa a0).toArray⟩ else none
/-- What Itoa asks of the library's variables: its table. -/
structure GI (w : World) : Prop where
  pow10 : Lib.TabIs Tryd.prog w "internal/strconv.uint64pow10" .u64 Lib.pow10Tab
theorem GI.keep {w w' : World} (h : GI w) (hb : Below w.heap.size w w') : GI w' := ⟨tab_keep h.pow10 hb⟩
theorem itoa_at (a0 : Int) (r : ByteArray) (w : World) (hG : GI w) (h : strconv_Itoa.f a0 = some r) :
    Calls Tryd.prog 111 #[.int .i64 a0] w fun e w' => e = .returned (.string r) ∧ Below w.heap.size w w' := by
  unfold strconv_Itoa.f at h
  by_cases hs : -9223372036854775808 ≤ a0 ∧ a0 ≤ 9223372036854775807
  · rw [if_pos hs] at h
    obtain rfl := Option.some.inj h
    refine (Tryd.strconv_Itoa a0 hs.1 hs.2 w hG.pow10).mono ?_
    rintro e w' ⟨rfl, k, os, rfl⟩
    exact ⟨rfl, below_grow w k os⟩
  · rw [if_neg hs] at h
    cases h
def strings_Join.f (l0 : List ByteArray) (a1 : ByteArray) : Option ByteArray :=
  if l0.length ≤ 140737488355328 ∧ (Lib.join (l0.map (·.data.toList)) a1.data.toList).length ≤ 140737488355328 then some ⟨(Lib.join (l0.map (·.data.toList)) a1.data.toList).toArray⟩ else none
theorem strings_Join.calls (A0 : Option Addr) (c0 : Nat) (l0 : List ByteArray) (a1 : ByteArray) (r : ByteArray) (w : World) (hr0 : Kd.C Kd.string w A0 l0.length l0) (hc0 : l0.length ≤ c0) (h : strings_Join.f l0 a1 = some r) :
    Calls Tryd.prog 70 #[.slice A0 l0.length c0, .string a1] w fun e w' => e = .returned (.string r) ∧ Below w.heap.size w w' := by
  unfold strings_Join.f at h
  by_cases hs : l0.length ≤ 140737488355328 ∧ (Lib.join (l0.map (·.data.toList)) a1.data.toList).length ≤ 140737488355328
  · rw [if_pos hs] at h
    obtain rfl := Option.some.inj h
    by_cases h0 : l0 = []
    · subst h0
      refine (Tryd.strings_Join_none A0 c0 a1 w).mono ?_
      rintro e w' ⟨rfl, rfl⟩
      exact ⟨rfl, Below.refl _ _⟩
    · have hl : 0 < l0.length := List.length_pos_iff.2 h0
      obtain ⟨ad, rfl, hc⟩ := Kd.at_string hr0 0 (by omega) (by omega)
      obtain ⟨b, o, sp⟩ := ad
      have hsp : sp = none := by
        cases sp with
        | none => rfl
        | some x =>
          simp [World.cell?, Addr.add] at hc
          split at hc <;> cases hc
      subst hsp
      refine Tryd.strings_Join b o c0 l0 a1 w (fun j x hx => ?_) (World.block_lt_of_cell? w _ (by simpa [Addr.add] using hc)) hs.1 hc0 hs.2
      have hj : j < l0.length := (List.getElem?_eq_some_iff.1 hx).1
      obtain ⟨ad', e, hc'⟩ := Kd.at_string hr0 (j : Int) (by omega) (by omega)
      cases e
      have ev : rdOf ByteArray.empty l0 (j : Int) = x := by
        unfold rdOf
        rw [Int.toNat_natCast, List.getD_eq_getElem?_getD, hx]
        rfl
      rw [ev] at hc'
      have ea : ((⟨b, o, none⟩ : Addr).add (j : Int).toNat) = ⟨b, o + j, none⟩ := by unfold Addr.add; split <;> simp_all
      rw [ea] at hc'
      exact hc'
  · rw [if_neg hs] at h
    cases h
end Go.Proofs.YtcgdjnmfeibnoaaDoor
/-! Dec -/
namespace Go.Proofs.YtcgdjnmfeibnoaaDoor
open Go.RowKit Go.Proofs.YtcgdjnmfeibnoaaDoorW.PrintWords
set_option linter.unusedVariables false
set_option linter.unusedSimpArgs false
/-- A digit's byte. -/
def dgt (n : Nat) : UInt8 := UInt8.ofNat (48 + n)
theorem dgt_toNat {n : Nat} (h : n < 10) : (dgt n).toNat = 48 + n := by
  unfold dgt
  rw [UInt8.toNat_ofNat']
  omega
/-- A number below 1000 in digits. -/
def dec3 (n : Nat) : List UInt8 := (if 100 ≤ n then [dgt (n / 100)] else []) ++ (if 10 ≤ n then [dgt (n / 10 % 10)] else []) ++ [dgt (n % 10)]
theorem decDigits_small {n : Nat} (h : n < 1000) : Lib.decDigits n = dec3 n := by
  unfold dec3
  by_cases h1 : n < 10
  · rw [Lib.decDigits, dif_pos h1, if_neg (by omega), if_neg (by omega), Nat.mod_eq_of_lt h1]
    rfl
  · rw [Lib.decDigits, dif_neg h1]
    by_cases h2 : n < 100
    · rw [Lib.decDigits, dif_pos (by omega), if_neg (by omega), if_pos (by omega), show n / 10 % 10 = n / 10 by omega]
      rfl
    · rw [Lib.decDigits, dif_neg (by omega), Lib.decDigits, dif_pos (by omega), if_pos (by omega), if_pos (by omega), Nat.div_div_eq_div_mul]
      rfl
theorem itoa_small {b : Int} (h0 : 0 ≤ b) (h1 : b < 1000) : Lib.itoa b = dec3 b.toNat := by
  unfold Lib.itoa
  rw [if_neg (by omega), decDigits_small (by omega)]
theorem dec3_len (n : Nat) : 1 ≤ (dec3 n).length ∧ (dec3 n).length ≤ 3 := by
  unfold dec3
  (repeat' split) <;> simp
theorem itoa_len {b : Int} (h0 : 0 ≤ b) (h1 : b ≤ 255) : 1 ≤ (Lib.itoa b).length ∧ (Lib.itoa b).length ≤ 3 := by
  rw [itoa_small h0 (by omega)]
  exact dec3_len _
theorem join4 (a b c d : List UInt8) : Lib.join [a, b, c, d] [46] = a ++ 46 :: (b ++ 46 :: (c ++ 46 :: d)) := by
  simp [Lib.join, List.intercalate]
end Go.Proofs.YtcgdjnmfeibnoaaDoor
/-! SixFourP -/
namespace Go.Proofs.YtcgdjnmfeibnoaaDoor
open Go.RowKit Go.Proofs.YtcgdjnmfeibnoaaDoorW.PrintWords
set_option linter.unusedVariables false
set_option linter.unusedSimpArgs false
theorem own_belowF {w W : World} {base : Nat} {e : TypeId} {size n : Nat} {v : Value} {xs : List Value} (h : w.ownsRow base e size v n xs) (hb : Below w.heap.size w W) : W.ownsRow base e size v n xs :=
  own_move h (fun k hk => hb.block k (own_lt h k hk))
/-- The four bytes of an address. -/
def oct4 (n : Int) : List Int := [n / 16777216, n / 65536 % 256, n / 256 % 256, n % 256]
/-- An address as a text. -/
def printV (n : Int) : List UInt8 := Lib.join ((oct4 n).map Lib.itoa) [46]
theorem join4_len {b0 b1 b2 b3 : Int} (a0 : 0 ≤ b0) (a1 : 0 ≤ b1) (a2 : 0 ≤ b2) (a3 : 0 ≤ b3) (c0 : b0 ≤ 255) (c1 : b1 ≤ 255) (c2 : b2 ≤ 255) (c3 : b3 ≤ 255) : (Lib.join ([b0, b1, b2, b3].map Lib.itoa) [46]).length ≤ 140737488355328 := by
  have := itoa_len a0 c0
  have := itoa_len a1 c1
  have := itoa_len a2 c2
  have := itoa_len a3 c3
  simp only [List.map_cons, List.map_nil, join4, List.length_append, List.length_cons]
  omega
set_option maxHeartbeats 1000000 in
set_option maxRecDepth 100000 in
theorem octets_walk (n : Int) (h0 : 0 ≤ n) (h1 : n ≤ 4294967295) (w : World) :
    Calls Tryd.prog 110 #[.int .u32 n] w fun e w' => e = .returned (.agg #[.int .u8 (n / 16777216), .int .u8 (n / 65536 % 256), .int .u8 (n / 256 % 256), .int .u8 (n % 256)]) ∧ Below w.heap.size w w' := by
  go_enter Tryd.func110, Tryd.ntmps110
  go_wp2
  go_returns
  exact ⟨rfl, by go_grown⟩
set_option maxHeartbeats 4000000 in
set_option maxRecDepth 100000 in
theorem fourPrint_walk (n : Int) (h0 : 0 ≤ n) (h1 : n ≤ 4294967295) (w : World) (hG : GI w) :
    Calls Tryd.prog 73 #[.int .u32 n] w fun e w' => e = .returned (.string (BA (printV n))) ∧ Below w.heap.size w w' := by
  obtain ⟨b0, hb0⟩ : ∃ b, b = n / 16777216 := ⟨_, rfl⟩
  obtain ⟨b1, hb1⟩ : ∃ b, b = n / 65536 % 256 := ⟨_, rfl⟩
  obtain ⟨b2, hb2⟩ : ∃ b, b = n / 256 % 256 := ⟨_, rfl⟩
  obtain ⟨b3, hb3⟩ : ∃ b, b = n % 256 := ⟨_, rfl⟩
  have hO := octets_walk n h0 h1
  have hP : printV n = Lib.join ([b0, b1, b2, b3].map Lib.itoa) [46] := by rw [hb0, hb1, hb2, hb3]; rfl
  rw [← hb0, ← hb1, ← hb2, ← hb3] at hO
  have a0 : 0 ≤ b0 := by omega
  have a1 : 0 ≤ b1 := by omega
  have a2 : 0 ≤ b2 := by omega
  have a3 : 0 ≤ b3 := by omega
  have c0 : b0 ≤ 255 := by omega
  have c1 : b1 ≤ 255 := by omega
  have c2 : b2 ≤ 255 := by omega
  have c3 : b3 ≤ 255 := by omega
  have HO := Aside0.mk hO
  have HP := Aside0.mk hP
  have HG := Aside0.mk hG
  clear hO hP hG hb0 hb1 hb2 hb3
  go_enter Tryd.func73, Tryd.ntmps73
  go_wp2_with fail
  refine (HO.out _).mono ?_
  rintro e w1 ⟨rfl, hb1⟩
  go_wp2_with fail
  have i0 : ∀ w, (Instr.index 162 (.agg #[.int .u8 b0, .int .u8 b1, .int .u8 b2, .int .u8 b3]) (.int .i64 0)).run Tryd.prog w = .ok (.int .u8 b0) w := fun _ => by kernel_rfl
  have i1 : ∀ w, (Instr.index 162 (.agg #[.int .u8 b0, .int .u8 b1, .int .u8 b2, .int .u8 b3]) (.int .i64 1)).run Tryd.prog w = .ok (.int .u8 b1) w := fun _ => by kernel_rfl
  have i2 : ∀ w, (Instr.index 162 (.agg #[.int .u8 b0, .int .u8 b1, .int .u8 b2, .int .u8 b3]) (.int .i64 2)).run Tryd.prog w = .ok (.int .u8 b2) w := fun _ => by kernel_rfl
  have i3 : ∀ w, (Instr.index 162 (.agg #[.int .u8 b0, .int .u8 b1, .int .u8 b2, .int .u8 b3]) (.int .i64 3)).run Tryd.prog w = .ok (.int .u8 b3) w := fun _ => by kernel_rfl
  obtain ⟨i0_, hi, hz0, hz1, hz2⟩ := info_parts (show (Tryd.prog.info? 9).map (fun i => (i.zero, i.size, i.bytes)) = some (some (.string ⟨#[]⟩), 1, 16) by kernel_rfl)
  have R0 : w1.ownsRow w.heap.size 9 1 (.slice none 0 0) 0 [] := ⟨by simp, .inl ⟨rfl, rfl⟩⟩
  have B0 : Below w.heap.size w w1 := hb1
  clear hb1 HO
  refine wp_loop_rounds 5 ?_
  rw [rounds_succ]
  go_wp2_with (simp only [i0])
  refine (itoa_at b0 (BA (Lib.itoa b0)) _ (HG.out.keep B0) (if_pos ⟨by omega, by omega⟩)).mono ?_
  rintro e u0 ⟨rfl, hu0⟩
  have o0 := own_belowF R0 hu0
  have C0 := below_step B0 hu0
  have hs0 := C0.size
  clear R0 B0 hu0
  go_wp2_with (at_builtin; refine app_one rfl _ _ 70 rfl w.heap.size 9 i0_ (.string ⟨#[]⟩) 1 16 Tryd.underlying70 hi hz0 hz1 hz2 rfl (by decide) _ _ _ rfl o0 [.string (BA (Lib.itoa b0))] rfl rfl (by simp [Value.oneCell']) (by unfold maxLen; omega) (by omega) hs0 ?_; intro g1 cap1 v1 hg1 R1 hgrow1 hbel1)
  have B1 := hbel1 _ _ (Nat.le_refl _) C0
  clear o0 C0 hs0 hg1 hgrow1 hbel1
  rw [rounds_succ]
  go_wp2_with (simp only [i1])
  refine (itoa_at b1 (BA (Lib.itoa b1)) _ (HG.out.keep B1) (if_pos ⟨by omega, by omega⟩)).mono ?_
  rintro e u1 ⟨rfl, hu1⟩
  have o1 := own_belowF R1 hu1
  have C1 := below_step B1 hu1
  have hs1 := C1.size
  clear R1 B1 hu1
  go_wp2_with (at_builtin; refine app_one rfl _ _ 70 rfl w.heap.size 9 i0_ (.string ⟨#[]⟩) 1 16 Tryd.underlying70 hi hz0 hz1 hz2 rfl (by decide) _ _ _ rfl o1 [.string (BA (Lib.itoa b1))] rfl rfl (by simp [Value.oneCell']) (by unfold maxLen; omega) (by omega) hs1 ?_; intro g2 cap2 v2 hg2 R2 hgrow2 hbel2)
  have B2 := hbel2 _ _ (Nat.le_refl _) C1
  clear o1 C1 hs1 hg2 hgrow2 hbel2
  rw [rounds_succ]
  go_wp2_with (simp only [i2])
  refine (itoa_at b2 (BA (Lib.itoa b2)) _ (HG.out.keep B2) (if_pos ⟨by omega, by omega⟩)).mono ?_
  rintro e u2 ⟨rfl, hu2⟩
  have o2 := own_belowF R2 hu2
  have C2 := below_step B2 hu2
  have hs2 := C2.size
  clear R2 B2 hu2
  go_wp2_with (at_builtin; refine app_one rfl _ _ 70 rfl w.heap.size 9 i0_ (.string ⟨#[]⟩) 1 16 Tryd.underlying70 hi hz0 hz1 hz2 rfl (by decide) _ _ _ rfl o2 [.string (BA (Lib.itoa b2))] rfl rfl (by simp [Value.oneCell']) (by unfold maxLen; omega) (by omega) hs2 ?_; intro g3 cap3 v3 hg3 R3 hgrow3 hbel3)
  have B3 := hbel3 _ _ (Nat.le_refl _) C2
  clear o2 C2 hs2 hg3 hgrow3 hbel3
  rw [rounds_succ]
  go_wp2_with (simp only [i3])
  refine (itoa_at b3 (BA (Lib.itoa b3)) _ (HG.out.keep B3) (if_pos ⟨by omega, by omega⟩)).mono ?_
  rintro e u3 ⟨rfl, hu3⟩
  have o3 := own_belowF R3 hu3
  have C3 := below_step B3 hu3
  have hs3 := C3.size
  clear R3 B3 hu3
  go_wp2_with (at_builtin; refine app_one rfl _ _ 70 rfl w.heap.size 9 i0_ (.string ⟨#[]⟩) 1 16 Tryd.underlying70 hi hz0 hz1 hz2 rfl (by decide) _ _ _ rfl o3 [.string (BA (Lib.itoa b3))] rfl rfl (by simp [Value.oneCell']) (by unfold maxLen; omega) (by omega) hs3 ?_; intro g4 cap4 v4 hg4 R4 hgrow4 hbel4)
  have B4 := hbel4 _ _ (Nat.le_refl _) C3
  clear o3 C3 hs3 hg4 hgrow4 hbel4
  rw [rounds_succ]
  go_wp2_with fail
  have KR := kd_strings (xs := [BA (Lib.itoa b0), BA (Lib.itoa b1), BA (Lib.itoa b2), BA (Lib.itoa b3)]) R4
  obtain ⟨A, c, hv, hle, hC⟩ := Kd.R_reads KR
  injection hv with e1 _ e3
  subst e1 e3
  refine (strings_Join.calls _ cap4 _ (BA [46]) (BA (printV n)) _ hC hle ?_).mono ?_
  · unfold strings_Join.f
    have hl := join4_len a0 a1 a2 a3 c0 c1 c2 c3
    rw [if_pos ⟨by simp, by simpa [ba_list] using hl⟩, HP.out]
    rfl
  rintro e w9 ⟨rfl, hb9⟩
  have B5 := below_step B4 hb9
  go_wp2_with fail
  go_ret
  exact ⟨rfl, B5⟩
end Go.Proofs.YtcgdjnmfeibnoaaDoor
/-! SixPath -/
namespace Go.Proofs.YtcgdjnmfeibnoaaDoor
open Go.RowKit Go.Proofs.YtcgdjnmfeibnoaaDoorW.PrintWords
set_option linter.unusedVariables false
set_option linter.unusedSimpArgs false
/-- A way of a reader over a text. -/
inductive Way : List UInt8 → St → St → Prop
  | none {s : St} : Way [] s s
  | more {c : UInt8} {t : List UInt8} {s y z : St} (h : y ∈ nextP s (c.toNat : Int)) (r : Way t y z) : Way (c :: t) s z
theorem Way.one {c : UInt8} {s y : St} (h : y ∈ nextP s (c.toNat : Int)) : Way [c] s y := .more h .none
theorem Way.trans {a b : List UInt8} {s y z : St} (h : Way a s y) (k : Way b y z) : Way (a ++ b) s z := by
  induction h with
  | none => exact k
  | more h _ ih => exact .more h (ih k)
theorem Way.states {t : List UInt8} {s z : St} (h : Way t s z) : ∀ (l : List St) (i : Nat), s ∈ l → ∃ m, statesV t l i = .inr m ∧ z ∈ m := by
  induction h with
  | none => exact fun l i hs => ⟨l, rfl, hs⟩
  | @more c t s y z h _ ih =>
    intro l i hs
    have hy : y ∈ l.flatMap (nextP · (c.toNat : Int)) := List.mem_flatMap.2 ⟨s, hs, h⟩
    rw [statesV, if_neg (fun e => by rw [e] at hy; cases hy)]
    exact ih _ _ hy
theorem way_parse {t : List UInt8} {z : St} (h : Way t st0 z) (he : endsP z = true) : parseP t = (outOf (writtenV (cut2 t).1) (writtenV (cut2 t).2.1), 0, 0) := by
  obtain ⟨m, hm, hz⟩ := h.states [st0] 0 (by simp)
  unfold parseP
  rw [hm]
  simp only
  rw [if_pos (List.any_eq_true.2 ⟨z, hz, he⟩)]
theorem hex_not58 {c : UInt8} (h : 0 ≤ digV (c.toNat : Int) 16) : ¬ (c.toNat : Int) = 58 := fun e => by rw [e, hex_58] at h; omega
theorem next_dig {s : St} {c : UInt8} (hw : s.wh = 4) (hd : s.dg < 4) (h : 0 ≤ digV (c.toNat : Int) 16) : { s with dg := s.dg + 1 } ∈ nextP s (c.toNat : Int) := by
  have h58 := hex_not58 h
  unfold nextP
  rw [if_neg (by omega), if_neg (by omega), if_neg (by omega), if_neg (by omega), if_pos ⟨hw, h, hd⟩]
  simp
theorem way_digits : ∀ (p : List UInt8) (s : St), s.wh = 4 → s.dg + (p.length : Int) ≤ 4 → (∀ c ∈ p, 0 ≤ digV (c.toNat : Int) 16) → Way p s { s with dg := s.dg + (p.length : Int) }
  | [], s, _, _, _ => by
    have : ({ s with dg := s.dg + (([] : List UInt8).length : Int) } : St) = s := by simp
    rw [this]; exact .none
  | c :: p, s, hw, hd, h => by
    rw [List.length_cons] at hd
    have ih := way_digits p { s with dg := s.dg + 1 } hw (by show s.dg + 1 + (p.length : Int) ≤ 4; omega) (fun x hx => h x (List.mem_cons_of_mem _ hx))
    have e : ({ s with dg := s.dg + ((c :: p).length : Int) } : St) = { s with dg := s.dg + 1 + (p.length : Int) } := by
      rw [List.length_cons]
      congr 1
      omega
    rw [e]
    exact .more (next_dig hw (by omega) (h c (by simp))) ih
/-- Where a piece may begin. -/
def opens (s : St) : Prop := s.wh = 0 ∨ s.wh = 2 ∨ s.wh = 3
theorem next_first {s : St} {c : UInt8} (hw : opens s) (hm : moreP s = true) (h : 0 ≤ digV (c.toNat : Int) 16) : { s with wh := 4, dg := 1 } ∈ nextP s (c.toNat : Int) := by
  have h58 := hex_not58 h
  unfold nextP opens at *
  rw [if_neg (by omega), if_neg (by omega), if_pos hw]
  unfold beginP
  rw [if_pos ⟨h, hm⟩]
  simp
theorem way_piece {p : List UInt8} (hp : Pc p) {s : St} (hw : opens s) (hm : moreP s = true) : Way p s { s with wh := 4, dg := (p.length : Int) } := by
  obtain ⟨l1, l4, hx⟩ := hp
  cases p with
  | nil => simp at l1
  | cons c p =>
    have h1 := next_first hw hm (hx c (by simp))
    have h2 := way_digits p { s with wh := 4, dg := 1 } rfl (by simp at l4; show (1 : Int) + p.length ≤ 4; omega) (fun x q => hx x (List.mem_cons_of_mem _ q))
    have e : ({ s with wh := 4, dg := ((c :: p).length : Int) } : St) = { s with wh := 4, dg := 1 + (p.length : Int) } := by
      rw [List.length_cons]
      congr 1
      omega
    rw [e]
    exact .more h1 h2
theorem next_end {s : St} (hw : s.wh = 4) (hm : moreP { s with wh := 2, pc := s.pc + 1 } = true) : { s with wh := 2, pc := s.pc + 1 } ∈ nextP s 58 := by
  unfold nextP
  rw [if_neg (by omega), if_neg (by omega), if_neg (by omega), if_pos ⟨hw, rfl⟩, if_pos hm]
  simp
/-- How many pieces there may be. -/
def mostOf (s : St) : Int := if s.gap then 7 else 8
theorem more_most (s : St) : moreP s = decide (s.pc < mostOf s) := by
  unfold moreP mostOf
  split <;> rfl
/-- Pieces, a colon behind each, behind which one more may stand. -/
theorem way_ends : ∀ (fs : List (List UInt8)) (s : St), (∀ p ∈ fs, Pc p) → opens s → s.pc + (fs.length : Int) < mostOf s → ∃ z, Way (endC fs) s z ∧ opens z ∧ z.pc = s.pc + (fs.length : Int) ∧ z.gap = s.gap ∧ z.nu = s.nu ∧ (fs ≠ [] → z.wh = 2) ∧ (fs = [] → z = s)
  | [], s, _, hw, _ => ⟨s, .none, hw, by simp, rfl, rfl, fun h => absurd rfl h, fun _ => rfl⟩
  | p :: r, s, hp, hw, hn => by
    rw [List.length_cons] at hn
    have h1 := way_piece (hp p (by simp)) hw (by rw [more_most]; exact decide_eq_true (by omega))
    have hm : moreP { s with wh := 2, pc := s.pc + 1, dg := (p.length : Int) } = true := by
      rw [more_most]
      refine decide_eq_true ?_
      show s.pc + 1 < mostOf s
      omega
    have h2 : Way [58] { s with wh := 4, dg := (p.length : Int) } { s with wh := 2, pc := s.pc + 1, dg := (p.length : Int) } := .one (next_end (s := { s with wh := 4, dg := (p.length : Int) }) rfl hm)
    obtain ⟨z, hz, ho, a, b, c, d, e⟩ := way_ends r { s with wh := 2, pc := s.pc + 1, dg := (p.length : Int) } (fun q hq => hp q (List.mem_cons_of_mem _ hq)) (.inr (.inl rfl)) (by show s.pc + 1 + (r.length : Int) < mostOf s; omega)
    refine ⟨z, ?_, ho, by rw [a, List.length_cons]; show s.pc + 1 + (r.length : Int) = _; omega, b, c, fun _ => ?_, fun h => by cases h⟩
    · have := (h1.trans h2).trans hz
      rw [endC]
      simpa using this
    · by_cases hr : r = []
      · rw [e hr]
      · exact d hr
/-- The state behind '::'. -/
theorem way_gap (fs : List (List UInt8)) (hp : ∀ p ∈ fs, Pc p) (hn : fs.length ≤ 7) : ∃ z, Way (headC fs ++ [58]) st0 z ∧ z.wh = 3 ∧ z.pc = (fs.length : Int) ∧ z.gap = true ∧ z.nu = 0 := by
  unfold headC
  by_cases hf : fs = []
  · subst hf
    rw [if_pos rfl]
    refine ⟨{ st0 with wh := 3, gap := true }, .more (y := { st0 with wh := 1 }) ?_ (.one ?_), rfl, rfl, rfl, rfl⟩
    · unfold nextP; rw [if_pos ⟨rfl, rfl⟩]; simp
    · unfold nextP; rw [if_neg (by decide), if_pos (by decide)]; simp
  · rw [if_neg hf]
    obtain ⟨z, hz, _, a, b, c, d, _⟩ := way_ends fs st0 hp (.inl rfl) (by show (0 : Int) + _ < 8; omega)
    have h2 := d hf
    refine ⟨{ z with wh := 3, gap := true }, hz.trans (.one ?_), rfl, by rw [show ({ z with wh := 3, gap := true } : St).pc = z.pc from rfl, a]; show (0 : Int) + _ = _; omega, rfl, c⟩
    unfold nextP
    rw [if_neg (by omega), if_pos ⟨.inr ⟨h2, b⟩, rfl⟩]
    simp
/-- Pieces, all eight of them. -/
theorem parse_full (fs : List (List UInt8)) (hp : ∀ p ∈ fs, Pc p) (hn : fs.length = 8) : parseP (joinC fs) = (outOf (fs.map pcV) [], 0, 0) := by
  obtain ⟨f, cur, rfl⟩ : ∃ f cur, fs = f ++ [cur] := ⟨fs.dropLast, fs.getLast (fun e => by rw [e] at hn; cases hn), (List.dropLast_concat_getLast _).symm⟩
  have hc : Pc cur := hp cur (by simp)
  have hf : ∀ p ∈ f, Pc p := fun p h => hp p (by simp [h])
  rw [List.length_append] at hn
  simp at hn
  rw [joinC_last]
  obtain ⟨z, hz, ho, a, b, c, d, _⟩ := way_ends f st0 hf (.inl rfl) (by show (0 : Int) + _ < 8; omega)
  have ha : z.pc = 7 := by rw [a]; show (0 : Int) + _ = 7; omega
  have hb : z.gap = false := b
  have h1 := hz.trans (way_piece hc ho (by rw [more_most]; refine decide_eq_true ?_; unfold mostOf; rw [hb, ha]; decide))
  rw [way_parse h1 (by unfold endsP; show (if (4 : Int) = 3 then true else if (4 : Int) = 4 then (z.gap || decide (z.pc = 7)) else _) = true; rw [if_neg (by decide), if_pos rfl, ha]; simp)]
  obtain ⟨e1, e2⟩ := cut_neg hf hc.pt
  rw [e1]
  show (outOf (writtenV (endC f ++ cur)) (writtenV []), (0 : Int), (0 : Int)) = _
  rw [e2, grpV_pc hc, List.map_append]
  rfl
/-- Pieces ahead of '::' and behind it. -/
theorem parse_gap (fs bs : List (List UInt8)) (hp : ∀ p ∈ fs, Pc p) (hb : ∀ p ∈ bs, Pc p) (hn : fs.length + bs.length ≤ 7) : parseP (joinC fs ++ 58 :: 58 :: joinC bs) = (outOf (fs.map pcV) (bs.map pcV), 0, 0) := by
  have e0 : ∀ l : List UInt8, joinC fs ++ 58 :: 58 :: l = headC fs ++ 58 :: l := by
    intro l
    unfold headC
    by_cases h : fs = []
    · rw [if_pos h, h]; rfl
    · rw [if_neg h, endC_join h]; simp
  rw [e0]
  obtain ⟨z, hz, z3, zp, zg, zn⟩ := way_gap fs hp (by omega)
  have hcut := cut_pos hp (joinC bs)
  by_cases hbs : bs = []
  · subst hbs
    have h1 : Way (headC fs ++ 58 :: joinC []) st0 z := hz
    rw [way_parse h1 (by unfold endsP; rw [if_pos z3]), hcut.1]
    show (outOf (writtenV (joinC fs)) (writtenV []), (0 : Int), (0 : Int)) = _
    rw [hcut.2]
    rfl
  · obtain ⟨b, cur, rfl⟩ : ∃ b cur, bs = b ++ [cur] := ⟨bs.dropLast, bs.getLast hbs, (List.dropLast_concat_getLast _).symm⟩
    have hc : Pc cur := hb cur (by simp)
    have hf : ∀ p ∈ b, Pc p := fun p h => hb p (by simp [h])
    rw [List.length_append] at hn
    simp at hn
    have hmz : mostOf z = 7 := by unfold mostOf; rw [zg]; rfl
    obtain ⟨y, hy, yo, ya, yb, _, _, _⟩ := way_ends b z hf (.inr (.inr z3)) (by rw [hmz, zp]; omega)
    have h2 := (hz.trans hy).trans (way_piece hc yo (by rw [more_most]; refine decide_eq_true ?_; unfold mostOf; rw [yb, zg, ya, zp]; show _ < (7 : Int); omega))
    have e3 : headC fs ++ [58] ++ endC b ++ cur = headC fs ++ 58 :: joinC (b ++ [cur]) := by rw [joinC_last]; simp
    rw [e3] at h2
    rw [way_parse h2 (by unfold endsP; show (if (4 : Int) = 3 then true else if (4 : Int) = 4 then (y.gap || decide (y.pc = 7)) else _) = true; rw [if_neg (by decide), if_pos rfl, yb, zg]; rfl), hcut.1]
    show (outOf (writtenV (joinC fs)) (writtenV (joinC (b ++ [cur]))), (0 : Int), (0 : Int)) = _
    rw [hcut.2, joinC_last, written_back hf hc.pt, grpV_pc hc, List.map_append]
    rfl
/-- Where a number of an IPv4 address may begin, or how it stands. -/
structure DotAt (s : St) (part size : Nat) (x : Int) : Prop where
  nu : s.nu = (part : Int)
  p3 : part ≤ 3
  mid : 0 < size → s.wh = 5 ∧ s.va = x
  new : size = 0 → x = 0 ∧ (s.wh = 6 ∨ opens s ∧ mayP s = true)
/-- A part that is an IPv4 address. -/
theorem way_dots : ∀ (l : List UInt8) (i : Nat) (n : Int) (part size : Nat) (x : Int) (s : St), (strictL l i n part size x).2.2 = 0 → DotAt s part size x → ∃ z, Way l s z ∧ z.wh = 5 ∧ z.nu = 3
  | [], i, n, part, size, x, s, h, hd => by
    rw [strictL] at h
    split at h
    · cases h
    · rename_i hq
      have hp := hd.p3
      obtain ⟨a, b⟩ := hd.mid (by omega)
      exact ⟨s, .none, a, by rw [hd.nu]; omega⟩
  | c :: l, i, n, part, size, x, s, h, hd => by
    have e10 := digV10 (c.toNat : Int)
    rw [strictL] at h
    split at h
    · rename_i hq
      obtain ⟨q1, q2, q3, q4⟩ := hq
      rw [if_pos ⟨q1, q2⟩] at e10
      rcases Nat.eq_zero_or_pos size with hz | hz
      · obtain ⟨hx, hw⟩ := hd.new hz
        have hy : { s with wh := 5, va := (c.toNat : Int) - 48 } ∈ nextP s (c.toNat : Int) := by
          unfold nextP
          rcases hw with hw | ⟨hw, hm⟩
          · rw [if_neg (by omega), if_neg (by omega), if_neg (by omega), if_neg (by omega), if_neg (by omega), if_neg (by omega), if_pos ⟨hw, by omega⟩, e10]
            simp
          · unfold opens at hw
            rw [if_neg (by omega), if_neg (by omega), if_pos hw]
            unfold beginP
            rw [if_pos (show 0 ≤ digV (c.toNat : Int) 10 ∧ mayP s = true from ⟨by omega, hm⟩), e10]
            simp
        obtain ⟨z, hz', a, b⟩ := way_dots l _ _ _ _ _ { s with wh := 5, va := (c.toNat : Int) - 48 } h ⟨hd.nu, hd.p3, fun _ => ⟨rfl, by show (c.toNat : Int) - 48 = _; omega⟩, fun q => by omega⟩
        exact ⟨z, .more hy hz', a, b⟩
      · obtain ⟨hw, hv⟩ := hd.mid hz
        have hy : { s with va := 10 * s.va + ((c.toNat : Int) - 48) } ∈ nextP s (c.toNat : Int) := by
          unfold nextP
          rw [if_neg (by omega), if_neg (by omega), if_neg (by omega), if_neg (by omega), if_neg (by omega), if_neg (by omega), if_neg (by omega), if_pos ⟨hw, by omega, by omega, by omega⟩, e10]
          simp
        obtain ⟨z, hz', a, b⟩ := way_dots l _ _ _ _ _ { s with va := 10 * s.va + ((c.toNat : Int) - 48) } h ⟨hd.nu, hd.p3, fun _ => ⟨hw, by show 10 * s.va + ((c.toNat : Int) - 48) = _; rw [hv]⟩, fun q => by omega⟩
        exact ⟨z, .more hy hz', a, b⟩
    · split at h
      · rename_i hq
        obtain ⟨rfl, q2, q3⟩ := hq
        obtain ⟨hw, hv⟩ := hd.mid q2
        have hn := hd.nu
        have hy : { s with wh := 6, nu := s.nu + 1 } ∈ nextP s ((46 : UInt8).toNat : Int) := by
          unfold nextP
          rw [if_neg (by omega), if_neg (by omega), if_neg (by omega), if_neg (by omega), if_neg (by omega), if_pos ⟨hw, rfl, by omega⟩]
          simp
        obtain ⟨z, hz', a, b⟩ := way_dots l _ _ _ _ _ { s with wh := 6, nu := s.nu + 1 } h ⟨by show s.nu + 1 = ((part + 1 : Nat) : Int); omega, by omega, fun q => absurd q (by decide), fun _ => ⟨rfl, .inl rfl⟩⟩
        exact ⟨z, .more hy hz', a, b⟩
      · cases h
/-- Six pieces and an IPv4 address. -/
theorem parse_dots (fs : List (List UInt8)) (q : List UInt8) (n : Int) (hp : ∀ p ∈ fs, Pc p) (hn : fs.length = 6) (hq : strictV q = (n, 0, 0)) (h58 : (58 : UInt8) ∉ q) (hne : q ≠ []) : parseP (joinC (fs ++ [q])) = (outOf (fs.map pcV ++ [n / 65536 % 65536, n % 65536]) [], 0, 0) := by
  rw [joinC_last]
  obtain ⟨z, hz, ho, a, b, c, d, _⟩ := way_ends fs st0 hp (.inl rfl) (by show (0 : Int) + _ < 8; omega)
  have ha : z.pc = 6 := by rw [a]; show (0 : Int) + _ = 6; omega
  have hb : z.gap = false := b
  obtain ⟨y, hy, y1, y2⟩ := way_dots q 0 0 0 0 0 z (by unfold strictV at hq; rw [hq]) ⟨by rw [c]; rfl, by decide, fun h => absurd h (by decide), fun _ => ⟨rfl, .inr ⟨ho, by unfold mayP; rw [hb, ha]; decide⟩⟩⟩
  rw [way_parse (hz.trans hy) (by unfold endsP; rw [if_neg (by omega), if_neg (by omega), if_pos y1, y2]; decide)]
  obtain ⟨e1, e2⟩ := cut_neg hp (cur := q) ⟨hne, h58⟩
  rw [e1]
  show (outOf (writtenV (endC fs ++ q)) (writtenV []), (0 : Int), (0 : Int)) = _
  have hG : grpV q = [n / 65536 % 65536, n % 65536] := by unfold grpV; rw [hq, if_pos rfl]
  rw [e2, hG]
  rfl
/-- Pieces ahead of '::', pieces and an IPv4 address behind it. -/
theorem parse_gap_dots (fs bs : List (List UInt8)) (q : List UInt8) (n : Int) (hp : ∀ p ∈ fs, Pc p) (hb : ∀ p ∈ bs, Pc p) (hn : fs.length + bs.length ≤ 5) (hq : strictV q = (n, 0, 0)) (h58 : (58 : UInt8) ∉ q) (hne : q ≠ []) :
    parseP (joinC fs ++ 58 :: 58 :: joinC (bs ++ [q])) = (outOf (fs.map pcV) (bs.map pcV ++ [n / 65536 % 65536, n % 65536]), 0, 0) := by
  have e0 : ∀ l : List UInt8, joinC fs ++ 58 :: 58 :: l = headC fs ++ 58 :: l := by
    intro l
    unfold headC
    by_cases h : fs = []
    · rw [if_pos h, h]; rfl
    · rw [if_neg h, endC_join h]; simp
  rw [e0]
  obtain ⟨z, hz, z3, zp, zg, zn⟩ := way_gap fs hp (by omega)
  have hcut := cut_pos hp (joinC (bs ++ [q]))
  have hmz : mostOf z = 7 := by unfold mostOf; rw [zg]; rfl
  obtain ⟨y, hy, yo, ya, yb, yn, _, _⟩ := way_ends bs z hb (.inr (.inr z3)) (by rw [hmz, zp]; omega)
  obtain ⟨u, hu, u1, u2⟩ := way_dots q 0 0 0 0 0 y (by unfold strictV at hq; rw [hq]) ⟨by rw [yn, zn]; rfl, by decide, fun h => absurd h (by decide), fun _ => ⟨rfl, .inr ⟨yo, by unfold mayP; rw [yb, zg, if_pos rfl, ya, zp]; exact decide_eq_true (by omega)⟩⟩⟩
  have h2 := (hz.trans hy).trans hu
  have e3 : headC fs ++ [58] ++ endC bs ++ q = headC fs ++ 58 :: joinC (bs ++ [q]) := by rw [joinC_last]; simp
  rw [e3] at h2
  rw [way_parse h2 (by unfold endsP; rw [if_neg (by omega), if_neg (by omega), if_pos u1, u2]; decide), hcut.1]
  show (outOf (writtenV (joinC fs)) (writtenV (joinC (bs ++ [q]))), (0 : Int), (0 : Int)) = _
  have hG : grpV q = [n / 65536 % 65536, n % 65536] := by unfold grpV; rw [hq, if_pos rfl]
  rw [hcut.2, joinC_last, written_back hb ⟨hne, h58⟩, hG]
end Go.Proofs.YtcgdjnmfeibnoaaDoor
/-! SixRunV -/
namespace Go.Proofs.YtcgdjnmfeibnoaaDoor
open Go.RowKit Go.Proofs.YtcgdjnmfeibnoaaDoorW.PrintWords
set_option linter.unusedVariables false
set_option linter.unusedSimpArgs false
/-- Is the piece there a nought? -/
def nought (xs : List Nat) (j : Nat) : Prop := xs.getD j 1 = 0
/-- A stretch of noughts. -/
def noughts (xs : List Nat) (i z : Nat) : Prop := ∀ j, i ≤ j → j < i + z → nought xs j
structure RI (xs : List Nat) (k : Nat) (at_ most from_ : Int) : Prop where
  f0 : 0 ≤ from_
  fk : from_ ≤ k
  fz : ∀ j : Nat, from_ ≤ j → j < k → nought xs j
  fn : 0 < from_ → ¬ nought xs (from_ - 1).toNat
  lo : -1 ≤ at_
  m1 : 1 ≤ most
  pos : 0 ≤ at_ → 2 ≤ most ∧ at_ + most ≤ k ∧ ∀ j : Nat, at_ ≤ j → (j : Int) < at_ + most → nought xs j
  max : ∀ i z : Nat, i + z ≤ k → noughts xs i z → (z : Int) ≤ most
theorem run_inv (xs : List Nat) : ∀ (r : List Nat) (k : Nat) (at_ most from_ : Int), xs.drop k = r → k ≤ xs.length → RI xs k at_ most from_ → ∃ f, RI xs xs.length (runGo r k at_ most from_).1 (runGo r k at_ most from_).2 f
  | [], k, at_, most, from_, hd, hk, h => by
    have : k = xs.length := by
      have := congrArg List.length hd
      simp at this
      omega
    subst this
    exact ⟨from_, h⟩
  | p :: r, k, at_, most, from_, hd, hk, h => by
    have hlt : k < xs.length := by
      have := congrArg List.length hd
      simp at this
      omega
    rw [List.drop_eq_getElem_cons hlt] at hd
    injection hd with hp hd
    have hnp : xs.getD k 1 = p := by rw [List.getD_eq_getElem?_getD, List.getElem?_eq_getElem hlt]; exact hp
    have hlast : ∀ i z : Nat, i + z = k + 1 → 0 < z → noughts xs i z → p = 0 ∧ from_ ≤ i := by
      intro i z hz h0 hn
      have h1 := hn k (by omega) (by omega)
      unfold nought at h1
      refine ⟨by omega, ?_⟩
      rcases Int.lt_or_le (i : Int) from_ with hi | hi
      · exfalso
        have hf := h.fk
        exact h.fn (by omega) (hn (from_ - 1).toNat (by omega) (by omega))
      · exact hi
    rw [runGo]
    by_cases h0 : p = 0
    · rw [if_pos h0]
      have hz : nought xs k := by unfold nought; omega
      have fz : ∀ j : Nat, from_ ≤ j → j < k + 1 → nought xs j := fun j a b => by
        rcases Nat.lt_or_eq_of_le (Nat.le_of_lt_succ b) with c | c
        · exact h.fz j a c
        · rw [c]; exact hz
      by_cases hm : most < (k : Int) + 1 - from_
      · rw [if_pos hm]
        refine run_inv xs r (k + 1) _ _ _ hd hlt ⟨h.f0, by have := h.fk; omega, fz, h.fn, by have := h.f0; omega, by have := h.m1; omega, fun _ => ⟨by have := h.m1; omega, by omega, fun j a b => fz j a (by omega)⟩, ?_⟩
        intro i z hz' hn
        rcases Nat.eq_zero_or_pos z with hz0 | hz0
        · have := h.fk; omega
        · rcases Nat.lt_or_eq_of_le hz' with c | c
          · have := h.max i z (by omega) hn; omega
          · have := (hlast i z c hz0 hn).2; omega
      · rw [if_neg hm]
        refine run_inv xs r (k + 1) _ _ _ hd hlt ⟨h.f0, by have := h.fk; omega, fz, h.fn, h.lo, h.m1, fun a => ⟨(h.pos a).1, by have := (h.pos a).2.1; omega, (h.pos a).2.2⟩, ?_⟩
        intro i z hz' hn
        rcases Nat.eq_zero_or_pos z with hz0 | hz0
        · have := h.m1; omega
        · rcases Nat.lt_or_eq_of_le hz' with c | c
          · exact h.max i z (by omega) hn
          · have := (hlast i z c hz0 hn).2; omega
    · rw [if_neg h0]
      refine run_inv xs r (k + 1) _ _ _ hd hlt ⟨by omega, by omega, fun j a b => by omega, fun _ => ?_, h.lo, h.m1, fun a => ⟨(h.pos a).1, by have := (h.pos a).2.1; omega, (h.pos a).2.2⟩, ?_⟩
      · rw [show ((k : Int) + 1 - 1).toNat = k by omega]
        unfold nought
        omega
      · intro i z hz' hn
        rcases Nat.eq_zero_or_pos z with hz0 | hz0
        · have := h.m1; omega
        · rcases Nat.lt_or_eq_of_le hz' with c | c
          · exact h.max i z (by omega) hn
          · exact absurd (hlast i z c hz0 hn).1 h0
/-- The run: none, and no two noughts stand together; or the longest stretch. -/
theorem runL_spec (xs : List Nat) : (runL xs = (-1, 0) ∧ ∀ i z, i + z ≤ xs.length → noughts xs i z → z ≤ 1) ∨
    ∃ a n : Nat, runL xs = ((a : Int), (n : Int)) ∧ 2 ≤ n ∧ a + n ≤ xs.length ∧ noughts xs a n ∧ ∀ i z, i + z ≤ xs.length → noughts xs i z → z ≤ n := by
  obtain ⟨f, h⟩ := run_inv xs xs 0 (-1) 1 0 rfl (Nat.zero_le _) ⟨by omega, by omega, fun j _ b => by omega, fun q => by omega, by omega, by omega, fun q => by omega, fun i z hz _ => by omega⟩
  have h : RI xs xs.length (runGo xs 0 (-1) 1 0).1 (runGo xs 0 (-1) 1 0).2 f := h
  have hneg : (runGo xs 0 (-1) 1 0).1 < 0 → (runGo xs 0 (-1) 1 0).2 = 1 := by
    have key : ∀ (r : List Nat) (k at_ most from_ : Int), 0 ≤ from_ → (at_ < 0 → most = 1) → (runGo r k at_ most from_).1 < 0 → 0 ≤ k → (runGo r k at_ most from_).2 = 1 := by
      intro r
      induction r with
      | nil => intro k at_ most from_ _ h1 h2 _; exact h1 h2
      | cons p r ih =>
        intro k at_ most from_ h0 h1 h2 hk
        rw [runGo] at h2 ⊢
        split at h2
        · split at h2
          · rename_i a b
            rw [if_pos a, if_pos b]
            exact ih _ _ _ _ h0 (fun q => by omega) h2 (by omega)
          · rename_i a b
            rw [if_pos a, if_neg b]
            exact ih _ _ _ _ h0 h1 h2 (by omega)
        · rename_i a
          rw [if_neg a]
          exact ih _ _ _ _ (by omega) h1 h2 (by omega)
    exact fun q => key xs 0 (-1) 1 0 (Int.le_refl _) (fun _ => rfl) q (Int.le_refl _)
  unfold runL
  by_cases hn : (runGo xs 0 (-1) 1 0).1 < 0
  · left
    rw [if_pos hn]
    refine ⟨rfl, fun i z a b => ?_⟩
    have h1 := h.max i z a b
    have h2 := hneg hn
    omega
  · right
    rw [if_neg hn]
    have hp := h.pos (by simpa using hn)
    obtain ⟨p1, p2, p3⟩ := hp
    have ea : (((runGo xs 0 (-1) 1 0).1.toNat : Nat) : Int) = (runGo xs 0 (-1) 1 0).1 := by omega
    have en : (((runGo xs 0 (-1) 1 0).2.toNat : Nat) : Int) = (runGo xs 0 (-1) 1 0).2 := by omega
    refine ⟨(runGo xs 0 (-1) 1 0).1.toNat, (runGo xs 0 (-1) 1 0).2.toNat, by rw [ea, en], by omega, by omega, fun j a b => p3 j (by omega) (by omega), fun i z a b => ?_⟩
    have := h.max i z a b
    omega
/-- Pieces, a colon ahead of each. -/
def colJ (l : List (List UInt8)) : List UInt8 := l.flatMap (fun p => 58 :: p)
theorem joinC_cons (p : List UInt8) (l : List (List UInt8)) : joinC (p :: l) = p ++ colJ l := by
  induction l generalizing p with
  | nil => simp [joinC, colJ]
  | cons q l ih => rw [joinC, ih]; simp [colJ]
theorem textGo_app (a n : Int) : ∀ (l r : List Nat) (i : Int), textGo a n i (l ++ r) = textGo a n i l ++ textGo a n (i + l.length) r
  | [], r, i => by simp [textGo]
  | p :: l, r, i => by
    rw [List.cons_append, textGo, textGo_app a n l r (i + 1), textGo, List.append_assoc, List.length_cons]
    congr 3
    omega
/-- Pieces out of the run, behind others. -/
theorem textGo_col (a n : Int) (hn : 0 ≤ n) : ∀ (l : List Nat) (i : Int), 0 < i → (a < 0 ∧ n = 0 ∨ i + l.length ≤ a ∨ a + n < i) → textGo a n i l = colJ (l.map hexL)
  | [], i, _, _ => rfl
  | p :: l, i, h0, h => by
    rw [List.length_cons] at h
    rw [textGo, textGo_col a n hn l (i + 1) (by omega) (by omega)]
    unfold textAt
    rw [if_neg (by omega), if_neg (by omega), if_pos (by omega)]
    simp [colJ]
/-- Pieces out of the run: the first ones, or the first ones behind the run. -/
theorem textGo_join (a n : Int) (hn : 0 ≤ n) (l : List Nat) (i : Int) (h : i = 0 ∧ (a < 0 ∧ n = 0 ∨ (l.length : Int) ≤ a) ∨ 0 < i ∧ 0 ≤ a ∧ 0 < n ∧ i = a + n) : textGo a n i l = joinC (l.map hexL) := by
  cases l with
  | nil => rfl
  | cons p l =>
    rw [List.length_cons] at h
    rw [textGo, textGo_col a n hn l (i + 1) (by omega) (by omega), List.map_cons, joinC_cons]
    unfold textAt
    rw [if_neg (by omega), if_neg (by omega), if_neg (by omega)]
    simp
/-- The run itself. -/
theorem textGo_in (a n : Int) (ha : 0 ≤ a) : ∀ (l : List Nat) (i : Int), a < i → i + l.length ≤ a + n → textGo a n i l = []
  | [], i, _, _ => rfl
  | p :: l, i, h0, h => by
    rw [List.length_cons] at h
    rw [textGo, textGo_in a n ha l (i + 1) (by omega) (by omega)]
    unfold textAt
    rw [if_neg (by omega), if_pos (by omega)]
    rfl
theorem textGo_run (a n : Int) (ha : 0 ≤ a) (l : List Nat) (h : (l.length : Int) = n) (hn : 0 < n) : textGo a n a l = [58, 58] := by
  cases l with
  | nil => simp at h; omega
  | cons p l =>
    rw [List.length_cons] at h
    rw [textGo, textGo_in a n ha l (a + 1) (by omega) (by omega)]
    unfold textAt
    rw [if_pos rfl]
    rfl
/-- The text of pieces: all of them; or those ahead of the longest stretch of noughts and those behind it. -/
theorem textL_spec (xs : List Nat) : (textL xs = joinC (xs.map hexL) ∧ runL xs = (-1, 0) ∧ ∀ i z, i + z ≤ xs.length → noughts xs i z → z ≤ 1) ∨
    ∃ a n : Nat, runL xs = ((a : Int), (n : Int)) ∧ 2 ≤ n ∧ a + n ≤ xs.length ∧ noughts xs a n ∧ (∀ i z, i + z ≤ xs.length → noughts xs i z → z ≤ n) ∧ textL xs = joinC ((xs.take a).map hexL) ++ 58 :: 58 :: joinC ((xs.drop (a + n)).map hexL) := by
  rcases runL_spec xs with ⟨h, hm⟩ | ⟨a, n, h, h2, hl, hz, hm⟩
  · left
    refine ⟨?_, h, hm⟩
    unfold textL
    rw [h]
    exact textGo_join (-1) 0 (by decide) xs 0 (.inl ⟨rfl, .inl ⟨by decide, rfl⟩⟩)
  · right
    refine ⟨a, n, h, h2, hl, hz, hm, ?_⟩
    unfold textL
    rw [h]
    have e : xs = xs.take a ++ ((xs.drop a).take n ++ xs.drop (a + n)) := by
      rw [← List.drop_drop, List.take_append_drop, List.take_append_drop]
    have l1 : (xs.take a).length = a := by rw [List.length_take]; omega
    have l2 : ((xs.drop a).take n).length = n := by rw [List.length_take, List.length_drop]; omega
    show textGo (a : Int) (n : Int) 0 xs = _
    rw [show textGo (a : Int) (n : Int) 0 xs = textGo (a : Int) (n : Int) 0 (xs.take a ++ ((xs.drop a).take n ++ xs.drop (a + n))) from by rw [← e]]
    rw [textGo_app, textGo_app, l1, l2, textGo_join (a : Int) (n : Int) (by omega) _ 0 (.inl ⟨rfl, .inr (by omega)⟩)]
    rw [show (0 : Int) + (a : Int) = (a : Int) by omega, textGo_run (a : Int) (n : Int) (by omega) _ (by omega) (by omega)]
    rw [textGo_join (a : Int) (n : Int) (by omega) _ ((a : Int) + (n : Int)) (.inr ⟨by omega, by omega, by omega, rfl⟩)]
    rfl
/-- A piece's text. -/
theorem revHex_short (k : Nat) : ∀ n : Nat, n < 16 ^ (k + 1) → (revHex n).length ≤ k + 1 := by
  induction k with
  | zero =>
    intro n h
    rw [revHex_last (by omega)]
    simp
  | succ k ih =>
    intro n h
    by_cases h0 : n / 16 = 0
    · rw [revHex_last h0]; simp
    · rw [revHex_more h0, List.length_cons]
      have := ih (n / 16) (by rw [Nat.pow_succ] at h; omega)
      omega
theorem hexL_short {n k : Nat} (h : n < 16 ^ (k + 1)) : (hexL n).length ≤ k + 1 := by
  unfold hexL
  rw [List.length_reverse]
  exact revHex_short k n h
theorem digB_dig (d : Nat) (h : d < 16) : digV ((digB d).toNat : Int) 16 = (d : Int) := by
  have hc : d = 0 ∨ d = 1 ∨ d = 2 ∨ d = 3 ∨ d = 4 ∨ d = 5 ∨ d = 6 ∨ d = 7 ∨ d = 8 ∨ d = 9 ∨ d = 10 ∨ d = 11 ∨ d = 12 ∨ d = 13 ∨ d = 14 ∨ d = 15 := by omega
  rcases hc with rfl | rfl | rfl | rfl | rfl | rfl | rfl | rfl | rfl | rfl | rfl | rfl | rfl | rfl | rfl | rfl <;> decide
theorem hexF_snoc (n : Int) (l : List UInt8) (c : UInt8) : hexF n (l ++ [c]) = 16 * hexF n l + digV (c.toNat : Int) 16 := by
  rw [hexF_app]
  rfl
theorem revHex_val (n : Nat) : hexF 0 (revHex n).reverse = (n : Int) ∧ ∀ c ∈ (revHex n).reverse, 0 ≤ digV (c.toNat : Int) 16 := by
  induction n using Nat.strongRecOn with
  | ind n ih =>
    have hd := digB_dig (n % 16) (Nat.mod_lt _ (by decide))
    by_cases h0 : n / 16 = 0
    · rw [revHex_last h0]
      refine ⟨?_, fun c hc => ?_⟩
      · show hexF 0 ([] ++ [digB (n % 16)]) = _
        rw [hexF_snoc, hd]
        show 16 * (0 : Int) + _ = _
        omega
      · simp at hc
        rw [hc, hd]
        omega
    · obtain ⟨a, b⟩ := ih (n / 16) (by omega)
      rw [revHex_more h0, List.reverse_cons]
      refine ⟨by rw [hexF_snoc, a, hd]; omega, fun c hc => ?_⟩
      rcases List.mem_append.1 hc with hc | hc
      · exact b c hc
      · simp at hc
        rw [hc, hd]
        omega
theorem hexL_val (n : Nat) : pcV (hexL n) = (n : Int) := (revHex_val n).1
theorem hexL_pc {n : Nat} (h : n ≤ 65535) : Pc (hexL n) := by
  refine ⟨?_, hexL_short (k := 3) (by show n < 65536; omega), (revHex_val n).2⟩
  have := hexL_ne n
  cases e : hexL n with
  | nil => exact absurd e this
  | cons a l => simp
end Go.Proofs.YtcgdjnmfeibnoaaDoor
/-! SixBackV -/
namespace Go.Proofs.YtcgdjnmfeibnoaaDoor
open Go.RowKit Go.Proofs.YtcgdjnmfeibnoaaDoorW.PrintWords
set_option linter.unusedVariables false
set_option linter.unusedSimpArgs false
/-- An address out of eight pieces. -/
def pieceAt (xs : List Nat) (j : Nat) : Int := ((xs.getD j 0 : Nat) : Int)
theorem map_hex (xs : List Nat) : (xs.map hexL).map pcV = xs.map fun n : Nat => (n : Int) := by
  rw [List.map_map]
  exact List.map_congr_left fun n _ => hexL_val n
theorem mem_hex {xs : List Nat} (h : ∀ x ∈ xs, x ≤ 65535) : ∀ p ∈ xs.map hexL, Pc p := by
  intro p hp
  obtain ⟨x, hx, rfl⟩ := List.mem_map.1 hp
  exact hexL_pc (h x hx)
theorem getD_cast (xs : List Nat) (j : Nat) : (xs.map fun n : Nat => (n : Int)).getD j 0 = pieceAt xs j := by
  unfold pieceAt
  rw [List.getD_eq_getElem?_getD, List.getElem?_map, List.getD_eq_getElem?_getD]
  cases xs[j]? <;> rfl
theorem out_full {xs : List Nat} (hl : xs.length = 8) (j : Nat) (hj : j < 8) : outOf (xs.map fun n : Nat => (n : Int)) [] j = pieceAt xs j := by
  unfold outOf
  rw [if_neg (by simp; omega), getD_cast]
theorem out_gap {xs : List Nat} (hl : xs.length = 8) {a n : Nat} (hn : a + n ≤ 8) (hz : noughts xs a n) (j : Nat) (hj : j < 8) :
    outOf ((xs.take a).map fun n : Nat => (n : Int)) ((xs.drop (a + n)).map fun n : Nat => (n : Int)) j = pieceAt xs j := by
  unfold outOf
  rw [List.length_map, List.length_drop, hl, getD_cast, getD_cast]
  by_cases h : 8 - (8 - (a + n)) ≤ j
  · rw [if_pos h]
    unfold pieceAt
    rw [List.getD_eq_getElem?_getD, List.getElem?_drop, List.getD_eq_getElem?_getD, show a + n + (j - (8 - (8 - (a + n)))) = j by omega]
  · rw [if_neg h]
    unfold pieceAt
    by_cases ha : j < a
    · rw [List.getD_eq_getElem?_getD, List.getElem?_take, if_pos ha, List.getD_eq_getElem?_getD]
    · have h1 := hz j (by omega) (by omega)
      unfold nought at h1
      rw [List.getD_eq_getElem?_getD, List.getElem?_eq_none (by rw [List.length_take]; omega)]
      rw [List.getD_eq_getElem?_getD, List.getElem?_eq_getElem (by omega)] at h1
      rw [List.getD_eq_getElem?_getD, List.getElem?_eq_getElem (by omega)]
      simp only [Option.getD_some, Option.getD_none] at h1 ⊢
      rw [h1]
/-- What a text says that is read as an address. -/
def Says (t : List UInt8) (xs : List Nat) : Prop := (∀ j, j < 8 → (parseP t).1 j = pieceAt xs j) ∧ (parseP t).2 = (0, 0)
theorem back_print {xs : List Nat} (hl : xs.length = 8) (h : ∀ x ∈ xs, x ≤ 65535) : Says (textL xs) xs := by
  rcases textL_spec xs with ⟨e, _, _⟩ | ⟨a, n, _, h2, hn, hz, _, e⟩
  · rw [Says, e, parse_full _ (mem_hex h) (by rw [List.length_map]; exact hl), map_hex]
    exact ⟨fun j hj => out_full hl j hj, rfl⟩
  · rw [hl] at hn
    rw [Says, e, parse_gap _ _ (mem_hex fun x hx => h x (List.mem_of_mem_take hx)) (mem_hex fun x hx => h x (List.mem_of_mem_drop hx)) (by simp [hl]; omega), map_hex, map_hex]
    exact ⟨fun j hj => out_gap hl hn hz j hj, rfl⟩
/-- A piece with all its digits. -/
def fullL (n : Nat) : List UInt8 := List.replicate (4 - (hexL n).length) 48 ++ hexL n
theorem hexF_noughts (k : Nat) (l : List UInt8) : hexF 0 (List.replicate k 48 ++ l) = hexF 0 l := by
  induction k with
  | zero => rfl
  | succ k ih => rw [List.replicate_succ, List.cons_append]; exact ih
theorem fullL_pc {n : Nat} (h : n ≤ 65535) : Pc (fullL n) ∧ pcV (fullL n) = (n : Int) ∧ (fullL n).length = 4 := by
  obtain ⟨l1, l4, hx⟩ := hexL_pc h
  have hlen : (fullL n).length = 4 := by unfold fullL; rw [List.length_append, List.length_replicate]; omega
  refine ⟨⟨by omega, by omega, ?_⟩, ?_, hlen⟩
  · intro c hc
    rcases List.mem_append.1 hc with hc | hc
    · rw [(List.mem_replicate.1 hc).2]; decide
    · exact hx c hc
  · unfold pcV fullL
    rw [hexF_noughts]
    exact hexL_val n
theorem back_full {xs : List Nat} (hl : xs.length = 8) (h : ∀ x ∈ xs, x ≤ 65535) : Says (joinC (xs.map fullL)) xs := by
  have e : (xs.map fullL).map pcV = xs.map fun n : Nat => (n : Int) := by
    rw [List.map_map]
    exact List.map_congr_left fun n hn => (fullL_pc (h n hn)).2.1
  rw [Says, parse_full _ (fun p hp => by
    obtain ⟨x, hx, rfl⟩ := List.mem_map.1 hp
    exact (fullL_pc (h x hx)).1) (by rw [List.length_map]; exact hl), e]
  exact ⟨fun j hj => out_full hl j hj, rfl⟩
/-- Six pieces, and an IPv4 address behind them. -/
def mixL (xs : List Nat) (q : List UInt8) : List UInt8 := (if [58, 58] <:+ textL xs then textL xs else textL xs ++ [58]) ++ q
theorem no_suffix {r cur : List UInt8} (hc : Pt cur) : ¬ ([58, 58] : List UInt8) <:+ r ++ cur := by
  rintro ⟨t, ht⟩
  obtain ⟨b, z, rfl⟩ : ∃ b z, cur = b ++ [z] := ⟨cur.dropLast, cur.getLast hc.ne, (List.dropLast_concat_getLast _).symm⟩
  have h1 := congrArg List.getLast? ht
  rw [show t ++ [58, 58] = (t ++ [58]) ++ [58] by simp, ← List.append_assoc r b [z], List.getLast?_append, List.getLast?_append] at h1
  simp at h1
  exact hc.no (by simp [← h1])
theorem pieces_last {xs : List Nat} (h : ∀ x ∈ xs, x ≤ 65535) (hn : xs ≠ []) : ∃ r cur, joinC (xs.map hexL) = r ++ cur ∧ Pt cur := by
  obtain ⟨b, z, rfl⟩ : ∃ b z, xs = b ++ [z] := ⟨xs.dropLast, xs.getLast hn, (List.dropLast_concat_getLast _).symm⟩
  rw [List.map_append, List.map_cons, List.map_nil, joinC_last]
  exact ⟨_, _, rfl, (hexL_pc (h z (by simp))).pt⟩
theorem join_more {fs : List (List UInt8)} (h : fs ≠ []) (q : List UInt8) : joinC fs ++ [58] ++ q = joinC (fs ++ [q]) := by
  rw [joinC_last, endC_join h]
theorem back_mixed {xs : List Nat} {x6 x7 : Nat} (hl : xs.length = 6) (h : ∀ x ∈ xs, x ≤ 65535) (h6 : x6 ≤ 65535) (h7 : x7 ≤ 65535) {q : List UInt8} {n : Int} (hn : n = (x6 : Int) * 65536 + x7) (hq : strictV q = (n, 0, 0)) (h58 : (58 : UInt8) ∉ q) (hne : q ≠ []) : Says (mixL xs q) (xs ++ [x6, x7]) := by
  have e6 : n / 65536 % 65536 = (x6 : Int) := by omega
  have e7 : n % 65536 = (x7 : Int) := by omega
  have hl8 : (xs ++ [x6, x7]).length = 8 := by simp [hl]
  have two : ([n / 65536 % 65536, n % 65536] : List Int) = [x6, x7].map fun n : Nat => (n : Int) := by rw [e6, e7]; rfl
  rcases textL_spec xs with ⟨e, _, _⟩ | ⟨a, m, _, h2, hm, hz, _, e⟩
  · obtain ⟨r, cur, e1, hpt⟩ := pieces_last h (fun e => by rw [e] at hl; cases hl)
    have hs : ¬ [58, 58] <:+ textL xs := by rw [e, e1]; exact no_suffix hpt
    unfold Says mixL
    rw [if_neg hs, e, join_more (by simp; intro e; rw [e] at hl; cases hl), parse_dots _ q n (mem_hex h) (by rw [List.length_map]; exact hl) hq h58 hne, map_hex, two, ← List.map_append]
    exact ⟨fun j hj => out_full hl8 j hj, rfl⟩
  · rw [hl] at hm
    have hz8 : noughts (xs ++ [x6, x7]) a m := fun j h1 h2 => by
      have := hz j h1 h2
      unfold nought at this ⊢
      rw [List.getD_eq_getElem?_getD] at this ⊢
      rw [List.getElem?_append_left (by omega)]
      exact this
    have t8 : (xs ++ [x6, x7]).take a = xs.take a := by rw [List.take_append_of_le_length (by omega)]
    have d8 : (xs ++ [x6, x7]).drop (a + m) = xs.drop (a + m) ++ [x6, x7] := by rw [List.drop_append_of_le_length (by omega)]
    have hf : ∀ p ∈ (xs.take a).map hexL, Pc p := mem_hex fun x hx => h x (List.mem_of_mem_take hx)
    have hb : ∀ p ∈ (xs.drop (a + m)).map hexL, Pc p := mem_hex fun x hx => h x (List.mem_of_mem_drop hx)
    have hlen : ((xs.take a).map hexL).length + ((xs.drop (a + m)).map hexL).length ≤ 5 := by simp [hl]; omega
    have hP := parse_gap_dots _ _ q n hf hb hlen hq h58 hne
    rw [map_hex, map_hex, two, ← List.map_append, ← t8, ← d8] at hP
    have hT : mixL xs q = joinC ((xs.take a).map hexL) ++ 58 :: 58 :: joinC ((xs.drop (a + m)).map hexL ++ [q]) := by
      unfold mixL
      by_cases hb0 : xs.drop (a + m) = []
      · rw [e, hb0]
        rw [if_pos ⟨joinC ((xs.take a).map hexL), rfl⟩]
        simp [joinC]
      · have hd : ∀ x ∈ xs.drop (a + m), x ≤ 65535 := fun x hx => h x (List.mem_of_mem_drop hx)
        obtain ⟨r, cur, e1, hpt⟩ := pieces_last hd hb0
        have hs : ¬ [58, 58] <:+ textL xs := by
          rw [e, e1, show joinC ((xs.take a).map hexL) ++ 58 :: 58 :: (r ++ cur) = (joinC ((xs.take a).map hexL) ++ 58 :: 58 :: r) ++ cur by simp]
          exact no_suffix hpt
        rw [if_neg hs, e, ← join_more (by simpa using hb0) q]
        simp
    rw [t8] at hP
    rw [Says, hT, hP, ← t8]
    exact ⟨fun j hj => out_gap hl8 (by omega) hz8 j hj, rfl⟩
end Go.Proofs.YtcgdjnmfeibnoaaDoor
/-! SixOneV -/
namespace Go.Proofs.YtcgdjnmfeibnoaaDoor
open Go.RowKit Go.Proofs.YtcgdjnmfeibnoaaDoorW.PrintWords
set_option linter.unusedVariables false
set_option linter.unusedSimpArgs false
/-- How many bytes parts have. -/
def lsum (l : List (List UInt8)) : Nat := (l.map List.length).sum
/-- How many digits pieces are written with. -/
def hsum (xs : List Nat) : Nat := lsum (xs.map hexL)
theorem lsum_app (a b : List (List UInt8)) : lsum (a ++ b) = lsum a + lsum b := by unfold lsum; rw [List.map_append, List.sum_append]
theorem hsum_app (a b : List Nat) : hsum (a ++ b) = hsum a + hsum b := by unfold hsum; rw [List.map_append, lsum_app]
theorem joinC_len : ∀ l : List (List UInt8), (joinC l).length + (if l = [] then 0 else 1) = lsum l + l.length
  | [] => rfl
  | [p] => by simp [joinC, lsum]
  | p :: q :: r => by
    have ih := joinC_len (q :: r)
    rw [if_neg (by simp)] at ih
    rw [joinC, if_neg (by simp)]
    unfold lsum at ih ⊢
    simp only [List.length_append, List.length_cons, List.map_cons, List.sum_cons] at ih ⊢
    omega
theorem hexL_zero : (hexL 0).length = 1 := by unfold hexL; rw [revHex_last (by decide)]; rfl
theorem hsum_noughts : ∀ l : List Nat, (∀ x ∈ l, x = 0) → hsum l = l.length
  | [], _ => rfl
  | x :: l, h => by
    have ih := hsum_noughts l (fun y hy => h y (List.mem_cons_of_mem _ hy))
    have hx := h x (by simp)
    subst hx
    unfold hsum lsum at ih ⊢
    simp only [List.map_cons, List.sum_cons, List.length_cons, hexL_zero]
    omega
/-- The length of what is written. -/
theorem textL_len (xs : List Nat) (hn : xs ≠ []) : ((textL xs).length + 1 = hsum xs + xs.length ∧ ∀ i z, i + z ≤ xs.length → noughts xs i z → z ≤ 1) ∨
    ∃ n : Nat, 2 ≤ n ∧ (∀ i z, i + z ≤ xs.length → noughts xs i z → z ≤ n) ∧ ((textL xs).length + 2 * n ≤ hsum xs + xs.length + 1 ∨ (textL xs).length = 2) := by
  rcases textL_spec xs with ⟨e, _, hm⟩ | ⟨a, n, _, h2, hl, hz, hm, e⟩
  · left
    refine ⟨?_, hm⟩
    have := joinC_len (xs.map hexL)
    rw [if_neg (by simpa using hn)] at this
    rw [e]
    unfold hsum
    simpa using this
  · right
    refine ⟨n, h2, hm, ?_⟩
    have hsp : xs = xs.take a ++ ((xs.drop a).take n ++ xs.drop (a + n)) := by rw [← List.drop_drop, List.take_append_drop, List.take_append_drop]
    have hrun : hsum ((xs.drop a).take n) = n := by
      rw [hsum_noughts _ (fun x hx => ?_)]
      · rw [List.length_take, List.length_drop]; omega
      · obtain ⟨j, hj, he⟩ := List.getElem_of_mem hx
        rw [List.length_take, List.length_drop] at hj
        have h1 := hz (a + j) (by omega) (by omega)
        unfold nought at h1
        rw [List.getD_eq_getElem?_getD, List.getElem?_eq_getElem (by omega)] at h1
        simp only [Option.getD_some] at h1
        rw [← he, List.getElem_take, List.getElem_drop]
        exact h1
    have hT : hsum xs = hsum (xs.take a) + (n + hsum (xs.drop (a + n))) := by
      rw [show hsum xs = hsum (xs.take a ++ ((xs.drop a).take n ++ xs.drop (a + n))) from by rw [← hsp], hsum_app, hsum_app, hrun]
    have j1 := joinC_len ((xs.take a).map hexL)
    have j2 := joinC_len ((xs.drop (a + n)).map hexL)
    have hlen : (textL xs).length = (joinC ((xs.take a).map hexL)).length + (joinC ((xs.drop (a + n)).map hexL)).length + 2 := by rw [e]; simp; omega
    rw [List.length_map, List.length_take] at j1
    rw [List.length_map, List.length_drop] at j2
    unfold hsum at hT ⊢
    by_cases ha : a = 0
    · by_cases hb : a + n = xs.length
      · right
        rw [if_pos (by rw [ha]; rfl)] at j1
        rw [if_pos (by rw [hb]; simp)] at j2
        have e1 : lsum ((xs.take a).map hexL) = 0 := by rw [ha]; rfl
        have e2 : lsum ((xs.drop (a + n)).map hexL) = 0 := by rw [hb]; simp [lsum]
        omega
      · left
        rw [if_neg (by simp; omega)] at j2
        have : (if (xs.take a).map hexL = [] then 0 else 1) ≤ 1 := by split <;> omega
        omega
    · left
      rw [if_neg (by simp; exact ⟨ha, hn⟩)] at j1
      have : (if (xs.drop (a + n)).map hexL = [] then 0 else 1) ≤ 1 := by split <;> omega
      omega
end Go.Proofs.YtcgdjnmfeibnoaaDoor
/-! SixFull -/
namespace Go.Proofs.YtcgdjnmfeibnoaaDoor
open Go.RowKit Go.Proofs.YtcgdjnmfeibnoaaDoorW.PrintWords
set_option linter.unusedVariables false
set_option linter.unusedSimpArgs false
theorem repeat_48 (k : Nat) : Lib.repeatL [48] k = List.replicate k 48 := by
  induction k with
  | zero => rfl
  | succ k ih => rw [List.replicate_succ, ← ih]; rfl
/-- Noughts. -/
theorem noughts_walk (q : List UInt8) (hq : q.length ≤ 4) (w : World) : Calls Tryd.prog 69 #[.string ⟨#[48]⟩, .int .i64 (4 - (q.length : Int))] w fun e w' => e = .returned (.string (BA (List.replicate (4 - q.length) 48))) ∧ Below w.heap.size w w' := by
  rw [show (4 : Int) - (q.length : Int) = ((4 - q.length : Nat) : Int) by omega]
  refine (Tryd.strings_Repeat ⟨#[48]⟩ (4 - q.length) w (by omega) (by show 1 * _ ≤ _; omega)).mono fun e w' ⟨he, hb⟩ => ⟨?_, hb⟩
  rw [he]
  exact congrArg (fun l : List UInt8 => Ending.returned (.string (BA l))) (repeat_48 _)
theorem ba_app (a b : List UInt8) : BA a ++ (⟨b.toArray⟩ : ByteArray) = BA (a ++ b) := by
  unfold BA
  apply ByteArray.ext
  simp
theorem full_short {n0 n1 n2 n3 n4 n5 n6 n7 : Nat} (h0 : n0 ≤ 65535) (h1 : n1 ≤ 65535) (h2 : n2 ≤ 65535) (h3 : n3 ≤ 65535) (h4 : n4 ≤ 65535) (h5 : n5 ≤ 65535) (h6 : n6 ≤ 65535) (h7 : n7 ≤ 65535) : (joinC ([n0, n1, n2, n3, n4, n5, n6, n7].map fullL)).length ≤ 140737488355328 := by
  have hj := joinC_len ([n0, n1, n2, n3, n4, n5, n6, n7].map fullL)
  have hl : lsum ([n0, n1, n2, n3, n4, n5, n6, n7].map fullL) = 32 := by simp [lsum, (fullL_pc h0).2.2, (fullL_pc h1).2.2, (fullL_pc h2).2.2, (fullL_pc h3).2.2, (fullL_pc h4).2.2, (fullL_pc h5).2.2, (fullL_pc h6).2.2, (fullL_pc h7).2.2]
  rw [hl] at hj
  simp only [List.length_map, List.length_cons, List.length_nil] at hj
  omega
set_option maxHeartbeats 4000000 in
set_option maxRecDepth 100000 in
theorem full_walk (n0 n1 n2 n3 n4 n5 n6 n7 : Nat) (h0 : n0 ≤ 65535) (h1 : n1 ≤ 65535) (h2 : n2 ≤ 65535) (h3 : n3 ≤ 65535) (h4 : n4 ≤ 65535) (h5 : n5 ≤ 65535) (h6 : n6 ≤ 65535) (h7 : n7 ≤ 65535) (w : World) :
    Calls Tryd.prog 30 #[.agg #[.int .u16 (n0 : Int), .int .u16 (n1 : Int), .int .u16 (n2 : Int), .int .u16 (n3 : Int), .int .u16 (n4 : Int), .int .u16 (n5 : Int), .int .u16 (n6 : Int), .int .u16 (n7 : Int)]] w fun e w' => e = .returned (.string (BA (joinC ([n0, n1, n2, n3, n4, n5, n6, n7].map fullL)))) ∧ Below w.heap.size w w' := by
  have HH0 := Lib.hid (fun w => hex_walk n0 h0 w)
  have hq0 := (hexL_pc h0).l4
  have HF0 := Lib.hid (show fullL n0 = List.replicate (4 - (hexL n0).length) 48 ++ hexL n0 from rfl)
  generalize hexL n0 = q0 at HH0 hq0 HF0
  have HH1 := Lib.hid (fun w => hex_walk n1 h1 w)
  have hq1 := (hexL_pc h1).l4
  have HF1 := Lib.hid (show fullL n1 = List.replicate (4 - (hexL n1).length) 48 ++ hexL n1 from rfl)
  generalize hexL n1 = q1 at HH1 hq1 HF1
  have HH2 := Lib.hid (fun w => hex_walk n2 h2 w)
  have hq2 := (hexL_pc h2).l4
  have HF2 := Lib.hid (show fullL n2 = List.replicate (4 - (hexL n2).length) 48 ++ hexL n2 from rfl)
  generalize hexL n2 = q2 at HH2 hq2 HF2
  have HH3 := Lib.hid (fun w => hex_walk n3 h3 w)
  have hq3 := (hexL_pc h3).l4
  have HF3 := Lib.hid (show fullL n3 = List.replicate (4 - (hexL n3).length) 48 ++ hexL n3 from rfl)
  generalize hexL n3 = q3 at HH3 hq3 HF3
  have HH4 := Lib.hid (fun w => hex_walk n4 h4 w)
  have hq4 := (hexL_pc h4).l4
  have HF4 := Lib.hid (show fullL n4 = List.replicate (4 - (hexL n4).length) 48 ++ hexL n4 from rfl)
  generalize hexL n4 = q4 at HH4 hq4 HF4
  have HH5 := Lib.hid (fun w => hex_walk n5 h5 w)
  have hq5 := (hexL_pc h5).l4
  have HF5 := Lib.hid (show fullL n5 = List.replicate (4 - (hexL n5).length) 48 ++ hexL n5 from rfl)
  generalize hexL n5 = q5 at HH5 hq5 HF5
  have HH6 := Lib.hid (fun w => hex_walk n6 h6 w)
  have hq6 := (hexL_pc h6).l4
  have HF6 := Lib.hid (show fullL n6 = List.replicate (4 - (hexL n6).length) 48 ++ hexL n6 from rfl)
  generalize hexL n6 = q6 at HH6 hq6 HF6
  have HH7 := Lib.hid (fun w => hex_walk n7 h7 w)
  have hq7 := (hexL_pc h7).l4
  have HF7 := Lib.hid (show fullL n7 = List.replicate (4 - (hexL n7).length) 48 ++ hexL n7 from rfl)
  generalize hexL n7 = q7 at HH7 hq7 HF7
  go_enter Tryd.func30, Tryd.ntmps30
  go_wp2_with fail
  have i0 : ∀ w, (Instr.index 24 (.agg #[.int .u16 (n0 : Int), .int .u16 (n1 : Int), .int .u16 (n2 : Int), .int .u16 (n3 : Int), .int .u16 (n4 : Int), .int .u16 (n5 : Int), .int .u16 (n6 : Int), .int .u16 (n7 : Int)]) (.int .i64 0)).run Tryd.prog w = .ok (.int .u16 (n0 : Int)) w := fun _ => by kernel_rfl
  have i1 : ∀ w, (Instr.index 24 (.agg #[.int .u16 (n0 : Int), .int .u16 (n1 : Int), .int .u16 (n2 : Int), .int .u16 (n3 : Int), .int .u16 (n4 : Int), .int .u16 (n5 : Int), .int .u16 (n6 : Int), .int .u16 (n7 : Int)]) (.int .i64 1)).run Tryd.prog w = .ok (.int .u16 (n1 : Int)) w := fun _ => by kernel_rfl
  have i2 : ∀ w, (Instr.index 24 (.agg #[.int .u16 (n0 : Int), .int .u16 (n1 : Int), .int .u16 (n2 : Int), .int .u16 (n3 : Int), .int .u16 (n4 : Int), .int .u16 (n5 : Int), .int .u16 (n6 : Int), .int .u16 (n7 : Int)]) (.int .i64 2)).run Tryd.prog w = .ok (.int .u16 (n2 : Int)) w := fun _ => by kernel_rfl
  have i3 : ∀ w, (Instr.index 24 (.agg #[.int .u16 (n0 : Int), .int .u16 (n1 : Int), .int .u16 (n2 : Int), .int .u16 (n3 : Int), .int .u16 (n4 : Int), .int .u16 (n5 : Int), .int .u16 (n6 : Int), .int .u16 (n7 : Int)]) (.int .i64 3)).run Tryd.prog w = .ok (.int .u16 (n3 : Int)) w := fun _ => by kernel_rfl
  have i4 : ∀ w, (Instr.index 24 (.agg #[.int .u16 (n0 : Int), .int .u16 (n1 : Int), .int .u16 (n2 : Int), .int .u16 (n3 : Int), .int .u16 (n4 : Int), .int .u16 (n5 : Int), .int .u16 (n6 : Int), .int .u16 (n7 : Int)]) (.int .i64 4)).run Tryd.prog w = .ok (.int .u16 (n4 : Int)) w := fun _ => by kernel_rfl
  have i5 : ∀ w, (Instr.index 24 (.agg #[.int .u16 (n0 : Int), .int .u16 (n1 : Int), .int .u16 (n2 : Int), .int .u16 (n3 : Int), .int .u16 (n4 : Int), .int .u16 (n5 : Int), .int .u16 (n6 : Int), .int .u16 (n7 : Int)]) (.int .i64 5)).run Tryd.prog w = .ok (.int .u16 (n5 : Int)) w := fun _ => by kernel_rfl
  have i6 : ∀ w, (Instr.index 24 (.agg #[.int .u16 (n0 : Int), .int .u16 (n1 : Int), .int .u16 (n2 : Int), .int .u16 (n3 : Int), .int .u16 (n4 : Int), .int .u16 (n5 : Int), .int .u16 (n6 : Int), .int .u16 (n7 : Int)]) (.int .i64 6)).run Tryd.prog w = .ok (.int .u16 (n6 : Int)) w := fun _ => by kernel_rfl
  have i7 : ∀ w, (Instr.index 24 (.agg #[.int .u16 (n0 : Int), .int .u16 (n1 : Int), .int .u16 (n2 : Int), .int .u16 (n3 : Int), .int .u16 (n4 : Int), .int .u16 (n5 : Int), .int .u16 (n6 : Int), .int .u16 (n7 : Int)]) (.int .i64 7)).run Tryd.prog w = .ok (.int .u16 (n7 : Int)) w := fun _ => by kernel_rfl
  obtain ⟨i0_, hi, hz0, hz1, hz2⟩ := info_parts (show (Tryd.prog.info? 9).map (fun i => (i.zero, i.size, i.bytes)) = some (some (.string ⟨#[]⟩), 1, 16) by kernel_rfl)
  have B0 : Below w.heap.size w (w.alloc (.cells #[.int .u16 (n0 : Int), .int .u16 (n1 : Int), .int .u16 (n2 : Int), .int .u16 (n3 : Int), .int .u16 (n4 : Int), .int .u16 (n5 : Int), .int .u16 (n6 : Int), .int .u16 (n7 : Int)] 24)) := (Below.refl _ _).alloc (Nat.le_refl _) _
  have R0 : (w.alloc (.cells #[.int .u16 (n0 : Int), .int .u16 (n1 : Int), .int .u16 (n2 : Int), .int .u16 (n3 : Int), .int .u16 (n4 : Int), .int .u16 (n5 : Int), .int .u16 (n6 : Int), .int .u16 (n7 : Int)] 24)).ownsRow w.heap.size 9 1 (.slice none 0 0) 0 [] := ⟨by simp, .inl ⟨rfl, rfl⟩⟩
  generalize w.alloc (.cells #[.int .u16 (n0 : Int), .int .u16 (n1 : Int), .int .u16 (n2 : Int), .int .u16 (n3 : Int), .int .u16 (n4 : Int), .int .u16 (n5 : Int), .int .u16 (n6 : Int), .int .u16 (n7 : Int)] 24) = W0 at *
  refine wp_loop_rounds 9 ?_
  rw [rounds_succ]
  go_wp2_with (simp only [i0])
  refine (HH0.out _).mono ?_
  rintro e u0 ⟨rfl, hu0⟩
  have o0 := own_belowF R0 hu0
  have C0 := below_step B0 hu0
  clear R0 B0 hu0
  go_wp2_with fail
  refine (noughts_walk q0 hq0 _).mono ?_
  rintro e t0 ⟨rfl, ht0⟩
  replace o0 := own_belowF o0 ht0
  replace C0 := below_step C0 ht0
  have hs0 := C0.size
  have x0 : BA (List.replicate (4 - q0.length) 48) ++ (⟨q0.toArray⟩ : ByteArray) = BA (fullL n0) := by rw [ba_app, HF0.out]
  have y0 : (BA (List.replicate (4 - q0.length) 48)).size + q0.length ≤ 9223372036854775807 := by rw [ba_size, List.length_replicate]; omega
  clear ht0
  go_wp2_with (at_builtin; refine app_one rfl _ _ 70 rfl w.heap.size 9 i0_ (.string ⟨#[]⟩) 1 16 Tryd.underlying70 hi hz0 hz1 hz2 rfl (by decide) _ _ _ rfl o0 [.string (BA (fullL n0))] rfl rfl (by simp [Value.oneCell']) (by unfold maxLen; omega) (by omega) hs0 ?_; intro g1 cap1 v1 hg1 R1 hgrow1 hbel1)
  have B1 := hbel1 _ _ (Nat.le_refl _) C0
  clear o0 C0 hs0 hg1 hgrow1 hbel1 x0 y0
  rw [rounds_succ]
  go_wp2_with (simp only [i1])
  refine (HH1.out _).mono ?_
  rintro e u1 ⟨rfl, hu1⟩
  have o1 := own_belowF R1 hu1
  have C1 := below_step B1 hu1
  clear R1 B1 hu1
  go_wp2_with fail
  refine (noughts_walk q1 hq1 _).mono ?_
  rintro e t1 ⟨rfl, ht1⟩
  replace o1 := own_belowF o1 ht1
  replace C1 := below_step C1 ht1
  have hs1 := C1.size
  have x1 : BA (List.replicate (4 - q1.length) 48) ++ (⟨q1.toArray⟩ : ByteArray) = BA (fullL n1) := by rw [ba_app, HF1.out]
  have y1 : (BA (List.replicate (4 - q1.length) 48)).size + q1.length ≤ 9223372036854775807 := by rw [ba_size, List.length_replicate]; omega
  clear ht1
  go_wp2_with (at_builtin; refine app_one rfl _ _ 70 rfl w.heap.size 9 i0_ (.string ⟨#[]⟩) 1 16 Tryd.underlying70 hi hz0 hz1 hz2 rfl (by decide) _ _ _ rfl o1 [.string (BA (fullL n1))] rfl rfl (by simp [Value.oneCell']) (by unfold maxLen; omega) (by omega) hs1 ?_; intro g2 cap2 v2 hg2 R2 hgrow2 hbel2)
  have B2 := hbel2 _ _ (Nat.le_refl _) C1
  clear o1 C1 hs1 hg2 hgrow2 hbel2 x1 y1
  rw [rounds_succ]
  go_wp2_with (simp only [i2])
  refine (HH2.out _).mono ?_
  rintro e u2 ⟨rfl, hu2⟩
  have o2 := own_belowF R2 hu2
  have C2 := below_step B2 hu2
  clear R2 B2 hu2
  go_wp2_with fail
  refine (noughts_walk q2 hq2 _).mono ?_
  rintro e t2 ⟨rfl, ht2⟩
  replace o2 := own_belowF o2 ht2
  replace C2 := below_step C2 ht2
  have hs2 := C2.size
  have x2 : BA (List.replicate (4 - q2.length) 48) ++ (⟨q2.toArray⟩ : ByteArray) = BA (fullL n2) := by rw [ba_app, HF2.out]
  have y2 : (BA (List.replicate (4 - q2.length) 48)).size + q2.length ≤ 9223372036854775807 := by rw [ba_size, List.length_replicate]; omega
  clear ht2
  go_wp2_with (at_builtin; refine app_one rfl _ _ 70 rfl w.heap.size 9 i0_ (.string ⟨#[]⟩) 1 16 Tryd.underlying70 hi hz0 hz1 hz2 rfl (by decide) _ _ _ rfl o2 [.string (BA (fullL n2))] rfl rfl (by simp [Value.oneCell']) (by unfold maxLen; omega) (by omega) hs2 ?_; intro g3 cap3 v3 hg3 R3 hgrow3 hbel3)
  have B3 := hbel3 _ _ (Nat.le_refl _) C2
  clear o2 C2 hs2 hg3 hgrow3 hbel3 x2 y2
  rw [rounds_succ]
  go_wp2_with (simp only [i3])
  refine (HH3.out _).mono ?_
  rintro e u3 ⟨rfl, hu3⟩
  have o3 := own_belowF R3 hu3
  have C3 := below_step B3 hu3
  clear R3 B3 hu3
  go_wp2_with fail
  refine (noughts_walk q3 hq3 _).mono ?_
  rintro e t3 ⟨rfl, ht3⟩
  replace o3 := own_belowF o3 ht3
  replace C3 := below_step C3 ht3
  have hs3 := C3.size
  have x3 : BA (List.replicate (4 - q3.length) 48) ++ (⟨q3.toArray⟩ : ByteArray) = BA (fullL n3) := by rw [ba_app, HF3.out]
  have y3 : (BA (List.replicate (4 - q3.length) 48)).size + q3.length ≤ 9223372036854775807 := by rw [ba_size, List.length_replicate]; omega
  clear ht3
  go_wp2_with (at_builtin; refine app_one rfl _ _ 70 rfl w.heap.size 9 i0_ (.string ⟨#[]⟩) 1 16 Tryd.underlying70 hi hz0 hz1 hz2 rfl (by decide) _ _ _ rfl o3 [.string (BA (fullL n3))] rfl rfl (by simp [Value.oneCell']) (by unfold maxLen; omega) (by omega) hs3 ?_; intro g4 cap4 v4 hg4 R4 hgrow4 hbel4)
  have B4 := hbel4 _ _ (Nat.le_refl _) C3
  clear o3 C3 hs3 hg4 hgrow4 hbel4 x3 y3
  rw [rounds_succ]
  go_wp2_with (simp only [i4])
  refine (HH4.out _).mono ?_
  rintro e u4 ⟨rfl, hu4⟩
  have o4 := own_belowF R4 hu4
  have C4 := below_step B4 hu4
  clear R4 B4 hu4
  go_wp2_with fail
  refine (noughts_walk q4 hq4 _).mono ?_
  rintro e t4 ⟨rfl, ht4⟩
  replace o4 := own_belowF o4 ht4
  replace C4 := below_step C4 ht4
  have hs4 := C4.size
  have x4 : BA (List.replicate (4 - q4.length) 48) ++ (⟨q4.toArray⟩ : ByteArray) = BA (fullL n4) := by rw [ba_app, HF4.out]
  have y4 : (BA (List.replicate (4 - q4.length) 48)).size + q4.length ≤ 9223372036854775807 := by rw [ba_size, List.length_replicate]; omega
  clear ht4
  go_wp2_with (at_builtin; refine app_one rfl _ _ 70 rfl w.heap.size 9 i0_ (.string ⟨#[]⟩) 1 16 Tryd.underlying70 hi hz0 hz1 hz2 rfl (by decide) _ _ _ rfl o4 [.string (BA (fullL n4))] rfl rfl (by simp [Value.oneCell']) (by unfold maxLen; omega) (by omega) hs4 ?_; intro g5 cap5 v5 hg5 R5 hgrow5 hbel5)
  have B5 := hbel5 _ _ (Nat.le_refl _) C4
  clear o4 C4 hs4 hg5 hgrow5 hbel5 x4 y4
  rw [rounds_succ]
  go_wp2_with (simp only [i5])
  refine (HH5.out _).mono ?_
  rintro e u5 ⟨rfl, hu5⟩
  have o5 := own_belowF R5 hu5
  have C5 := below_step B5 hu5
  clear R5 B5 hu5
  go_wp2_with fail
  refine (noughts_walk q5 hq5 _).mono ?_
  rintro e t5 ⟨rfl, ht5⟩
  replace o5 := own_belowF o5 ht5
  replace C5 := below_step C5 ht5
  have hs5 := C5.size
  have x5 : BA (List.replicate (4 - q5.length) 48) ++ (⟨q5.toArray⟩ : ByteArray) = BA (fullL n5) := by rw [ba_app, HF5.out]
  have y5 : (BA (List.replicate (4 - q5.length) 48)).size + q5.length ≤ 9223372036854775807 := by rw [ba_size, List.length_replicate]; omega
  clear ht5
  go_wp2_with (at_builtin; refine app_one rfl _ _ 70 rfl w.heap.size 9 i0_ (.string ⟨#[]⟩) 1 16 Tryd.underlying70 hi hz0 hz1 hz2 rfl (by decide) _ _ _ rfl o5 [.string (BA (fullL n5))] rfl rfl (by simp [Value.oneCell']) (by unfold maxLen; omega) (by omega) hs5 ?_; intro g6 cap6 v6 hg6 R6 hgrow6 hbel6)
  have B6 := hbel6 _ _ (Nat.le_refl _) C5
  clear o5 C5 hs5 hg6 hgrow6 hbel6 x5 y5
  rw [rounds_succ]
  go_wp2_with (simp only [i6])
  refine (HH6.out _).mono ?_
  rintro e u6 ⟨rfl, hu6⟩
  have o6 := own_belowF R6 hu6
  have C6 := below_step B6 hu6
  clear R6 B6 hu6
  go_wp2_with fail
  refine (noughts_walk q6 hq6 _).mono ?_
  rintro e t6 ⟨rfl, ht6⟩
  replace o6 := own_belowF o6 ht6
  replace C6 := below_step C6 ht6
  have hs6 := C6.size
  have x6 : BA (List.replicate (4 - q6.length) 48) ++ (⟨q6.toArray⟩ : ByteArray) = BA (fullL n6) := by rw [ba_app, HF6.out]
  have y6 : (BA (List.replicate (4 - q6.length) 48)).size + q6.length ≤ 9223372036854775807 := by rw [ba_size, List.length_replicate]; omega
  clear ht6
  go_wp2_with (at_builtin; refine app_one rfl _ _ 70 rfl w.heap.size 9 i0_ (.string ⟨#[]⟩) 1 16 Tryd.underlying70 hi hz0 hz1 hz2 rfl (by decide) _ _ _ rfl o6 [.string (BA (fullL n6))] rfl rfl (by simp [Value.oneCell']) (by unfold maxLen; omega) (by omega) hs6 ?_; intro g7 cap7 v7 hg7 R7 hgrow7 hbel7)
  have B7 := hbel7 _ _ (Nat.le_refl _) C6
  clear o6 C6 hs6 hg7 hgrow7 hbel7 x6 y6
  rw [rounds_succ]
  go_wp2_with (simp only [i7])
  refine (HH7.out _).mono ?_
  rintro e u7 ⟨rfl, hu7⟩
  have o7 := own_belowF R7 hu7
  have C7 := below_step B7 hu7
  clear R7 B7 hu7
  go_wp2_with fail
  refine (noughts_walk q7 hq7 _).mono ?_
  rintro e t7 ⟨rfl, ht7⟩
  replace o7 := own_belowF o7 ht7
  replace C7 := below_step C7 ht7
  have hs7 := C7.size
  have x7 : BA (List.replicate (4 - q7.length) 48) ++ (⟨q7.toArray⟩ : ByteArray) = BA (fullL n7) := by rw [ba_app, HF7.out]
  have y7 : (BA (List.replicate (4 - q7.length) 48)).size + q7.length ≤ 9223372036854775807 := by rw [ba_size, List.length_replicate]; omega
  clear ht7
  go_wp2_with (at_builtin; refine app_one rfl _ _ 70 rfl w.heap.size 9 i0_ (.string ⟨#[]⟩) 1 16 Tryd.underlying70 hi hz0 hz1 hz2 rfl (by decide) _ _ _ rfl o7 [.string (BA (fullL n7))] rfl rfl (by simp [Value.oneCell']) (by unfold maxLen; omega) (by omega) hs7 ?_; intro g8 cap8 v8 hg8 R8 hgrow8 hbel8)
  have B8 := hbel8 _ _ (Nat.le_refl _) C7
  clear o7 C7 hs7 hg8 hgrow8 hbel8 x7 y7
  rw [rounds_succ]
  go_wp2_with fail
  have KR := kd_strings (xs := [BA (fullL n0), BA (fullL n1), BA (fullL n2), BA (fullL n3), BA (fullL n4), BA (fullL n5), BA (fullL n6), BA (fullL n7)]) R8
  obtain ⟨A, c, hv, hle, hC⟩ := Kd.R_reads KR
  injection hv with e1 _ e3
  subst e1 e3
  refine (strings_Join.calls _ cap8 _ (BA [58]) (BA (joinC ([n0, n1, n2, n3, n4, n5, n6, n7].map fullL))) _ hC hle ?_).mono ?_
  · unfold strings_Join.f
    have hl : (Lib.join ([BA (fullL n0), BA (fullL n1), BA (fullL n2), BA (fullL n3), BA (fullL n4), BA (fullL n5), BA (fullL n6), BA (fullL n7)].map (·.data.toList)) (BA [58]).data.toList) = joinC ([n0, n1, n2, n3, n4, n5, n6, n7].map fullL) := by simp [Lib.join, List.intercalate, ba_list, joinC]
    rw [hl, if_pos ⟨by simp, full_short h0 h1 h2 h3 h4 h5 h6 h7⟩]
    rfl
  rintro e w9 ⟨rfl, hb9⟩
  have B9 := below_step B8 hb9
  go_wp2_with fail
  go_ret
  exact ⟨rfl, B9⟩
end Go.Proofs.YtcgdjnmfeibnoaaDoor
/-! X3 -/
namespace Go.Proofs.YtcgdjnmfeibnoaaDoor.X
open Go.RowKit Go.Proofs.YtcgdjnmfeibnoaaDoorW.PrintWords Go.Proofs.YtcgdjnmfeibnoaaDoorW.PrintLast Go.Proofs.YtcgdjnmfeibnoaaDoorW.PrintMore
attribute [local go_sem] max2_int min2_int max_two min_two max_three min_three max_four min_four
set_option linter.unusedVariables false
set_option linter.unusedSimpArgs false
def strings_HasSuffix.f (a0 : ByteArray) (a1 : ByteArray) : Option (Bool) := (stringslite_HasSuffix.f a0 a1).bind fun t152 => (some t152)
set_option maxHeartbeats 8000000 in
set_option maxRecDepth 100000 in
theorem strings_HasSuffix.calls (a0 : ByteArray) (a1 : ByteArray) (r : Bool) (w : World) (h : strings_HasSuffix.f a0 a1 = some r) :
    Calls Tryd.prog 72 #[.string a0, .string a1] w fun e w' => e = .returned (.bool r) ∧ Drawn0 w w' := by
  have H : ((stringslite_HasSuffix.f a0 a1).bind fun t152 => (some t152)) = some r := h
  clear h
  replace H := Option.bind_eq_some_iff.mp H
  obtain ⟨t152, A30, H⟩ := H
  replace H : (some t152) = some r := H
  have A3 := Aside0.mk A30
  clear A30
  obtain rfl := Option.some.inj H
  go_enter Tryd.func72, Tryd.ntmps72
  go_wp2_with (first | ((with_reducible refine gate_callee (f := 109) rfl ?_); refine goesL_ (some 7) rfl rfl Tryd.func109 (by kernel_rfl) rfl #[.string a0, .string a1] rfl (by (try simp only [List.map_toArray, List.map_cons, List.map_nil]); first | done | rfl | (simp only [List.length_drop, List.length_take]; rfl)) ?_; (with_reducible refine (stringslite_HasSuffix.calls a0 a1 t152 _ A3.out).mono ?_); rintro e w' ⟨rfl, ⟨nd, rfl⟩⟩; refine ⟨_, rfl, ?_⟩))
  go_ret
  exact ⟨by first | rfl | (simp; done) | (simp [*]; done), by repeat (first | exact Drawn0.refl _ | apply Drawn0.step)⟩
def six_low.f (a0_0 : Int) (a0_1 : Int) (a0_2 : Int) (a0_3 : Int) (a0_4 : Int) (a0_5 : Int) (a0_6 : Int) (a0_7 : Int) : Option (Int) := some (Go.bits .or .u32 ((((a0_6) % 4294967296) * 65536) % 4294967296) ((a0_7) % 4294967296))
set_option maxHeartbeats 8000000 in
set_option maxRecDepth 100000 in
theorem six_low.calls (a0_0 : Int) (a0_1 : Int) (a0_2 : Int) (a0_3 : Int) (a0_4 : Int) (a0_5 : Int) (a0_6 : Int) (a0_7 : Int) (r : Int) (w : World) (h : six_low.f a0_0 a0_1 a0_2 a0_3 a0_4 a0_5 a0_6 a0_7 = some r) :
    Calls Tryd.prog 74 #[.agg #[.int .u16 a0_0, .int .u16 a0_1, .int .u16 a0_2, .int .u16 a0_3, .int .u16 a0_4, .int .u16 a0_5, .int .u16 a0_6, .int .u16 a0_7]] w fun e w' => e = .returned (.int .u32 r) ∧ Below w.heap.size w w' := by
  have hu24 := Tryd.underlying24
  have HB := Aside0.mk (Below.refl w.heap.size w)
  have H : (some (Go.bits .or .u32 ((((a0_6) % 4294967296) * 65536) % 4294967296) ((a0_7) % 4294967296))) = some r := h
  clear h
  obtain rfl := Option.some.inj H
  go_enter Tryd.func74, Tryd.ntmps74
  go_wp2_with (first | ((with_reducible refine gate_dst (N := 1) rfl ?_); refine box_event ?hg (N := 1) ?hd (cs := #[.int .u16 a0_0, .int .u16 a0_1, .int .u16 a0_2, .int .u16 a0_3, .int .u16 a0_4, .int .u16 a0_5, .int .u16 a0_6, .int .u16 a0_7]) (t := 24) ?hr ?_; (case hd => rfl); (case hg => rfl); (case hr => first | (go_simp; done) | (go_simp; rfl)); intro gb158 hg w2 hbox hb; have n0_ := Aside0.mk (below_step (by repeat (first | (with_reducible first | exact HB.out | apply below_alloc | apply pw_below_drewN | apply below_drew1) | exact HB.out)) hb); have n1_ := Aside0.mk (hbox); have n2_ := Aside0.mk ((by rw [hg]; exact (below_size (by repeat (first | (with_reducible first | exact HB.out | apply below_alloc | apply pw_below_drewN | apply below_drew1) | exact HB.out))) : w.heap.size ≤ gb158)); have n3_ := Aside0.mk ((by rw [hg]; exact (below_size (by repeat (first | (with_reducible first | exact HB.out | apply below_alloc | apply pw_below_drewN | apply below_drew1) | exact HB.out))) : w.heap.size ≤ gb158)); clear HB; have HB := n0_; have BK158 := n1_; have GW158 := n2_; have GE158 := n3_; clear n0_ n1_ n2_ n3_; clear hb hbox hg; have hcz3_0 : w2.cell? ⟨gb158, 0, none⟩ = some (.int .u16 a0_0) := (blk_cell BK158.out 0).trans rfl; have hcz3_1 : w2.cell? ⟨gb158, 1, none⟩ = some (.int .u16 a0_1) := (blk_cell BK158.out 1).trans rfl; have hcz3_2 : w2.cell? ⟨gb158, 2, none⟩ = some (.int .u16 a0_2) := (blk_cell BK158.out 2).trans rfl; have hcz3_3 : w2.cell? ⟨gb158, 3, none⟩ = some (.int .u16 a0_3) := (blk_cell BK158.out 3).trans rfl; have hcz3_4 : w2.cell? ⟨gb158, 4, none⟩ = some (.int .u16 a0_4) := (blk_cell BK158.out 4).trans rfl; have hcz3_5 : w2.cell? ⟨gb158, 5, none⟩ = some (.int .u16 a0_5) := (blk_cell BK158.out 5).trans rfl; have hcz3_6 : w2.cell? ⟨gb158, 6, none⟩ = some (.int .u16 a0_6) := (blk_cell BK158.out 6).trans rfl; have hcz3_7 : w2.cell? ⟨gb158, 7, none⟩ = some (.int .u16 a0_7) := (blk_cell BK158.out 7).trans rfl; have hfz3_0 := blk_frozen BK158.out 0; have hfz3_1 := blk_frozen BK158.out 1; have hfz3_2 := blk_frozen BK158.out 2; have hfz3_3 := blk_frozen BK158.out 3; have hfz3_4 := blk_frozen BK158.out 4; have hfz3_5 := blk_frozen BK158.out 5; have hfz3_6 := blk_frozen BK158.out 6; have hfz3_7 := blk_frozen BK158.out 7))
  go_ret
  exact ⟨by first | rfl | (simp [errW_none, errW_some] <;> rfl) | (simp [*, errW_none, errW_some] <;> rfl), by repeat (first | (with_reducible first | exact HB.out | apply below_alloc | apply pw_below_drewN | apply below_drew1 | refine below_set ?_ GE158.out) | exact HB.out)⟩
end Go.Proofs.YtcgdjnmfeibnoaaDoor.X
/-! SixMixed -/
namespace Go.Proofs.YtcgdjnmfeibnoaaDoor
open Go.RowKit Go.Proofs.YtcgdjnmfeibnoaaDoorW.PrintWords Go.Proofs.YtcgdjnmfeibnoaaDoor.X Go.IntWalk
set_option linter.unusedVariables false
set_option linter.unusedSimpArgs false
theorem suffix_iff (l : List UInt8) (h : 2 ≤ l.length) : [58, 58] <:+ l ↔ l.drop (l.length - 2) = [58, 58] := by
  constructor
  · rintro ⟨t, rfl⟩
    simp
  · intro e
    refine ⟨l.take (l.length - 2), ?_⟩
    rw [← e]
    exact List.take_append_drop _ _
theorem suffix_walk (l : List UInt8) (hl : l.length ≤ 1000) (w : World) : Calls Tryd.prog 72 #[.string ⟨l.toArray⟩, .string ⟨#[58, 58]⟩] w fun e w' => e = .returned (.bool (decide ([58, 58] <:+ l))) ∧ Below w.heap.size w w' := by
  refine (strings_HasSuffix.calls ⟨l.toArray⟩ ⟨#[58, 58]⟩ _ w ?_).mono fun e w' ⟨h1, h2⟩ => ⟨h1, h2.below⟩
  have hsz : ((⟨l.toArray⟩ : ByteArray).size : Int) = l.length := rfl
  have hs2 : ((⟨#[58, 58]⟩ : ByteArray).size : Int) = 2 := rfl
  unfold strings_HasSuffix.f stringslite_HasSuffix.f
  rw [hsz, hs2]
  by_cases h : (l.length : Int) ≥ 2
  · rw [if_pos h, wrap64_in _ (by omega), if_pos (by omega), if_pos (by omega), Option.bind_some]
    congr 1
    rw [Bool.eq_iff_iff, beq_iff_eq, decide_eq_true_eq, suffix_iff l (by omega)]
    have e1 : ((l.length : Int) - 2).toNat = l.length - 2 := by omega
    rw [e1, extract_tail, toList_data, toList_data, ba_list]
  · rw [if_neg h, Option.bind_some]
    congr 1
    rw [eq_comm, decide_eq_false_iff_not]
    rintro ⟨t, rfl⟩
    simp at h
    omega
theorem low_walk (n0 n1 n2 n3 n4 n5 n6 n7 : Nat) (h6 : n6 ≤ 65535) (h7 : n7 ≤ 65535) (w : World) :
    Calls Tryd.prog 74 #[.agg #[.int .u16 (n0 : Int), .int .u16 (n1 : Int), .int .u16 (n2 : Int), .int .u16 (n3 : Int), .int .u16 (n4 : Int), .int .u16 (n5 : Int), .int .u16 (n6 : Int), .int .u16 (n7 : Int)]] w fun e w' => e = .returned (.int .u32 ((n6 : Int) * 65536 + n7)) ∧ Below w.heap.size w w' := by
  refine six_low.calls _ _ _ _ _ _ _ _ _ w ?_
  unfold six_low.f
  congr 1
  rw [Int.emod_eq_of_lt (by omega) (by omega), Int.emod_eq_of_lt (by omega) (by omega), Int.emod_eq_of_lt (by omega) (by omega)]
  have hor : (65536 * n6 ||| n7) = 65536 * n6 + n7 := by
    have := Nat.two_pow_add_eq_or_of_lt (i := 16) (show n7 < 2 ^ 16 by omega) n6
    rw [show (2 : Nat) ^ 16 = 65536 by decide] at this
    exact this.symm
  rw [show (n6 : Int) * 65536 = ((65536 * n6 : Nat) : Int) by omega, u32_or_nat (65536 * n6) n7 (by omega) (by omega), hor]
  omega
theorem textL_short {xs : List Nat} (hl : xs.length ≤ 8) (hn : xs ≠ []) (h : ∀ x ∈ xs, x ≤ 65535) : (textL xs).length ≤ 100 := by
  have hs : ∀ l : List Nat, (∀ x ∈ l, x ≤ 65535) → hsum l ≤ 4 * l.length := by
    intro l
    induction l with
    | nil => intro _; exact Nat.le_refl _
    | cons x l ih =>
      intro h
      have h1 := ih (fun y hy => h y (List.mem_cons_of_mem _ hy))
      have h2 := (hexL_pc (h x (by simp))).l4
      unfold hsum lsum at h1 ⊢
      simp only [List.map_cons, List.sum_cons, List.length_cons] at h1 ⊢
      omega
  have h1 := hs xs h
  rcases textL_len xs hn with ⟨e, _⟩ | ⟨n, _, _, e | e⟩ <;> omega
set_option maxHeartbeats 4000000 in
set_option maxRecDepth 100000 in
theorem mixed_walk (n0 n1 n2 n3 n4 n5 n6 n7 : Nat) (h0 : n0 ≤ 65535) (h1 : n1 ≤ 65535) (h2 : n2 ≤ 65535) (h3 : n3 ≤ 65535) (h4 : n4 ≤ 65535) (h5 : n5 ≤ 65535) (h6 : n6 ≤ 65535) (h7 : n7 ≤ 65535) (w : World) (hG : GI w) :
    Calls Tryd.prog 32 #[.agg #[.int .u16 (n0 : Int), .int .u16 (n1 : Int), .int .u16 (n2 : Int), .int .u16 (n3 : Int), .int .u16 (n4 : Int), .int .u16 (n5 : Int), .int .u16 (n6 : Int), .int .u16 (n7 : Int)]] w fun e w' => e = .returned (.string (BA (mixL [n0, n1, n2, n3, n4, n5] (printV ((n6 : Int) * 65536 + n7))))) ∧ Below w.heap.size w w' := by
  have hx : ∀ x ∈ [n0, n1, n2, n3, n4, n5], x ≤ 65535 := by
    intro x hx
    simp only [List.mem_cons, List.not_mem_nil, or_false] at hx
    omega
  have hsh := textL_short (xs := [n0, n1, n2, n3, n4, n5]) (by simp) (by simp) hx
  have HM := Lib.hid (show mixL [n0, n1, n2, n3, n4, n5] (printV ((n6 : Int) * 65536 + n7)) = (if [58, 58] <:+ textL [n0, n1, n2, n3, n4, n5] then textL [n0, n1, n2, n3, n4, n5] else textL [n0, n1, n2, n3, n4, n5] ++ [58]) ++ printV ((n6 : Int) * 65536 + n7) from rfl)
  have hk : (w.alloc (.cells #[.int .u16 (n0 : Int), .int .u16 (n1 : Int), .int .u16 (n2 : Int), .int .u16 (n3 : Int), .int .u16 (n4 : Int), .int .u16 (n5 : Int), .int .u16 (n6 : Int), .int .u16 (n7 : Int)] 24)).heap[w.heap.size]? = some (.cells #[.int .u16 (n0 : Int), .int .u16 (n1 : Int), .int .u16 (n2 : Int), .int .u16 (n3 : Int), .int .u16 (n4 : Int), .int .u16 (n5 : Int), .int .u16 (n6 : Int), .int .u16 (n7 : Int)] 24 (0, 0)) := blk_new _ _
  have hT := text_walk [n0, n1, n2, n3, n4, n5] w.heap.size 8 (w.alloc (.cells #[.int .u16 (n0 : Int), .int .u16 (n1 : Int), .int .u16 (n2 : Int), .int .u16 (n3 : Int), .int .u16 (n4 : Int), .int .u16 (n5 : Int), .int .u16 (n6 : Int), .int .u16 (n7 : Int)] 24)) (by simp) (by simp) (by simp) hx
    (by
      intro j hj
      rw [Lib.cell_of_heap hk]
      match j, hj with
      | 0, _ => rfl
      | 1, _ => rfl
      | 2, _ => rfl
      | 3, _ => rfl
      | 4, _ => rfl
      | 5, _ => rfl
      | j + 6, hj => exact absurd hj (by simp))
  have HT := Lib.hid hT
  have HK := Lib.hid hk
  have HG := Lib.hid hG
  clear hT hx hk hG
  go_enter Tryd.func32, Tryd.ntmps32
  go_wp2_with fail
  refine HT.out.mono ?_
  rintro e w1 ⟨rfl, hb1⟩
  have K1 := blk_below HK.out hb1
  have B1 := ((Below.refl w.heap.size w).alloc (Nat.le_refl _) (.cells #[.int .u16 (n0 : Int), .int .u16 (n1 : Int), .int .u16 (n2 : Int), .int .u16 (n3 : Int), .int .u16 (n4 : Int), .int .u16 (n5 : Int), .int .u16 (n6 : Int), .int .u16 (n7 : Int)] 24)).trans (hb1.mono (by simp))
  generalize textL [n0, n1, n2, n3, n4, n5] = T at *
  clear HT HK hb1
  go_wp2_with fail
  refine (suffix_walk T (by omega) _).mono ?_
  rintro e w2 ⟨rfl, hb2⟩
  have K2 := blk_below K1 hb2
  have B2 := below_step B1 hb2
  clear K1 B1 hb2
  have c0 : w2.cell? ⟨w.heap.size, 0, none⟩ = some (.int .u16 (n0 : Int)) := (blk_cell K2 0).trans rfl
  have c1 : w2.cell? ⟨w.heap.size, 1, none⟩ = some (.int .u16 (n1 : Int)) := (blk_cell K2 1).trans rfl
  have c2 : w2.cell? ⟨w.heap.size, 2, none⟩ = some (.int .u16 (n2 : Int)) := (blk_cell K2 2).trans rfl
  have c3 : w2.cell? ⟨w.heap.size, 3, none⟩ = some (.int .u16 (n3 : Int)) := (blk_cell K2 3).trans rfl
  have c4 : w2.cell? ⟨w.heap.size, 4, none⟩ = some (.int .u16 (n4 : Int)) := (blk_cell K2 4).trans rfl
  have c5 : w2.cell? ⟨w.heap.size, 5, none⟩ = some (.int .u16 (n5 : Int)) := (blk_cell K2 5).trans rfl
  have c6 : w2.cell? ⟨w.heap.size, 6, none⟩ = some (.int .u16 (n6 : Int)) := (blk_cell K2 6).trans rfl
  have c7 : w2.cell? ⟨w.heap.size, 7, none⟩ = some (.int .u16 (n7 : Int)) := (blk_cell K2 7).trans rfl
  clear K2
  have hr0 : (0 : Int) ≤ (n6 : Int) * 65536 + n7 := by omega
  have hr1 : (n6 : Int) * 65536 + n7 ≤ 4294967295 := by omega
  have hq : (printV ((n6 : Int) * 65536 + n7)).length ≤ 140737488355328 := by
    unfold printV oct4
    exact join4_len (by omega) (by omega) (by omega) (by omega) (by omega) (by omega) (by omega) (by omega)
  have hqs : T.length + (BA (printV ((n6 : Int) * 65536 + n7))).size ≤ 9223372036854775807 := by rw [ba_size]; omega
  have hqs1 : T.length + 1 + (BA (printV ((n6 : Int) * 65536 + n7))).size ≤ 9223372036854775807 := by rw [ba_size]; omega
  have HQ := Lib.hid hqs
  have HQ1 := Lib.hid hqs1
  clear hq hqs hqs1
  by_cases hsuf : [58, 58] <:+ T
  · rw [decide_eq_true hsuf]
    go_wp2_with fail
    refine (low_walk n0 n1 n2 n3 n4 n5 n6 n7 h6 h7 _).mono ?_
    rintro e w3 ⟨rfl, hb3⟩
    have B3 := below_step B2 hb3
    clear hb3
    go_wp2_with fail
    refine (fourPrint_walk _ hr0 hr1 _ (HG.out.keep B3)).mono ?_
    rintro e w4 ⟨rfl, hb4⟩
    have B4 := below_step B3 hb4
    clear hb4
    have hqs := HQ.out
    go_wp2_with fail
    go_ret
    refine ⟨?_, B4⟩
    rw [HM.out, if_pos hsuf]
    exact congrArg (fun x => Ending.returned (.string x)) (ba_app T (printV ((n6 : Int) * 65536 + n7)))
  · rw [decide_eq_false hsuf]
    go_wp2_with fail
    refine (low_walk n0 n1 n2 n3 n4 n5 n6 n7 h6 h7 _).mono ?_
    rintro e w3 ⟨rfl, hb3⟩
    have B3 := below_step B2 hb3
    clear hb3
    go_wp2_with fail
    refine (fourPrint_walk _ hr0 hr1 _ (HG.out.keep B3)).mono ?_
    rintro e w4 ⟨rfl, hb4⟩
    have B4 := below_step B3 hb4
    clear hb4
    have hqs := HQ1.out
    go_wp2_with fail
    go_ret
    refine ⟨?_, B4⟩
    rw [HM.out, if_neg hsuf]
    exact congrArg (fun x => Ending.returned (.string x)) ((congrArg (· ++ BA (printV ((n6 : Int) * 65536 + n7))) (ba_app T [58])).trans (ba_app (T ++ [58]) (printV ((n6 : Int) * 65536 + n7))))
end Go.Proofs.YtcgdjnmfeibnoaaDoor
/-! SixBack -/
namespace Go.Proofs.YtcgdjnmfeibnoaaDoor
open Go.RowKit Go.Proofs.YtcgdjnmfeibnoaaDoorW.PrintWords
set_option linter.unusedVariables false
set_option linter.unusedSimpArgs false
/-- Parse of a text that says an address. -/
theorem back_ret {t : List UInt8} {n0 n1 n2 n3 n4 n5 n6 n7 : Nat} (h : Says t [n0, n1, n2, n3, n4, n5, n6, n7]) (ht : t.length ≤ 9223372036854775807) (w : World) (hG : GW w) :
    Calls Tryd.prog 15 #[.string (BA t)] w fun e w' => e = .returned (.tuple #[.agg #[.int .u16 (n0 : Int), .int .u16 (n1 : Int), .int .u16 (n2 : Int), .int .u16 (n3 : Int), .int .u16 (n4 : Int), .int .u16 (n5 : Int), .int .u16 (n6 : Int), .int .u16 (n7 : Int)], .int .i64 0, .int .i64 0]) ∧ Below w.heap.size w w' := by
  refine (parse_walk (BA t) ht w hG).mono fun e w' hr => ?_
  obtain ⟨h1, h2⟩ := h
  have hp : parseP (BA t).data.toList = ((parseP t).1, 0, 0) := by
    rw [ba_list]
    exact Prod.ext rfl h2
  obtain ⟨he, hb⟩ := parsed_atP hp hr
  refine ⟨?_, hb⟩
  rw [he, h1 0 (by decide), h1 1 (by decide), h1 2 (by decide), h1 3 (by decide), h1 4 (by decide), h1 5 (by decide), h1 6 (by decide), h1 7 (by decide)]
  rfl
theorem mixL_short {xs : List Nat} {q : List UInt8} (h : (textL xs).length ≤ 100) (hq : q.length ≤ 140737488355328) : (mixL xs q).length ≤ 9223372036854775807 := by
  unfold mixL
  rw [List.length_append]
  split
  · omega
  · rw [List.length_append, List.length_singleton]; omega
theorem printV_short (n : Int) (h0 : 0 ≤ n) (h1 : n ≤ 4294967295) : (printV n).length ≤ 140737488355328 := by
  unfold printV oct4
  exact join4_len (by omega) (by omega) (by omega) (by omega) (by omega) (by omega) (by omega) (by omega)
set_option maxHeartbeats 4000000 in
set_option maxRecDepth 100000 in
theorem back_walk (n0 n1 n2 n3 n4 n5 n6 n7 : Nat) (h0 : n0 ≤ 65535) (h1 : n1 ≤ 65535) (h2 : n2 ≤ 65535) (h3 : n3 ≤ 65535) (h4 : n4 ≤ 65535) (h5 : n5 ≤ 65535) (h6 : n6 ≤ 65535) (h7 : n7 ≤ 65535) (hS : strictV (printV ((n6 : Int) * 65536 + n7)) = ((n6 : Int) * 65536 + n7, 0, 0)) (hS1 : (58 : UInt8) ∉ printV ((n6 : Int) * 65536 + n7)) (hS2 : printV ((n6 : Int) * 65536 + n7) ≠ []) (w : World) (hG : GW w) (hI : GI w) :
    Calls Tryd.prog 9 #[.agg #[.int .u16 (n0 : Int), .int .u16 (n1 : Int), .int .u16 (n2 : Int), .int .u16 (n3 : Int), .int .u16 (n4 : Int), .int .u16 (n5 : Int), .int .u16 (n6 : Int), .int .u16 (n7 : Int)]] w fun e w' => e = .returned (.bool true) ∧ Below w.heap.size w w' := by
  have hx8 : ∀ x ∈ [n0, n1, n2, n3, n4, n5, n6, n7], x ≤ 65535 := by
    intro x hx
    simp only [List.mem_cons, List.not_mem_nil, or_false] at hx
    omega
  have hx6 : ∀ x ∈ [n0, n1, n2, n3, n4, n5], x ≤ 65535 := by
    intro x hx
    simp only [List.mem_cons, List.not_mem_nil, or_false] at hx
    omega
  have l0 := textL_short (xs := [n0, n1, n2, n3, n4, n5, n6, n7]) (by simp) (by simp) hx8
  have l1 := full_short h0 h1 h2 h3 h4 h5 h6 h7
  have l2 := mixL_short (textL_short (xs := [n0, n1, n2, n3, n4, n5]) (by simp) (by simp) hx6) (printV_short ((n6 : Int) * 65536 + n7) (by omega) (by omega))
  have HB0 := Lib.hid (fun w hG => back_ret (back_print rfl hx8) (by omega) w hG)
  have HB1 := Lib.hid (fun w hG => back_ret (back_full rfl hx8) (by omega) w hG)
  have HB2 := Lib.hid (fun w hG => back_ret (t := mixL [n0, n1, n2, n3, n4, n5] (printV ((n6 : Int) * 65536 + n7))) (n0 := n0) (n1 := n1) (n2 := n2) (n3 := n3) (n4 := n4) (n5 := n5) (n6 := n6) (n7 := n7) (back_mixed (xs := [n0, n1, n2, n3, n4, n5]) rfl hx6 h6 h7 rfl hS hS1 hS2) l2 w hG)
  have HP := Lib.hid (fun w => print_walk n0 n1 n2 n3 n4 n5 n6 n7 ⟨by omega, by omega, by omega, by omega, by omega, by omega, by omega, by omega⟩ w)
  have HF := Lib.hid (fun w => full_walk n0 n1 n2 n3 n4 n5 n6 n7 h0 h1 h2 h3 h4 h5 h6 h7 w)
  have HM := Lib.hid (fun w hG => mixed_walk n0 n1 n2 n3 n4 n5 n6 n7 h0 h1 h2 h3 h4 h5 h6 h7 w hG)
  have HG := Lib.hid hG
  have HI := Lib.hid hI
  rw [show printL (n0 : Int) n1 n2 n3 n4 n5 n6 n7 = textL [n0, n1, n2, n3, n4, n5, n6, n7] from rfl] at HP
  generalize textL [n0, n1, n2, n3, n4, n5, n6, n7] = p0 at *
  generalize joinC ([n0, n1, n2, n3, n4, n5, n6, n7].map fullL) = p1 at *
  generalize mixL [n0, n1, n2, n3, n4, n5] (printV ((n6 : Int) * 65536 + n7)) = p2 at *
  clear hx8 hx6 l0 l1 l2 hG hI hS hS1 hS2
  go_enter Tryd.func9, Tryd.ntmps9
  go_upto_region 1 with fail
  have hk : (w.alloc (.cells #[.int .u16 (n0 : Int), .int .u16 (n1 : Int), .int .u16 (n2 : Int), .int .u16 (n3 : Int), .int .u16 (n4 : Int), .int .u16 (n5 : Int), .int .u16 (n6 : Int), .int .u16 (n7 : Int)] 24)).heap[w.heap.size]? = some (.cells #[.int .u16 (n0 : Int), .int .u16 (n1 : Int), .int .u16 (n2 : Int), .int .u16 (n3 : Int), .int .u16 (n4 : Int), .int .u16 (n5 : Int), .int .u16 (n6 : Int), .int .u16 (n7 : Int)] 24 (0, 0)) := blk_new _ _
  have B0 : Below w.heap.size w (w.alloc (.cells #[.int .u16 (n0 : Int), .int .u16 (n1 : Int), .int .u16 (n2 : Int), .int .u16 (n3 : Int), .int .u16 (n4 : Int), .int .u16 (n5 : Int), .int .u16 (n6 : Int), .int .u16 (n7 : Int)] 24)) := (Below.refl _ _).alloc (Nat.le_refl _) _
  generalize hW : w.alloc (.cells #[.int .u16 (n0 : Int), .int .u16 (n1 : Int), .int .u16 (n2 : Int), .int .u16 (n3 : Int), .int .u16 (n4 : Int), .int .u16 (n5 : Int), .int .u16 (n6 : Int), .int .u16 (n7 : Int)] 24) = W0 at *
  clear hW
  have c0 : W0.cell? ⟨w.heap.size, 0, none⟩ = some (.int .u16 (n0 : Int)) := (blk_cell hk 0).trans rfl
  have c1 : W0.cell? ⟨w.heap.size, 1, none⟩ = some (.int .u16 (n1 : Int)) := (blk_cell hk 1).trans rfl
  have c2 : W0.cell? ⟨w.heap.size, 2, none⟩ = some (.int .u16 (n2 : Int)) := (blk_cell hk 2).trans rfl
  have c3 : W0.cell? ⟨w.heap.size, 3, none⟩ = some (.int .u16 (n3 : Int)) := (blk_cell hk 3).trans rfl
  have c4 : W0.cell? ⟨w.heap.size, 4, none⟩ = some (.int .u16 (n4 : Int)) := (blk_cell hk 4).trans rfl
  have c5 : W0.cell? ⟨w.heap.size, 5, none⟩ = some (.int .u16 (n5 : Int)) := (blk_cell hk 5).trans rfl
  have c6 : W0.cell? ⟨w.heap.size, 6, none⟩ = some (.int .u16 (n6 : Int)) := (blk_cell hk 6).trans rfl
  have c7 : W0.cell? ⟨w.heap.size, 7, none⟩ = some (.int .u16 (n7 : Int)) := (blk_cell hk 7).trans rfl
  have hbl := blk_lt hk
  go_region_held3 (fun w' => w'.cell? ⟨w.heap.size, 0, none⟩ = some (.int .u16 (n0 : Int)) ∧ w'.cell? ⟨w.heap.size, 1, none⟩ = some (.int .u16 (n1 : Int)) ∧ w'.cell? ⟨w.heap.size, 2, none⟩ = some (.int .u16 (n2 : Int)) ∧ w'.cell? ⟨w.heap.size, 3, none⟩ = some (.int .u16 (n3 : Int)) ∧ w'.cell? ⟨w.heap.size, 4, none⟩ = some (.int .u16 (n4 : Int)) ∧ w'.cell? ⟨w.heap.size, 5, none⟩ = some (.int .u16 (n5 : Int)) ∧ w'.cell? ⟨w.heap.size, 6, none⟩ = some (.int .u16 (n6 : Int)) ∧ w'.cell? ⟨w.heap.size, 7, none⟩ = some (.int .u16 (n7 : Int)))
            (first | go_keep | (refine ⟨?_, ?_, ?_, ?_, ?_, ?_, ?_, ?_⟩ <;> assumption))
            (first
              | (go_at_call 17
                 refine (HP.out _).mono ?_
                 rintro e wP ⟨rfl, hbP⟩
                 have d0 : wP.cell? ⟨w.heap.size, 0, none⟩ = some (.int .u16 (n0 : Int)) := (hbP.cell (p := ⟨w.heap.size, 0, none⟩) hbl).trans c0
                 have d1 : wP.cell? ⟨w.heap.size, 1, none⟩ = some (.int .u16 (n1 : Int)) := (hbP.cell (p := ⟨w.heap.size, 1, none⟩) hbl).trans c1
                 have d2 : wP.cell? ⟨w.heap.size, 2, none⟩ = some (.int .u16 (n2 : Int)) := (hbP.cell (p := ⟨w.heap.size, 2, none⟩) hbl).trans c2
                 have d3 : wP.cell? ⟨w.heap.size, 3, none⟩ = some (.int .u16 (n3 : Int)) := (hbP.cell (p := ⟨w.heap.size, 3, none⟩) hbl).trans c3
                 have d4 : wP.cell? ⟨w.heap.size, 4, none⟩ = some (.int .u16 (n4 : Int)) := (hbP.cell (p := ⟨w.heap.size, 4, none⟩) hbl).trans c4
                 have d5 : wP.cell? ⟨w.heap.size, 5, none⟩ = some (.int .u16 (n5 : Int)) := (hbP.cell (p := ⟨w.heap.size, 5, none⟩) hbl).trans c5
                 have d6 : wP.cell? ⟨w.heap.size, 6, none⟩ = some (.int .u16 (n6 : Int)) := (hbP.cell (p := ⟨w.heap.size, 6, none⟩) hbl).trans c6
                 have d7 : wP.cell? ⟨w.heap.size, 7, none⟩ = some (.int .u16 (n7 : Int)) := (hbP.cell (p := ⟨w.heap.size, 7, none⟩) hbl).trans c7
                 have hlP : w.heap.size < wP.heap.size := Nat.lt_of_lt_of_le hbl hbP.size
                 have BP : Below w.heap.size w wP := B0.trans ((show Below W0.heap.size W0 wP from (bdn (Below.refl _ _) 1).trans hbP).mono B0.size))
              | (go_at_call 30
                 refine (HF.out _).mono ?_
                 rintro e wF ⟨rfl, hbF⟩
                 have e0 : wF.cell? ⟨w.heap.size, 0, none⟩ = some (.int .u16 (n0 : Int)) := (hbF.cell (p := ⟨w.heap.size, 0, none⟩) hlP).trans d0
                 have e1 : wF.cell? ⟨w.heap.size, 1, none⟩ = some (.int .u16 (n1 : Int)) := (hbF.cell (p := ⟨w.heap.size, 1, none⟩) hlP).trans d1
                 have e2 : wF.cell? ⟨w.heap.size, 2, none⟩ = some (.int .u16 (n2 : Int)) := (hbF.cell (p := ⟨w.heap.size, 2, none⟩) hlP).trans d2
                 have e3 : wF.cell? ⟨w.heap.size, 3, none⟩ = some (.int .u16 (n3 : Int)) := (hbF.cell (p := ⟨w.heap.size, 3, none⟩) hlP).trans d3
                 have e4 : wF.cell? ⟨w.heap.size, 4, none⟩ = some (.int .u16 (n4 : Int)) := (hbF.cell (p := ⟨w.heap.size, 4, none⟩) hlP).trans d4
                 have e5 : wF.cell? ⟨w.heap.size, 5, none⟩ = some (.int .u16 (n5 : Int)) := (hbF.cell (p := ⟨w.heap.size, 5, none⟩) hlP).trans d5
                 have e6 : wF.cell? ⟨w.heap.size, 6, none⟩ = some (.int .u16 (n6 : Int)) := (hbF.cell (p := ⟨w.heap.size, 6, none⟩) hlP).trans d6
                 have e7 : wF.cell? ⟨w.heap.size, 7, none⟩ = some (.int .u16 (n7 : Int)) := (hbF.cell (p := ⟨w.heap.size, 7, none⟩) hlP).trans d7
                 have hlF : w.heap.size < wF.heap.size := Nat.lt_of_lt_of_le hlP hbF.size
                 have BF := BP.trans (hbF.mono BP.size))
              | (go_at_call 32
                 refine (HM.out _ (HI.out.keep BF)).mono ?_
                 rintro e wM ⟨rfl, hbM⟩
                 have f0 : wM.cell? ⟨w.heap.size, 0, none⟩ = some (.int .u16 (n0 : Int)) := (hbM.cell (p := ⟨w.heap.size, 0, none⟩) hlF).trans e0
                 have f1 : wM.cell? ⟨w.heap.size, 1, none⟩ = some (.int .u16 (n1 : Int)) := (hbM.cell (p := ⟨w.heap.size, 1, none⟩) hlF).trans e1
                 have f2 : wM.cell? ⟨w.heap.size, 2, none⟩ = some (.int .u16 (n2 : Int)) := (hbM.cell (p := ⟨w.heap.size, 2, none⟩) hlF).trans e2
                 have f3 : wM.cell? ⟨w.heap.size, 3, none⟩ = some (.int .u16 (n3 : Int)) := (hbM.cell (p := ⟨w.heap.size, 3, none⟩) hlF).trans e3
                 have f4 : wM.cell? ⟨w.heap.size, 4, none⟩ = some (.int .u16 (n4 : Int)) := (hbM.cell (p := ⟨w.heap.size, 4, none⟩) hlF).trans e4
                 have f5 : wM.cell? ⟨w.heap.size, 5, none⟩ = some (.int .u16 (n5 : Int)) := (hbM.cell (p := ⟨w.heap.size, 5, none⟩) hlF).trans e5
                 have f6 : wM.cell? ⟨w.heap.size, 6, none⟩ = some (.int .u16 (n6 : Int)) := (hbM.cell (p := ⟨w.heap.size, 6, none⟩) hlF).trans e6
                 have f7 : wM.cell? ⟨w.heap.size, 7, none⟩ = some (.int .u16 (n7 : Int)) := (hbM.cell (p := ⟨w.heap.size, 7, none⟩) hlF).trans e7
                 have BM := BF.trans (hbM.mono BF.size))
)
  rename_i hHeld
  clear hHeld
  have KA := blk_alloc (blk_below (blk_below (blk_below hk ((bdn (Below.refl _ _) 1).trans hbP)) hbF) hbM) (.cells #[.string ⟨p0.toArray⟩, .string (BA p1), .string (BA p2)] 9)
  have KR : (wM.alloc (.cells #[.string ⟨p0.toArray⟩, .string (BA p1), .string (BA p2)] 9)).heap[wM.heap.size]? = some (.cells #[.string ⟨p0.toArray⟩, .string (BA p1), .string (BA p2)] 9 (0, 0)) := blk_new _ _
  have B : Below w.heap.size w (wM.alloc (.cells #[.string ⟨p0.toArray⟩, .string (BA p1), .string (BA p2)] 9)) := BM.alloc BM.size _
  clear hbP hbF hbM hlP hlF BP BF B0 hk hbl HP HF HM HI
  clear c0 c1 c2 c3 c4 c5 c6 c7
  clear d0 d1 d2 d3 d4 d5 d6 d7
  clear e0 e1 e2 e3 e4 e5 e6 e7
  clear f0 f1 f2 f3 f4 f5 f6 f7
  generalize wM.alloc (.cells #[.string ⟨p0.toArray⟩, .string (BA p1), .string (BA p2)] 9) = V0 at *
  generalize wM.heap.size = g at *
  clear BM
  go_wp2_with fail
  refine wp_loop_rounds 4 ?_
  rw [rounds_succ]
  have s0 : V0.cell? ⟨g, 0, none⟩ = some (.string ⟨p0.toArray⟩) := (blk_cell KR 0).trans rfl
  go_wp2_with fail
  refine (HB0.out _ (HG.out.keep B)).mono ?_
  rintro e v0 ⟨rfl, hv⟩
  clear s0
  have KA := blk_below KA hv
  have KR := blk_below KR hv
  have B := below_step B hv
  clear hv
  have c0 : v0.cell? ⟨w.heap.size, 0, none⟩ = some (.int .u16 (n0 : Int)) := (blk_cell KA 0).trans rfl
  have c1 : v0.cell? ⟨w.heap.size, 1, none⟩ = some (.int .u16 (n1 : Int)) := (blk_cell KA 1).trans rfl
  have c2 : v0.cell? ⟨w.heap.size, 2, none⟩ = some (.int .u16 (n2 : Int)) := (blk_cell KA 2).trans rfl
  have c3 : v0.cell? ⟨w.heap.size, 3, none⟩ = some (.int .u16 (n3 : Int)) := (blk_cell KA 3).trans rfl
  have c4 : v0.cell? ⟨w.heap.size, 4, none⟩ = some (.int .u16 (n4 : Int)) := (blk_cell KA 4).trans rfl
  have c5 : v0.cell? ⟨w.heap.size, 5, none⟩ = some (.int .u16 (n5 : Int)) := (blk_cell KA 5).trans rfl
  have c6 : v0.cell? ⟨w.heap.size, 6, none⟩ = some (.int .u16 (n6 : Int)) := (blk_cell KA 6).trans rfl
  have c7 : v0.cell? ⟨w.heap.size, 7, none⟩ = some (.int .u16 (n7 : Int)) := (blk_cell KA 7).trans rfl
  have hl : w.heap.size < v0.heap.size := blk_lt KA
  go_wp2_with fail
  clear c0 c1 c2 c3 c4 c5 c6 c7 hl
  have KA := blk_alloc KA (.cells #[.int .u16 (n0 : Int), .int .u16 (n1 : Int), .int .u16 (n2 : Int), .int .u16 (n3 : Int), .int .u16 (n4 : Int), .int .u16 (n5 : Int), .int .u16 (n6 : Int), .int .u16 (n7 : Int)] 24)
  have KR := blk_alloc KR (.cells #[.int .u16 (n0 : Int), .int .u16 (n1 : Int), .int .u16 (n2 : Int), .int .u16 (n3 : Int), .int .u16 (n4 : Int), .int .u16 (n5 : Int), .int .u16 (n6 : Int), .int .u16 (n7 : Int)] 24)
  have B := B.alloc B.size (.cells #[.int .u16 (n0 : Int), .int .u16 (n1 : Int), .int .u16 (n2 : Int), .int .u16 (n3 : Int), .int .u16 (n4 : Int), .int .u16 (n5 : Int), .int .u16 (n6 : Int), .int .u16 (n7 : Int)] 24)
  generalize v0.alloc (.cells #[.int .u16 (n0 : Int), .int .u16 (n1 : Int), .int .u16 (n2 : Int), .int .u16 (n3 : Int), .int .u16 (n4 : Int), .int .u16 (n5 : Int), .int .u16 (n6 : Int), .int .u16 (n7 : Int)] 24) = V1 at *
  rw [rounds_succ]
  have s1 : V1.cell? ⟨g, 1, none⟩ = some (.string (BA p1)) := (blk_cell KR 1).trans rfl
  go_wp2_with fail
  refine (HB1.out _ (HG.out.keep B)).mono ?_
  rintro e v1 ⟨rfl, hv⟩
  clear s1
  have KA := blk_below KA hv
  have KR := blk_below KR hv
  have B := below_step B hv
  clear hv
  have c0 : v1.cell? ⟨w.heap.size, 0, none⟩ = some (.int .u16 (n0 : Int)) := (blk_cell KA 0).trans rfl
  have c1 : v1.cell? ⟨w.heap.size, 1, none⟩ = some (.int .u16 (n1 : Int)) := (blk_cell KA 1).trans rfl
  have c2 : v1.cell? ⟨w.heap.size, 2, none⟩ = some (.int .u16 (n2 : Int)) := (blk_cell KA 2).trans rfl
  have c3 : v1.cell? ⟨w.heap.size, 3, none⟩ = some (.int .u16 (n3 : Int)) := (blk_cell KA 3).trans rfl
  have c4 : v1.cell? ⟨w.heap.size, 4, none⟩ = some (.int .u16 (n4 : Int)) := (blk_cell KA 4).trans rfl
  have c5 : v1.cell? ⟨w.heap.size, 5, none⟩ = some (.int .u16 (n5 : Int)) := (blk_cell KA 5).trans rfl
  have c6 : v1.cell? ⟨w.heap.size, 6, none⟩ = some (.int .u16 (n6 : Int)) := (blk_cell KA 6).trans rfl
  have c7 : v1.cell? ⟨w.heap.size, 7, none⟩ = some (.int .u16 (n7 : Int)) := (blk_cell KA 7).trans rfl
  have hl : w.heap.size < v1.heap.size := blk_lt KA
  go_wp2_with fail
  clear c0 c1 c2 c3 c4 c5 c6 c7 hl
  have KA := blk_alloc KA (.cells #[.int .u16 (n0 : Int), .int .u16 (n1 : Int), .int .u16 (n2 : Int), .int .u16 (n3 : Int), .int .u16 (n4 : Int), .int .u16 (n5 : Int), .int .u16 (n6 : Int), .int .u16 (n7 : Int)] 24)
  have KR := blk_alloc KR (.cells #[.int .u16 (n0 : Int), .int .u16 (n1 : Int), .int .u16 (n2 : Int), .int .u16 (n3 : Int), .int .u16 (n4 : Int), .int .u16 (n5 : Int), .int .u16 (n6 : Int), .int .u16 (n7 : Int)] 24)
  have B := B.alloc B.size (.cells #[.int .u16 (n0 : Int), .int .u16 (n1 : Int), .int .u16 (n2 : Int), .int .u16 (n3 : Int), .int .u16 (n4 : Int), .int .u16 (n5 : Int), .int .u16 (n6 : Int), .int .u16 (n7 : Int)] 24)
  generalize v1.alloc (.cells #[.int .u16 (n0 : Int), .int .u16 (n1 : Int), .int .u16 (n2 : Int), .int .u16 (n3 : Int), .int .u16 (n4 : Int), .int .u16 (n5 : Int), .int .u16 (n6 : Int), .int .u16 (n7 : Int)] 24) = V2 at *
  rw [rounds_succ]
  have s2 : V2.cell? ⟨g, 2, none⟩ = some (.string (BA p2)) := (blk_cell KR 2).trans rfl
  go_wp2_with fail
  refine (HB2.out _ (HG.out.keep B)).mono ?_
  rintro e v2 ⟨rfl, hv⟩
  clear s2
  have KA := blk_below KA hv
  have KR := blk_below KR hv
  have B := below_step B hv
  clear hv
  have c0 : v2.cell? ⟨w.heap.size, 0, none⟩ = some (.int .u16 (n0 : Int)) := (blk_cell KA 0).trans rfl
  have c1 : v2.cell? ⟨w.heap.size, 1, none⟩ = some (.int .u16 (n1 : Int)) := (blk_cell KA 1).trans rfl
  have c2 : v2.cell? ⟨w.heap.size, 2, none⟩ = some (.int .u16 (n2 : Int)) := (blk_cell KA 2).trans rfl
  have c3 : v2.cell? ⟨w.heap.size, 3, none⟩ = some (.int .u16 (n3 : Int)) := (blk_cell KA 3).trans rfl
  have c4 : v2.cell? ⟨w.heap.size, 4, none⟩ = some (.int .u16 (n4 : Int)) := (blk_cell KA 4).trans rfl
  have c5 : v2.cell? ⟨w.heap.size, 5, none⟩ = some (.int .u16 (n5 : Int)) := (blk_cell KA 5).trans rfl
  have c6 : v2.cell? ⟨w.heap.size, 6, none⟩ = some (.int .u16 (n6 : Int)) := (blk_cell KA 6).trans rfl
  have c7 : v2.cell? ⟨w.heap.size, 7, none⟩ = some (.int .u16 (n7 : Int)) := (blk_cell KA 7).trans rfl
  have hl : w.heap.size < v2.heap.size := blk_lt KA
  go_wp2_with fail
  clear c0 c1 c2 c3 c4 c5 c6 c7 hl
  have KA := blk_alloc KA (.cells #[.int .u16 (n0 : Int), .int .u16 (n1 : Int), .int .u16 (n2 : Int), .int .u16 (n3 : Int), .int .u16 (n4 : Int), .int .u16 (n5 : Int), .int .u16 (n6 : Int), .int .u16 (n7 : Int)] 24)
  have KR := blk_alloc KR (.cells #[.int .u16 (n0 : Int), .int .u16 (n1 : Int), .int .u16 (n2 : Int), .int .u16 (n3 : Int), .int .u16 (n4 : Int), .int .u16 (n5 : Int), .int .u16 (n6 : Int), .int .u16 (n7 : Int)] 24)
  have B := B.alloc B.size (.cells #[.int .u16 (n0 : Int), .int .u16 (n1 : Int), .int .u16 (n2 : Int), .int .u16 (n3 : Int), .int .u16 (n4 : Int), .int .u16 (n5 : Int), .int .u16 (n6 : Int), .int .u16 (n7 : Int)] 24)
  generalize v2.alloc (.cells #[.int .u16 (n0 : Int), .int .u16 (n1 : Int), .int .u16 (n2 : Int), .int .u16 (n3 : Int), .int .u16 (n4 : Int), .int .u16 (n5 : Int), .int .u16 (n6 : Int), .int .u16 (n7 : Int)] 24) = V3 at *
  rw [rounds_succ]
  go_wp2_with fail
  refine (awake_walk _).mono ?_
  rintro e v9 ⟨rfl, h9⟩
  go_wp2_with fail
  go_returns
  exact ⟨rfl, below_step B h9⟩
end Go.Proofs.YtcgdjnmfeibnoaaDoor
/-! SixDotV -/
namespace Go.Proofs.YtcgdjnmfeibnoaaDoor
open Go.RowKit Go.Proofs.YtcgdjnmfeibnoaaDoorW.PrintWords
set_option linter.unusedVariables false
set_option linter.unusedSimpArgs false
theorem printV_dec (n : Int) (h0 : 0 ≤ n) (h1 : n ≤ 4294967295) : printV n = dec3 (n / 16777216).toNat ++ 46 :: (dec3 (n / 65536 % 256).toNat ++ 46 :: (dec3 (n / 256 % 256).toNat ++ 46 :: dec3 (n % 256).toNat)) := by
  unfold printV oct4
  simp only [List.map_cons, List.map_nil, join4]
  rw [itoa_small (by omega) (by omega), itoa_small (by omega) (by omega), itoa_small (by omega) (by omega), itoa_small (by omega) (by omega)]
theorem strict_dig (x : Nat) (hx : x < 10) (l : List UInt8) (i : Nat) (n : Int) (part size : Nat) (X : Int) (h : size = 0 ∨ 0 < X) (hb : 10 * X + (x : Int) ≤ 255) : strictL (dgt x :: l) i n part size X = strictL l (i + 1) n part (size + 1) (10 * X + (x : Int)) := by
  have hd : ((dgt x).toNat : Int) = 48 + (x : Int) := by rw [dgt_toNat hx]; omega
  rw [strictL, hd, if_pos ⟨by omega, by omega, h, by omega⟩, show 10 * X + (48 + (x : Int) - 48) = 10 * X + (x : Int) by omega]
theorem strict_dec (v : Nat) (hv : v < 256) (l : List UInt8) (i : Nat) (n : Int) (part : Nat) : ∃ s, 0 < s ∧ strictL (dec3 v ++ l) i n part 0 0 = strictL l (i + s) n part s (v : Int) := by
  unfold dec3
  by_cases h100 : 100 ≤ v
  · refine ⟨3, by decide, ?_⟩
    rw [if_pos h100, if_pos (by omega)]
    show strictL (dgt (v / 100) :: dgt (v / 10 % 10) :: dgt (v % 10) :: l) i n part 0 0 = _
    rw [strict_dig _ (by omega) _ _ _ _ _ _ (.inl rfl) (by omega), strict_dig _ (by omega) _ _ _ _ _ _ (.inr (by omega)) (by omega), strict_dig _ (by omega) _ _ _ _ _ _ (.inr (by omega)) (by omega)]
    rw [show 10 * (10 * (10 * (0 : Int) + ((v / 100 : Nat) : Int)) + ((v / 10 % 10 : Nat) : Int)) + ((v % 10 : Nat) : Int) = (v : Int) by omega]
  · by_cases h10 : 10 ≤ v
    · refine ⟨2, by decide, ?_⟩
      rw [if_neg h100, if_pos h10]
      show strictL (dgt (v / 10 % 10) :: dgt (v % 10) :: l) i n part 0 0 = _
      rw [strict_dig _ (by omega) _ _ _ _ _ _ (.inl rfl) (by omega), strict_dig _ (by omega) _ _ _ _ _ _ (.inr (by omega)) (by omega)]
      rw [show 10 * (10 * (0 : Int) + ((v / 10 % 10 : Nat) : Int)) + ((v % 10 : Nat) : Int) = (v : Int) by omega]
    · refine ⟨1, by decide, ?_⟩
      rw [if_neg h100, if_neg h10]
      show strictL (dgt (v % 10) :: l) i n part 0 0 = _
      rw [strict_dig _ (by omega) _ _ _ _ _ _ (.inl rfl) (by omega)]
      rw [show 10 * (0 : Int) + ((v % 10 : Nat) : Int) = (v : Int) by omega]
theorem strict_dot (l : List UInt8) (i : Nat) (n : Int) (part size : Nat) (X : Int) (hs : 0 < size) (hp : part < 3) : strictL (46 :: l) i n part size X = strictL l (i + 1) ((256 * n + X) % 4294967296) (part + 1) 0 0 := by
  rw [strictL, if_neg (fun h => absurd h.1 (by decide)), if_pos ⟨rfl, hs, hp⟩]
theorem print_strict (n : Int) (h0 : 0 ≤ n) (h1 : n ≤ 4294967295) : strictV (printV n) = (n, 0, 0) := by
  unfold strictV
  rw [printV_dec n h0 h1]
  obtain ⟨s0, p0, e0⟩ := strict_dec (n / 16777216).toNat (by omega) (46 :: (dec3 (n / 65536 % 256).toNat ++ 46 :: (dec3 (n / 256 % 256).toNat ++ 46 :: dec3 (n % 256).toNat))) 0 0 0
  rw [e0, strict_dot _ _ _ _ _ _ p0 (by decide)]
  obtain ⟨s1, p1, e1⟩ := strict_dec (n / 65536 % 256).toNat (by omega) (46 :: (dec3 (n / 256 % 256).toNat ++ 46 :: dec3 (n % 256).toNat)) (0 + s0 + 1) ((256 * 0 + ((n / 16777216).toNat : Int)) % 4294967296) (0 + 1)
  rw [e1, strict_dot _ _ _ _ _ _ p1 (by decide)]
  obtain ⟨s2, p2, e2⟩ := strict_dec (n / 256 % 256).toNat (by omega) (46 :: dec3 (n % 256).toNat) (0 + s0 + 1 + s1 + 1) ((256 * ((256 * 0 + ((n / 16777216).toNat : Int)) % 4294967296) + ((n / 65536 % 256).toNat : Int)) % 4294967296) (0 + 1 + 1)
  rw [e2, strict_dot _ _ _ _ _ _ p2 (by decide)]
  obtain ⟨s3, p3, e3⟩ := strict_dec (n % 256).toNat (by omega) [] (0 + s0 + 1 + s1 + 1 + s2 + 1) ((256 * ((256 * ((256 * 0 + ((n / 16777216).toNat : Int)) % 4294967296) + ((n / 65536 % 256).toNat : Int)) % 4294967296) + ((n / 256 % 256).toNat : Int)) % 4294967296) (0 + 1 + 1 + 1)
  rw [List.append_nil] at e3
  rw [e3, strictL, if_neg (by omega)]
  refine congrArg (fun x => (x, (0 : Int), (0 : Int))) ?_
  have k1 : (256 * 0 + ((n / 16777216).toNat : Int)) % 4294967296 = n / 16777216 := by omega
  have k2 : (256 * (n / 16777216) + ((n / 65536 % 256).toNat : Int)) % 4294967296 = n / 65536 := by omega
  have k3 : (256 * (n / 65536) + ((n / 256 % 256).toNat : Int)) % 4294967296 = n / 256 := by omega
  rw [k1, k2, k3]
  omega
theorem dec_no58 : ∀ v : Fin 256, ∀ c ∈ dec3 v.val, c ≠ 58 := by decide +kernel
theorem printV_no58 (n : Int) (h0 : 0 ≤ n) (h1 : n ≤ 4294967295) : (58 : UInt8) ∉ printV n := by
  rw [printV_dec n h0 h1]
  intro h
  simp only [List.mem_append, List.mem_cons] at h
  rcases h with h | h | h | h | h | h | h
  · exact dec_no58 ⟨(n / 16777216).toNat, by omega⟩ _ h rfl
  · exact absurd h (by decide)
  · exact dec_no58 ⟨(n / 65536 % 256).toNat, by omega⟩ _ h rfl
  · exact absurd h (by decide)
  · exact dec_no58 ⟨(n / 256 % 256).toNat, by omega⟩ _ h rfl
  · exact absurd h (by decide)
  · exact dec_no58 ⟨(n % 256).toNat, by omega⟩ _ h rfl
theorem printV_ne (n : Int) (h0 : 0 ≤ n) (h1 : n ≤ 4294967295) : printV n ≠ [] := by
  rw [printV_dec n h0 h1]
  simp
end Go.Proofs.YtcgdjnmfeibnoaaDoor
/-! Frame -/
namespace Go.Proofs.YtcgdjnmfeibnoaaDoor
open Go.RowKit Go.WideShapes Go.ChangeShapes Go.ChangeAt
set_option linter.unusedVariables false
set_option linter.unusedSimpArgs false
section
variable {H : Type} {enc : TypeId × Value → H} {P : Program}
theorem law_below {f : Func} {s : ChangeSpec} {apart fresh handsOn again : Bool} {W W' : World} {args : Array Value} {v : Value} {ds gs : List (DataW H)} {before pa pv : List MemPlace}
    (hW : DataW.Whole enc P f.params.toList s.vars apart W args.toList ds gs before)
    (hres : ∀ (b : Nat) (sp : Nat → Bool) (hd : Bool), DataW.TrodAll enc P W' b sp hd f.resultTypes.toList (v.resultList f.resultTypes.size) (s.fn H (ds ++ gs)).results [])
    (hargs : ∀ sp : Nat → Bool, (∀ p ∈ before, sp p.block = true) → DataW.TrodAll enc P W' 0 sp true f.params.toList args.toList (s.fn H (ds ++ gs)).args pa)
    (hvars : ∀ sp : Nat → Bool, (∀ p ∈ before, sp p.block = true) → DataW.TrodVars enc P W' sp s.vars (s.fn H (ds ++ gs)).vars pv)
    (hps : before = pa ++ pv) (hb : Below W.heap.size W W')
    (hok : ∀ (j : Nat) (t : TypeId) (r : Value), f.resultTypes[j]? = some t → (v.resultList f.resultTypes.size)[j]? = some r → Value.okWide P W' .any 0 t r) :
    s.post enc P f apart fresh handsOn again W args v W' := by
  have hlt : ∀ p ∈ before, p.block < W.heap.size := fun p hp => hW.lt p hp
  have hold : ∀ p ∈ before, (fun b => decide (b < W.heap.size)) p.block = true := fun p hp => by simpa using hlt p hp
  refine ⟨ds, gs, before, [], pa, pv, hW, hres _ _ _, hargs _ hold, hvars _ hold, World.keptBut_mono (fun p hp => ⟨hp, ?_⟩) (hb.frame (· ∈ before)), fun _ => ?_⟩
  · rw [hps, List.mem_append] at hp
    exact Or.inr hp
  · obtain ⟨_, _, _, _, _, hz, hn⟩ := hW
    refine ⟨hok, _, _, ([] ++ pa) ++ pv, ⟨[] ++ pa, pv, trodAll_append (hargs _ (fun _ _ => rfl)) (hres _ _ _), hvars _ (fun _ _ => rfl), rfl, ?_, ?_⟩, ?_⟩
    · intro b off hp
      have hin : MemPlace.cell b off ∈ before := by rw [hps]; simpa using hp
      rw [hb.frozen (hlt _ hin)]
      exact hz b off hin
    · intro ha
      have := hn ha
      rw [hps] at this
      simpa using this
    · intro p hp _
      rw [hps]
      simpa using hp
/-- All arguments read as they did, where all stays that was there. -/
theorem args_stay (hl : laidOutB P = true) {W W' : World} (hB : Below W.heap.size W W') {sp : Nat → Bool} :
    ∀ (ts : List TypeId) (vs : List Value) (ds : List (DataW H)) (ps : List MemPlace), (∀ t ∈ ts, P.readableRec t = true ∧ t < P.types.size) → DataW.TrodAll enc P W 0 (fun _ => true) true ts vs ds ps →
      (∀ p ∈ ps, p.block < W.heap.size) → (∀ p ∈ ps, sp p.block = true) → DataW.TrodAll enc P W' 0 sp true ts vs ds ps
  | [], vs, ds, ps, _, h, _, _ => by
    obtain ⟨rfl, rfl, rfl⟩ := trodAll_nil h
    exact trodAll_mk0
  | t :: ts, vs, ds, ps, hr, h, hlt, hs => by
    obtain ⟨v, vs1, d, ds1, a, b, rfl, rfl, rfl, h1, h2⟩ := trodAll_cons h
    have hlt' := hlt
    exact trodAll_cons_mk (WideElems.Trod_stays hl (hr t (by simp)).1 (hr t (by simp)).2 h1 (fun x hx => hB.same (hlt x (by simp [hx]))) (fun x hx => hs x (by simp [hx])))
      (args_stay hl hB ts vs1 ds1 b (fun t ht => hr t (by simp [ht])) h2 (fun p hp => hlt p (by simp [hp])) (fun p hp => hs p (by simp [hp])))
/-- THE STEP OF A LAW's ROW. -/
theorem law_post {f : Func} {s : ChangeSpec} {tb : TypeId} {W W' : World} {args : Array Value} {ds : List (DataW H)} {before : List MemPlace} (hv : s.vars = []) (hfn : s.fn H ds = { results := [.lit (.bool true)], args := ds })
    (hres : f.resultTypes = #[tb]) (hb : P.underlying tb = some .bool) (hl : laidOutB P = true) (hr : ∀ t ∈ f.params.toList, P.readableRec t = true ∧ t < P.types.size)
    (hW : DataW.Whole enc P f.params.toList s.vars false W args.toList ds [] before) (hB : Below W.heap.size W W') : s.post enc P f false true false false W args (.bool true) W' := by
  have hW' := hW
  obtain ⟨p, q, hA, hV, hpq, hfz, hnd⟩ := hW
  have hA : DataW.TrodAll enc P W 0 (fun _ => true) true f.params.toList args.toList ds p := hA
  rw [hv] at hV
  obtain ⟨_, rfl⟩ := trodVars_none hV
  have hlt : ∀ x ∈ before, x.block < W.heap.size := fun x hx => hW'.lt x hx
  subst hpq
  refine law_below (pa := p) (pv := []) hW' ?_ ?_ ?_ (by simp) hB ?_
  · intro b sp hd
    rw [List.append_nil, hfn, hres]
    exact trodAll_cons_mk (shut_bool hb true) trodAll_mk0
  · intro sp hs
    rw [List.append_nil, hfn]
    exact args_stay hl hB _ _ _ _ hr hA (fun x hx => hlt x (by simp [hx])) (fun x hx => hs x (by simp [hx]))
  · intro sp hs
    rw [List.append_nil, hfn, hv]
    rfl
  · exact ok_one hres rfl (okWide_bool_mk hb true)
end
end Go.Proofs.YtcgdjnmfeibnoaaDoor
/-! SixOpen -/
namespace Go.Proofs.YtcgdjnmfeibnoaaDoor
open Go.RowKit Go.WideShapes
set_option linter.unusedVariables false
set_option linter.unusedSimpArgs false
theorem six_cells : Tryd.prog.cellsOf 24 = 8 := by kernel_rfl
theorem six_types : Tryd.prog.cellTypes Tryd.prog.depth 24 = some (List.replicate 8 22) := by kernel_rfl
set_option maxRecDepth 100000 in
theorem u16_open {w : World} {base : Nat} {v : Value} (h : Cell.okWide Tryd.prog w .any base 22 v) : ∃ x : Int, v = .int .u16 x ∧ 0 ≤ x ∧ x ≤ 65535 := by
  unfold Cell.okWide at h
  rw [Tryd.underlying22] at h
  cases v <;> simp [Cell.ok, Tryd.underlying22] at h
  rename_i k n
  obtain ⟨rfl, h1, h2⟩ := h
  exact ⟨n, rfl, by simpa [IntKind.min, IntKind.signed] using h1, by simpa [IntKind.max, IntKind.signed, IntKind.bits] using h2⟩
set_option maxRecDepth 100000 in
theorem six_open {w : World} {base : Nat} {v : Value} (h : Value.okWide Tryd.prog w .any base 24 v) :
    ∃ x0 x1 x2 x3 x4 x5 x6 x7 : Int, v = A8 x0 x1 x2 x3 x4 x5 x6 x7 ∧ R8 x0 x1 x2 x3 x4 x5 x6 x7 := by
  unfold Value.okWide at h
  rw [Tryd.underlying24] at h
  obtain ⟨cs, rfl, hsz, ts, hts, _, hc⟩ := h
  rw [six_cells] at hsz
  rw [six_types] at hts
  obtain rfl := (Option.some.inj hts).symm
  have key : ∀ i, (hi : i < 8) → ∃ x : Int, cs[i]? = some (.int .u16 x) ∧ 0 ≤ x ∧ x ≤ 65535 := by
    intro i hi
    obtain ⟨u, hu, hok⟩ := hc i cs[i] (Array.getElem?_eq_getElem (by omega))
    obtain rfl : u = 22 := List.eq_of_mem_replicate (List.mem_of_getElem? hu)
    obtain ⟨x, hx, h0, h1⟩ := u16_open hok
    exact ⟨x, by rw [Array.getElem?_eq_getElem (by omega), hx], h0, h1⟩
  obtain ⟨x0, e0, a0, b0⟩ := key 0 (by omega)
  obtain ⟨x1, e1, a1, b1⟩ := key 1 (by omega)
  obtain ⟨x2, e2, a2, b2⟩ := key 2 (by omega)
  obtain ⟨x3, e3, a3, b3⟩ := key 3 (by omega)
  obtain ⟨x4, e4, a4, b4⟩ := key 4 (by omega)
  obtain ⟨x5, e5, a5, b5⟩ := key 5 (by omega)
  obtain ⟨x6, e6, a6, b6⟩ := key 6 (by omega)
  obtain ⟨x7, e7, a7, b7⟩ := key 7 (by omega)
  refine ⟨x0, x1, x2, x3, x4, x5, x6, x7, ?_, ⟨⟨a0, b0⟩, ⟨a1, b1⟩, ⟨a2, b2⟩, ⟨a3, b3⟩, ⟨a4, b4⟩, ⟨a5, b5⟩, ⟨a6, b6⟩, ⟨a7, b7⟩⟩⟩
  congr 1
  apply Array.ext_getElem?
  intro i
  match i with
  | 0 => rw [e0]; rfl
  | 1 => rw [e1]; rfl
  | 2 => rw [e2]; rfl
  | 3 => rw [e3]; rfl
  | 4 => rw [e4]; rfl
  | 5 => rw [e5]; rfl
  | 6 => rw [e6]; rfl
  | 7 => rw [e7]; rfl
  | i + 8 => rw [Array.getElem?_eq_none (by omega)]; rfl
end Go.Proofs.YtcgdjnmfeibnoaaDoor
/-! SixBackAll -/
namespace Go.Proofs.YtcgdjnmfeibnoaaDoor
open Go.RowKit Go.Proofs.YtcgdjnmfeibnoaaDoorW.PrintWords
set_option linter.unusedVariables false
theorem back_all (x0 x1 x2 x3 x4 x5 x6 x7 : Int) (h : R8 x0 x1 x2 x3 x4 x5 x6 x7) (w : World) (hG : GW w) (hI : GI w) :
    Calls Tryd.prog 9 #[A8 x0 x1 x2 x3 x4 x5 x6 x7] w fun e w' => e = .returned (.bool true) ∧ Below w.heap.size w w' := by
  obtain ⟨⟨a0, b0⟩, ⟨a1, b1⟩, ⟨a2, b2⟩, ⟨a3, b3⟩, ⟨a4, b4⟩, ⟨a5, b5⟩, ⟨a6, b6⟩, ⟨a7, b7⟩⟩ := h
  obtain ⟨n0, rfl⟩ := Int.eq_ofNat_of_zero_le a0
  obtain ⟨n1, rfl⟩ := Int.eq_ofNat_of_zero_le a1
  obtain ⟨n2, rfl⟩ := Int.eq_ofNat_of_zero_le a2
  obtain ⟨n3, rfl⟩ := Int.eq_ofNat_of_zero_le a3
  obtain ⟨n4, rfl⟩ := Int.eq_ofNat_of_zero_le a4
  obtain ⟨n5, rfl⟩ := Int.eq_ofNat_of_zero_le a5
  obtain ⟨n6, rfl⟩ := Int.eq_ofNat_of_zero_le a6
  obtain ⟨n7, rfl⟩ := Int.eq_ofNat_of_zero_le a7
  have e0 : (0 : Int) ≤ (n6 : Int) * 65536 + n7 := by omega
  have e1 : (n6 : Int) * 65536 + n7 ≤ 4294967295 := by omega
  exact back_walk n0 n1 n2 n3 n4 n5 n6 n7 (by omega) (by omega) (by omega) (by omega) (by omega) (by omega) (by omega) (by omega) (print_strict _ e0 e1) (printV_no58 _ e0 e1) (printV_ne _ e0 e1) w hG hI
end Go.Proofs.YtcgdjnmfeibnoaaDoor
/-! SixBackCard -/
namespace Go.Proofs.YtcgdjnmfeibnoaaDoor.fnSixBack
open Go.ChangeShapes Go.WideShapes Go.ChangeAt Go.RowKit Go.Proofs.YtcgdjnmfeibnoaaDoor
set_option linter.unusedVariables false
theorem own : ownKnob Tryd.prog.godebug = none := by kernel_rfl
theorem laidOut : laidOutB Tryd.prog = true := by kernel_rfl
theorem pow10_of {W : World} (hL : laidMetH Tryd.prog Rows.sixBackRow.laid W) : Lib.TabIs Tryd.prog W "internal/strconv.uint64pow10" .u64 Lib.pow10Tab := by
  have h1 := laidMetH.filter (fun x => x.1 == "internal/strconv.uint64pow10") hL
  rw [show Rows.sixBackRow.laid.filter (fun x => x.1 == "internal/strconv.uint64pow10") = [("internal/strconv.uint64pow10", Lib.tabData .u64 Lib.pow10Tab)] by kernel_rfl] at h1
  exact Lib.tabIs_of_head (g := 4) (n := 20) (rest := []) (by kernel_rfl) (by kernel_rfl) Tryd.underlying212 Tryd.underlying72 (by kernel_rfl) (by kernel_rfl) h1
theorem gw_of {W : World} (h : W.ShapedOpen Tryd.prog) (hL : laidMetH Tryd.prog Rows.sixBackRow.laid W) : GW W where
  maxLen := Tryd.laysM219.s1_3 W h
theorem gi_of {W : World} (hL : laidMetH Tryd.prog Rows.sixBackRow.laid W) : GI W where
  pow10 := pow10_of hL
set_option maxRecDepth 100000 in
theorem contract (H : Type) (enc : TypeId × Value → H) (W : World) (base : Nat) (args : Array Value) (ds gs : List (DataW H)) (before : List MemPlace)
    (hval : ∀ (j : Nat) t v, Tryd.f9.params[j]? = some t → args[j]? = some v → Value.okWide Tryd.prog W .any base t v)
    (hW : DataW.Whole enc Tryd.prog Tryd.f9.params.toList Rows.sixBackSpec.vars false W args.toList ds gs before) (hL : laidMetH Tryd.prog Rows.sixBackRow.laid W) (hsh : W.ShapedOpen Tryd.prog) :
    Calls Tryd.prog 9 args W fun e W' => ∃ v, e = .returned v ∧ Rows.sixBackSpec.post enc Tryd.prog Tryd.f9 false true false false W args v W' := by
  have hW' := hW
  obtain ⟨p, q, hA0, hV, rfl, hfz, hnd⟩ := hW
  have hA : DataW.TrodAll enc Tryd.prog W 0 (fun _ => true) true Tryd.f9.params.toList args.toList ds p := hA0
  rw [Tryd.params9] at hA hval
  obtain ⟨v0, vs0, d0, ds0, p0, q0, hargs, rfl, rfl, h0, r0⟩ := trodAll_cons hA
  obtain ⟨rfl, rfl, rfl⟩ := trodAll_nil r0
  obtain rfl : args = #[v0] := by cases args; simp_all
  obtain ⟨rfl, rfl⟩ := trodVars_none hV
  obtain ⟨x00, x01, x02, x03, x04, x05, x06, x07, rfl, r0⟩ := six_open (hval 0 24 v0 rfl rfl)
  clear hA0
  have hG := gw_of hsh hL
  have hI := gi_of hL
  refine (back_all x00 x01 x02 x03 x04 x05 x06 x07 r0 W hG hI).mono fun e W' ⟨he, hg⟩ => ?_
  subst he
  exact ⟨_, rfl, law_post (s := Rows.sixBackSpec) (f := Tryd.f9) rfl rfl (tb := 4) rfl Tryd.underlying4 laidOut (by rw [Tryd.params9]; intro t ht; simp at ht; subst ht; exact ⟨by kernel_rfl, of_decide_eq_true (by kernel_rfl)⟩) hW' hg⟩
def accepts : List Nat := [128, 191, 160, 191, 128, 159, 144, 191, 128, 143, 0, 0, 0, 0, 0, 0, 0, 0, 0, 0, 0, 0, 0, 0, 0, 0, 0, 0, 0, 0, 0, 0]
/-- A world for the witness: the settled one, the tables holding what their initialisers lay. -/
noncomputable def laidWorld (os : Os) : World := { World.holding Tryd.prog os ⟨#[], #[], []⟩ with heap := ((((((World.holding Tryd.prog os ⟨#[], #[], []⟩).heap.modify 3 fun | .cells _ t frozen => .cells (accepts.map fun (z : Nat) => Value.int .u8 z).toArray t frozen | o => o).modify 2 fun | .cells _ t frozen => .cells (Go.Pinned.utf8FirstZ.map fun (z : Nat) => Value.int .u8 z).toArray t frozen | o => o).modify 5 fun | .cells _ t frozen => .cells (([0, 1, 28, 2, 29, 14, 24, 3, 30, 22, 20, 15, 25, 17, 4, 8, 31, 27, 13, 23, 21, 19, 16, 7, 26, 12, 18, 6, 11, 5, 10, 9] : List Nat).map fun (z : Nat) => Value.int .u8 z).toArray t frozen | o => o).modify 0 fun | .cells _ t frozen => .cells ((Lib.deBruijn64tab : List Nat).map fun (z : Nat) => Value.int .u8 z).toArray t frozen | o => o).modify 4 fun | .cells _ t frozen => .cells (([1, 10, 100, 1000, 10000, 100000, 1000000, 10000000, 100000000, 1000000000, 10000000000, 100000000000, 1000000000000, 10000000000000, 100000000000000, 1000000000000000, 10000000000000000, 100000000000000000, 1000000000000000000, 10000000000000000000] : List Nat).map fun (z : Nat) => Value.int .u64 z).toArray t frozen | o => o) }
theorem laid_met (os : Os) : laidMet Tryd.prog Rows.sixBackRow.laid ((laidWorld os).forCall (fun _ _ => 0) ⟨#[], #[.agg #[.int .u16 0, .int .u16 0, .int .u16 0, .int .u16 0, .int .u16 0, .int .u16 0, .int .u16 0, .int .u16 0]], []⟩).memory :=
  laidMet_of_run' 8 (by kernel_rfl) (by kernel_rfl)
theorem reads (os : Os) {H : Type} (enc : TypeId × Value → H) : ∃ places, DataW.whole enc Tryd.prog ((laidWorld os).forCall (fun _ _ => 0) ⟨#[], #[.agg #[.int .u16 0, .int .u16 0, .int .u16 0, .int .u16 0, .int .u16 0, .int .u16 0, .int .u16 0, .int .u16 0]], []⟩).memory Tryd.f9.params.toList Rows.sixBackSpec.vars false (#[.agg #[.int .u16 0, .int .u16 0, .int .u16 0, .int .u16 0, .int .u16 0, .int .u16 0, .int .u16 0, .int .u16 0]] : Array Value).toList 8 = some ([.agg [.lit (.int .u16 0), .lit (.int .u16 0), .lit (.int .u16 0), .lit (.int .u16 0), .lit (.int .u16 0), .lit (.int .u16 0), .lit (.int .u16 0), .lit (.int .u16 0)]], [], places) :=
  ⟨[], by kernel_rfl⟩
set_option maxRecDepth 100000 in
theorem lifted (os : Os) (started : os.Started) (H : Type) (enc : TypeId × Value → H) (F : Stop.Interp) :
    ReturnsInHanded {} Tryd.checked os 9 .any ((OpenSpec.ofChange Rows.sixBackSpec).preRow enc Tryd.prog Tryd.f9 Rows.sixBackRow.domain false Rows.sixBackRow.laid) (((OpenSpec.ofChange Rows.sixBackSpec).at F).post enc Tryd.prog Tryd.f9 false true false false) := by
  obtain ⟨places, hx⟩ := reads os enc
  refine returnsInHanded_of_row (C := Tryd.checked) (s := OpenSpec.ofChange Rows.sixBackSpec) own started (by kernel_rfl) Tryd.func9
    (witness_row_at (enc := enc) (C := Tryd.checked) false (laidWorld os) #[.agg #[.int .u16 0, .int .u16 0, .int .u16 0, .int .u16 0, .int .u16 0, .int .u16 0, .int .u16 0, .int .u16 0]] rfl (by kernel_rfl) (by kernel_rfl) (by kernel_rfl)
      (OpenSpec.preRow_of_cond 8 hx (by kernel_rfl) (fun k hk => by cases hk) (by kernel_rfl) (laid_met os))) ?_
  intro W base args ds gs before hval hW _ _ _ hL hsh _
  exact contract H enc W base args ds gs before hval hW hL hsh
theorem said : Rows.SixBackSaid :=
  OpenClaim.holds_of_cond 9 Tryd.f9 rfl rfl rfl rfl rfl rfl rfl ⟨rfl, rfl, rfl, rfl, rfl⟩ rfl rfl rfl rfl rfl (by kernel_rfl) Tryd.func9 (by kernel_rfl)
    (of_decide_eq_true (by kernel_rfl)) (by unfold Func.isWrapper; first | (rw [if_pos (by decide +kernel)]; kernel_rfl) | (rw [if_neg (by decide +kernel)]; exact ⟨rfl, rfl⟩))
    (fun os started H enc _ F => by rw [OpenClaim.pre_eq_preRow]; exact lifted os started H enc F)
/-- No parameter wants a stand-in; the program's own looks are off. -/
theorem plain (f : FuncId) (fn : Func) (hf : Tryd.pinned.checked.prog.funcNamed "postern/posternlaw21.SixBack" = some f) (hfn : Tryd.pinned.checked.prog.funcs[f]? = some fn) :
    false = Tryd.pinned.checked.prog.looks [] ∧ ∀ (j : Nat) t, fn.params[j]? = some t → Tryd.pinned.checked.prog.wantsStandIn t = false := by
  obtain rfl : f = 9 := Option.some.inj ((show Tryd.prog.funcNamed "postern/posternlaw21.SixBack" = some 9 by kernel_rfl).symm.trans hf) |>.symm
  obtain rfl : fn = Tryd.f9 := (Option.some.inj (Tryd.func9.symm.trans hfn)).symm
  refine ⟨by kernel_rfl, fun j t ht => ?_⟩
  rw [Tryd.params9] at ht
  have hm := Array.mem_of_getElem? ht
  simp at hm
  subst hm
  exact (show Tryd.prog.wantsStandIn 24 = false by kernel_rfl)
theorem card : Rows.SixBackCardSaid :=
  Claim7.holds_tied_plain_at .later [] _ _ _ _ said (fun _ h => by cases h) (by kernel_rfl) (fun _ h => by cases h) sixBack_row_tie rfl ⟨rfl, rfl⟩ (by kernel_rfl) rfl plain (by kernel_rfl)
#print axioms card
end Go.Proofs.YtcgdjnmfeibnoaaDoor.fnSixBack
