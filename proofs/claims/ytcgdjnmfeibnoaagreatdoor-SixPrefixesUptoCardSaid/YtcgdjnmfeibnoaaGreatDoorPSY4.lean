/- Several texts in one (wip/gen/pack.py): SixPrefixes Frame SixOpen SixOpenL LaidErr SixPrefixesCard. -/
import Derived.Test.YtcgdjnmfeibnoaaGreatDoorPSY3
import Derived.OpenShut
import Derived.ProofKit
import Derived.Test.YtcgdjnmfeibnoaaGreatDoorPSY0
import Derived.Test.YtcgdjnmfeibnoaaGreatDoorRows
import Derived.LaidLaws
import Derived.LaidSub
import Derived.Lib.LaidTab
import Derived.MakeChecks
import Derived.ChangeMaps5
import Derived.Deep.DeepHandedRow
import Derived.Test.YtcgdjnmfeibnoaaGreatDoorCards
import Derived.Test.YtcgdjnmfeibnoaaGreatDoorTie
/-! SixPrefixes -/
namespace Go.Proofs.YtcgdjnmfeibnoaaGreatDoor
open Go.RowKit Go.Proofs.YtcgdjnmfeibnoaaGreatDoorW.PrintWords
set_option linter.unusedVariables false
set_option linter.unusedSimpArgs false
theorem rdz_of {W : World} {A : Option Addr} {x : Pz} {base : Nat} {e : TypeId} (h : W.ownsRow base e 9 (.slice A 1 1) 1 (zc x)) : RdZ W A [x] := by
  obtain ⟨A1, c1, e1, _, hR⟩ := rdz_own (l := [x]) (by simpa [zcs] using h) rfl
  have e1 : A = A1 := by injection e1
  rw [e1]
  exact hR
theorem rdz_one (w : World) (x : Pz) (e : TypeId) : RdZ (w.alloc (.cells (zc x).toArray e)) (some ⟨w.heap.size, 0, none⟩) [x] := rdz_of (own_one (B := 0) w x e (Nat.zero_le _))
theorem rdz_fst (w : World) (x : Pz) (e : TypeId) (o : Obj) : RdZ ((w.alloc (.cells (zc x).toArray e)).alloc o) (some ⟨w.heap.size, 0, none⟩) [x] :=
  (rdz_one w x e).keep ((Below.refl _ _).alloc (Nat.le_refl _) o)
theorem rdz_snd (w : World) (x : Pz) (e : TypeId) (o : Obj) : RdZ ((w.alloc o).alloc (.cells (zc x).toArray e)) (some ⟨w.heap.size + 1, 0, none⟩) [x] := by
  have h := rdz_one (w.alloc o) x e
  rwa [World.size_alloc] at h
set_option maxHeartbeats 16000000 in
set_option maxRecDepth 100000 in
theorem prefixes_walk (D : List UInt8) (hD : D.length ≤ 1048576) (x : Pz) (u : Int) (hw : Wide x.a) (w : World) (hG : GW w) (hI : GI w) (hE : GE w) :
    Calls Tryz.prog 3 #[.string (BA D), PV x.a x.n, AV u] w fun e w' => e = .returned (.bool true) ∧ Below w.heap.size w w' := by
  obtain ⟨q, pa, pb, hwq, hq⟩ := pfx_pz D (Lib.lastIndexByte (BA D) 47)
  have HPP := Lib.hid (fun w hG hI hE => parsePrefix_walk D hD w hG hI hE)
  have HRP := Lib.hid (fun w => refParsePrefix_walk D hD _ (last_spec D) w)
  rw [hq] at HPP HRP
  have HWQ := Lib.hid hwq
  have HWX := Lib.hid hw
  have HG := Lib.hid hG
  have HI := Lib.hid hI
  have HE := Lib.hid hE
  clear hq hwq hw hG hI hE
  have hp0 : ((w.alloc (.cells #[.int .u16 (pc 0 x.a), .int .u16 (pc 1 x.a), .int .u16 (pc 2 x.a), .int .u16 (pc 3 x.a), .int .u16 (pc 4 x.a), .int .u16 (pc 5 x.a), .int .u16 (pc 6 x.a), .int .u16 (pc 7 x.a), .int .i64 x.n] 26)).alloc (.cells #[.int .u16 (pc 0 u), .int .u16 (pc 1 u), .int .u16 (pc 2 u), .int .u16 (pc 3 u), .int .u16 (pc 4 u), .int .u16 (pc 5 u), .int .u16 (pc 6 u), .int .u16 (pc 7 u)] 24)).heap[w.heap.size]? = some (.cells #[.int .u16 (pc 0 x.a), .int .u16 (pc 1 x.a), .int .u16 (pc 2 x.a), .int .u16 (pc 3 x.a), .int .u16 (pc 4 x.a), .int .u16 (pc 5 x.a), .int .u16 (pc 6 x.a), .int .u16 (pc 7 x.a), .int .i64 x.n] 26 (0, 0)) := blk_alloc (blk_new _ _) _
  have ha0 : ((w.alloc (.cells #[.int .u16 (pc 0 x.a), .int .u16 (pc 1 x.a), .int .u16 (pc 2 x.a), .int .u16 (pc 3 x.a), .int .u16 (pc 4 x.a), .int .u16 (pc 5 x.a), .int .u16 (pc 6 x.a), .int .u16 (pc 7 x.a), .int .i64 x.n] 26)).alloc (.cells #[.int .u16 (pc 0 u), .int .u16 (pc 1 u), .int .u16 (pc 2 u), .int .u16 (pc 3 u), .int .u16 (pc 4 u), .int .u16 (pc 5 u), .int .u16 (pc 6 u), .int .u16 (pc 7 u)] 24)).heap[w.heap.size + 1]? = some (.cells #[.int .u16 (pc 0 u), .int .u16 (pc 1 u), .int .u16 (pc 2 u), .int .u16 (pc 3 u), .int .u16 (pc 4 u), .int .u16 (pc 5 u), .int .u16 (pc 6 u), .int .u16 (pc 7 u)] 24 (0, 0)) := by
    have := blk_new (w.alloc (.cells #[.int .u16 (pc 0 x.a), .int .u16 (pc 1 x.a), .int .u16 (pc 2 x.a), .int .u16 (pc 3 x.a), .int .u16 (pc 4 x.a), .int .u16 (pc 5 x.a), .int .u16 (pc 6 x.a), .int .u16 (pc 7 x.a), .int .i64 x.n] 26)) (.cells #[.int .u16 (pc 0 u), .int .u16 (pc 1 u), .int .u16 (pc 2 u), .int .u16 (pc 3 u), .int .u16 (pc 4 u), .int .u16 (pc 5 u), .int .u16 (pc 6 u), .int .u16 (pc 7 u)] 24)
    rwa [World.size_alloc] at this
  have hb0 : Below w.heap.size w ((w.alloc (.cells #[.int .u16 (pc 0 x.a), .int .u16 (pc 1 x.a), .int .u16 (pc 2 x.a), .int .u16 (pc 3 x.a), .int .u16 (pc 4 x.a), .int .u16 (pc 5 x.a), .int .u16 (pc 6 x.a), .int .u16 (pc 7 x.a), .int .i64 x.n] 26)).alloc (.cells #[.int .u16 (pc 0 u), .int .u16 (pc 1 u), .int .u16 (pc 2 u), .int .u16 (pc 3 u), .int .u16 (pc 4 u), .int .u16 (pc 5 u), .int .u16 (pc 6 u), .int .u16 (pc 7 u)] 24)) := ((Below.refl _ _).alloc (Nat.le_refl _) _).alloc (by rw [World.size_alloc]; omega) _
  go_enter Tryz.func3, Tryz.ntmps3
  go_upto_region 1 with fail
  generalize ((w.alloc (.cells #[.int .u16 (pc 0 x.a), .int .u16 (pc 1 x.a), .int .u16 (pc 2 x.a), .int .u16 (pc 3 x.a), .int .u16 (pc 4 x.a), .int .u16 (pc 5 x.a), .int .u16 (pc 6 x.a), .int .u16 (pc 7 x.a), .int .i64 x.n] 26)).alloc (.cells #[.int .u16 (pc 0 u), .int .u16 (pc 1 u), .int .u16 (pc 2 u), .int .u16 (pc 3 u), .int .u16 (pc 4 u), .int .u16 (pc 5 u), .int .u16 (pc 6 u), .int .u16 (pc 7 u)] 24)) = W0 at *
  have HP0 := Lib.hid hp0
  have HA0 := Lib.hid ha0
  have HB0 := Lib.hid hb0
  clear hp0 ha0 hb0
  go_wp2_with fail
  refine (HPP.out _ (HG.out.keep HB0.out) (HI.out.keep HB0.out) (HE.out.keep HB0.out)).mono ?_
  rintro e w1 ⟨rfl, hv1⟩
  have hB1 := (below_step HB0.out hv1).alloc (below_step HB0.out hv1).size (.cells #[.int .u16 (pc 0 q.a), .int .u16 (pc 1 q.a), .int .u16 (pc 2 q.a), .int .u16 (pc 3 q.a), .int .u16 (pc 4 q.a), .int .u16 (pc 5 q.a), .int .u16 (pc 6 q.a), .int .u16 (pc 7 q.a), .int .i64 q.n] 26)
  have h7 : (w1.alloc (.cells #[.int .u16 (pc 0 q.a), .int .u16 (pc 1 q.a), .int .u16 (pc 2 q.a), .int .u16 (pc 3 q.a), .int .u16 (pc 4 q.a), .int .u16 (pc 5 q.a), .int .u16 (pc 6 q.a), .int .u16 (pc 7 q.a), .int .i64 q.n] 26)).heap[w1.heap.size]? = some (.cells #[.int .u16 (pc 0 q.a), .int .u16 (pc 1 q.a), .int .u16 (pc 2 q.a), .int .u16 (pc 3 q.a), .int .u16 (pc 4 q.a), .int .u16 (pc 5 q.a), .int .u16 (pc 6 q.a), .int .u16 (pc 7 q.a), .int .i64 q.n] 26 (0, 0)) := blk_new _ _
  have hp1 := blk_alloc (blk_below HP0.out hv1) (.cells #[.int .u16 (pc 0 q.a), .int .u16 (pc 1 q.a), .int .u16 (pc 2 q.a), .int .u16 (pc 3 q.a), .int .u16 (pc 4 q.a), .int .u16 (pc 5 q.a), .int .u16 (pc 6 q.a), .int .u16 (pc 7 q.a), .int .i64 q.n] 26)
  have ha1 := blk_alloc (blk_below HA0.out hv1) (.cells #[.int .u16 (pc 0 q.a), .int .u16 (pc 1 q.a), .int .u16 (pc 2 q.a), .int .u16 (pc 3 q.a), .int .u16 (pc 4 q.a), .int .u16 (pc 5 q.a), .int .u16 (pc 6 q.a), .int .u16 (pc 7 q.a), .int .i64 q.n] 26)
  go_upto_region 2 with fail
  generalize w1.heap.size = b7 at *
  generalize w1.alloc (.cells #[.int .u16 (pc 0 q.a), .int .u16 (pc 1 q.a), .int .u16 (pc 2 q.a), .int .u16 (pc 3 q.a), .int .u16 (pc 4 q.a), .int .u16 (pc 5 q.a), .int .u16 (pc 6 q.a), .int .u16 (pc 7 q.a), .int .i64 q.n] 26) = W1 at *
  have HP1 := Lib.hid hp1
  have HA1 := Lib.hid ha1
  have HB1 := Lib.hid hB1
  have H7 := Lib.hid h7
  clear hp1 ha1 hB1 h7 hv1 HP0 HA0 HB0
  go_wp2_with fail
  refine (HRP.out _).mono ?_
  rintro e w2 ⟨rfl, hv2⟩
  have hB2 := (below_step HB1.out hv2).alloc (below_step HB1.out hv2).size (.cells #[.int .u16 (pc 0 q.a), .int .u16 (pc 1 q.a), .int .u16 (pc 2 q.a), .int .u16 (pc 3 q.a), .int .u16 (pc 4 q.a), .int .u16 (pc 5 q.a), .int .u16 (pc 6 q.a), .int .u16 (pc 7 q.a), .int .i64 q.n] 32)
  have h10 : (w2.alloc (.cells #[.int .u16 (pc 0 q.a), .int .u16 (pc 1 q.a), .int .u16 (pc 2 q.a), .int .u16 (pc 3 q.a), .int .u16 (pc 4 q.a), .int .u16 (pc 5 q.a), .int .u16 (pc 6 q.a), .int .u16 (pc 7 q.a), .int .i64 q.n] 32)).heap[w2.heap.size]? = some (.cells #[.int .u16 (pc 0 q.a), .int .u16 (pc 1 q.a), .int .u16 (pc 2 q.a), .int .u16 (pc 3 q.a), .int .u16 (pc 4 q.a), .int .u16 (pc 5 q.a), .int .u16 (pc 6 q.a), .int .u16 (pc 7 q.a), .int .i64 q.n] 32 (0, 0)) := blk_new _ _
  have h7 := blk_alloc (blk_below H7.out hv2) (.cells #[.int .u16 (pc 0 q.a), .int .u16 (pc 1 q.a), .int .u16 (pc 2 q.a), .int .u16 (pc 3 q.a), .int .u16 (pc 4 q.a), .int .u16 (pc 5 q.a), .int .u16 (pc 6 q.a), .int .u16 (pc 7 q.a), .int .i64 q.n] 32)
  have hp2 := blk_alloc (blk_below HP1.out hv2) (.cells #[.int .u16 (pc 0 q.a), .int .u16 (pc 1 q.a), .int .u16 (pc 2 q.a), .int .u16 (pc 3 q.a), .int .u16 (pc 4 q.a), .int .u16 (pc 5 q.a), .int .u16 (pc 6 q.a), .int .u16 (pc 7 q.a), .int .i64 q.n] 32)
  have ha2 := blk_alloc (blk_below HA1.out hv2) (.cells #[.int .u16 (pc 0 q.a), .int .u16 (pc 1 q.a), .int .u16 (pc 2 q.a), .int .u16 (pc 3 q.a), .int .u16 (pc 4 q.a), .int .u16 (pc 5 q.a), .int .u16 (pc 6 q.a), .int .u16 (pc 7 q.a), .int .i64 q.n] 32)
  go_upto_region 3 with fail
  generalize w2.heap.size = b10 at *
  generalize w2.alloc (.cells #[.int .u16 (pc 0 q.a), .int .u16 (pc 1 q.a), .int .u16 (pc 2 q.a), .int .u16 (pc 3 q.a), .int .u16 (pc 4 q.a), .int .u16 (pc 5 q.a), .int .u16 (pc 6 q.a), .int .u16 (pc 7 q.a), .int .i64 q.n] 32) = W2 at *
  have HP2 := Lib.hid hp2
  have HA2 := Lib.hid ha2
  have HB2 := Lib.hid hB2
  have H72 := Lib.hid h7
  have H10 := Lib.hid h10
  clear hp2 ha2 hB2 h7 h10 hv2 HP1 HA1 HB1 H7
  have c0 := (blk_cell HP2.out 0).trans (show _ = some (Value.int .u16 (pc 0 x.a)) from rfl)
  have c1 := (blk_cell HP2.out 1).trans (show _ = some (Value.int .u16 (pc 1 x.a)) from rfl)
  have c2 := (blk_cell HP2.out 2).trans (show _ = some (Value.int .u16 (pc 2 x.a)) from rfl)
  have c3 := (blk_cell HP2.out 3).trans (show _ = some (Value.int .u16 (pc 3 x.a)) from rfl)
  have c4 := (blk_cell HP2.out 4).trans (show _ = some (Value.int .u16 (pc 4 x.a)) from rfl)
  have c5 := (blk_cell HP2.out 5).trans (show _ = some (Value.int .u16 (pc 5 x.a)) from rfl)
  have c6 := (blk_cell HP2.out 6).trans (show _ = some (Value.int .u16 (pc 6 x.a)) from rfl)
  have c7 := (blk_cell HP2.out 7).trans (show _ = some (Value.int .u16 (pc 7 x.a)) from rfl)
  have c8 := (blk_cell HP2.out 8).trans (show _ = some (Value.int .i64 x.n) from rfl)
  have cl := blk_lt HP2.out
  by_cases hz : isZ x = true
  · have HPX := Lib.hid (print_good hz)
    have HBD := Lib.hid (bounds_walk hz HWX.out)
    have HZ := Lib.hid hz
    clear hz
    go_wp2_with fail
    refine (HPX.out _ (HI.out.keep HB2.out)).mono ?_
    rintro e w3 ⟨rfl, hv3⟩
    have HB3 := Lib.hid (below_step HB2.out hv3)
    have HP3 := Lib.hid (blk_below HP2.out hv3)
    have HA3 := Lib.hid (blk_below HA2.out hv3)
    have H73 := Lib.hid (blk_below H72.out hv3)
    have H103 := Lib.hid (blk_below H10.out hv3)
    clear c0 c1 c2 c3 c4 c5 c6 c7 c8 cl hv3 HP2 HA2 HB2 H72 H10
    have c0 := (blk_cell HP3.out 0).trans (show _ = some (Value.int .u16 (pc 0 x.a)) from rfl)
    have c1 := (blk_cell HP3.out 1).trans (show _ = some (Value.int .u16 (pc 1 x.a)) from rfl)
    have c2 := (blk_cell HP3.out 2).trans (show _ = some (Value.int .u16 (pc 2 x.a)) from rfl)
    have c3 := (blk_cell HP3.out 3).trans (show _ = some (Value.int .u16 (pc 3 x.a)) from rfl)
    have c4 := (blk_cell HP3.out 4).trans (show _ = some (Value.int .u16 (pc 4 x.a)) from rfl)
    have c5 := (blk_cell HP3.out 5).trans (show _ = some (Value.int .u16 (pc 5 x.a)) from rfl)
    have c6 := (blk_cell HP3.out 6).trans (show _ = some (Value.int .u16 (pc 6 x.a)) from rfl)
    have c7 := (blk_cell HP3.out 7).trans (show _ = some (Value.int .u16 (pc 7 x.a)) from rfl)
    have c8 := (blk_cell HP3.out 8).trans (show _ = some (Value.int .i64 x.n) from rfl)
    have cl := blk_lt HP3.out
    go_wp2_with fail
    refine (HBD.out _).mono ?_
    rintro e w4 ⟨rfl, hv4⟩
    have hB4 : Below w.heap.size w ((w4.alloc (.cells #[.int .u16 (pc 0 x.a), .int .u16 (pc 1 x.a), .int .u16 (pc 2 x.a), .int .u16 (pc 3 x.a), .int .u16 (pc 4 x.a), .int .u16 (pc 5 x.a), .int .u16 (pc 6 x.a), .int .u16 (pc 7 x.a)] 24)).alloc (.cells #[.int .u16 (pc 0 (rngZ x).2), .int .u16 (pc 1 (rngZ x).2), .int .u16 (pc 2 (rngZ x).2), .int .u16 (pc 3 (rngZ x).2), .int .u16 (pc 4 (rngZ x).2), .int .u16 (pc 5 (rngZ x).2), .int .u16 (pc 6 (rngZ x).2), .int .u16 (pc 7 (rngZ x).2)] 24)) := ((below_step HB3.out hv4).alloc (below_step HB3.out hv4).size _).alloc (by have := (below_step HB3.out hv4).size; rw [World.size_alloc]; omega) _
    have hp4 := blk_alloc (blk_alloc (blk_below HP3.out hv4) (.cells #[.int .u16 (pc 0 x.a), .int .u16 (pc 1 x.a), .int .u16 (pc 2 x.a), .int .u16 (pc 3 x.a), .int .u16 (pc 4 x.a), .int .u16 (pc 5 x.a), .int .u16 (pc 6 x.a), .int .u16 (pc 7 x.a)] 24)) (.cells #[.int .u16 (pc 0 (rngZ x).2), .int .u16 (pc 1 (rngZ x).2), .int .u16 (pc 2 (rngZ x).2), .int .u16 (pc 3 (rngZ x).2), .int .u16 (pc 4 (rngZ x).2), .int .u16 (pc 5 (rngZ x).2), .int .u16 (pc 6 (rngZ x).2), .int .u16 (pc 7 (rngZ x).2)] 24)
    have ha4 := blk_alloc (blk_alloc (blk_below HA3.out hv4) (.cells #[.int .u16 (pc 0 x.a), .int .u16 (pc 1 x.a), .int .u16 (pc 2 x.a), .int .u16 (pc 3 x.a), .int .u16 (pc 4 x.a), .int .u16 (pc 5 x.a), .int .u16 (pc 6 x.a), .int .u16 (pc 7 x.a)] 24)) (.cells #[.int .u16 (pc 0 (rngZ x).2), .int .u16 (pc 1 (rngZ x).2), .int .u16 (pc 2 (rngZ x).2), .int .u16 (pc 3 (rngZ x).2), .int .u16 (pc 4 (rngZ x).2), .int .u16 (pc 5 (rngZ x).2), .int .u16 (pc 6 (rngZ x).2), .int .u16 (pc 7 (rngZ x).2)] 24)
    have h74 := blk_alloc (blk_alloc (blk_below H73.out hv4) (.cells #[.int .u16 (pc 0 x.a), .int .u16 (pc 1 x.a), .int .u16 (pc 2 x.a), .int .u16 (pc 3 x.a), .int .u16 (pc 4 x.a), .int .u16 (pc 5 x.a), .int .u16 (pc 6 x.a), .int .u16 (pc 7 x.a)] 24)) (.cells #[.int .u16 (pc 0 (rngZ x).2), .int .u16 (pc 1 (rngZ x).2), .int .u16 (pc 2 (rngZ x).2), .int .u16 (pc 3 (rngZ x).2), .int .u16 (pc 4 (rngZ x).2), .int .u16 (pc 5 (rngZ x).2), .int .u16 (pc 6 (rngZ x).2), .int .u16 (pc 7 (rngZ x).2)] 24)
    have h104 := blk_alloc (blk_alloc (blk_below H103.out hv4) (.cells #[.int .u16 (pc 0 x.a), .int .u16 (pc 1 x.a), .int .u16 (pc 2 x.a), .int .u16 (pc 3 x.a), .int .u16 (pc 4 x.a), .int .u16 (pc 5 x.a), .int .u16 (pc 6 x.a), .int .u16 (pc 7 x.a)] 24)) (.cells #[.int .u16 (pc 0 (rngZ x).2), .int .u16 (pc 1 (rngZ x).2), .int .u16 (pc 2 (rngZ x).2), .int .u16 (pc 3 (rngZ x).2), .int .u16 (pc 4 (rngZ x).2), .int .u16 (pc 5 (rngZ x).2), .int .u16 (pc 6 (rngZ x).2), .int .u16 (pc 7 (rngZ x).2)] 24)
    have h15 : ((w4.alloc (.cells #[.int .u16 (pc 0 x.a), .int .u16 (pc 1 x.a), .int .u16 (pc 2 x.a), .int .u16 (pc 3 x.a), .int .u16 (pc 4 x.a), .int .u16 (pc 5 x.a), .int .u16 (pc 6 x.a), .int .u16 (pc 7 x.a)] 24)).alloc (.cells #[.int .u16 (pc 0 (rngZ x).2), .int .u16 (pc 1 (rngZ x).2), .int .u16 (pc 2 (rngZ x).2), .int .u16 (pc 3 (rngZ x).2), .int .u16 (pc 4 (rngZ x).2), .int .u16 (pc 5 (rngZ x).2), .int .u16 (pc 6 (rngZ x).2), .int .u16 (pc 7 (rngZ x).2)] 24)).heap[w4.heap.size]? = some (.cells #[.int .u16 (pc 0 x.a), .int .u16 (pc 1 x.a), .int .u16 (pc 2 x.a), .int .u16 (pc 3 x.a), .int .u16 (pc 4 x.a), .int .u16 (pc 5 x.a), .int .u16 (pc 6 x.a), .int .u16 (pc 7 x.a)] 24 (0, 0)) := blk_alloc (blk_new _ _) _
    have h16 : ((w4.alloc (.cells #[.int .u16 (pc 0 x.a), .int .u16 (pc 1 x.a), .int .u16 (pc 2 x.a), .int .u16 (pc 3 x.a), .int .u16 (pc 4 x.a), .int .u16 (pc 5 x.a), .int .u16 (pc 6 x.a), .int .u16 (pc 7 x.a)] 24)).alloc (.cells #[.int .u16 (pc 0 (rngZ x).2), .int .u16 (pc 1 (rngZ x).2), .int .u16 (pc 2 (rngZ x).2), .int .u16 (pc 3 (rngZ x).2), .int .u16 (pc 4 (rngZ x).2), .int .u16 (pc 5 (rngZ x).2), .int .u16 (pc 6 (rngZ x).2), .int .u16 (pc 7 (rngZ x).2)] 24)).heap[w4.heap.size + 1]? = some (.cells #[.int .u16 (pc 0 (rngZ x).2), .int .u16 (pc 1 (rngZ x).2), .int .u16 (pc 2 (rngZ x).2), .int .u16 (pc 3 (rngZ x).2), .int .u16 (pc 4 (rngZ x).2), .int .u16 (pc 5 (rngZ x).2), .int .u16 (pc 6 (rngZ x).2), .int .u16 (pc 7 (rngZ x).2)] 24 (0, 0)) := by
      have := blk_new (w4.alloc (.cells #[.int .u16 (pc 0 x.a), .int .u16 (pc 1 x.a), .int .u16 (pc 2 x.a), .int .u16 (pc 3 x.a), .int .u16 (pc 4 x.a), .int .u16 (pc 5 x.a), .int .u16 (pc 6 x.a), .int .u16 (pc 7 x.a)] 24)) (.cells #[.int .u16 (pc 0 (rngZ x).2), .int .u16 (pc 1 (rngZ x).2), .int .u16 (pc 2 (rngZ x).2), .int .u16 (pc 3 (rngZ x).2), .int .u16 (pc 4 (rngZ x).2), .int .u16 (pc 5 (rngZ x).2), .int .u16 (pc 6 (rngZ x).2), .int .u16 (pc 7 (rngZ x).2)] 24)
      rwa [World.size_alloc] at this
    go_upto_region 5 with fail
    generalize w4.heap.size = b15 at *
    generalize ((w4.alloc (.cells #[.int .u16 (pc 0 x.a), .int .u16 (pc 1 x.a), .int .u16 (pc 2 x.a), .int .u16 (pc 3 x.a), .int .u16 (pc 4 x.a), .int .u16 (pc 5 x.a), .int .u16 (pc 6 x.a), .int .u16 (pc 7 x.a)] 24)).alloc (.cells #[.int .u16 (pc 0 (rngZ x).2), .int .u16 (pc 1 (rngZ x).2), .int .u16 (pc 2 (rngZ x).2), .int .u16 (pc 3 (rngZ x).2), .int .u16 (pc 4 (rngZ x).2), .int .u16 (pc 5 (rngZ x).2), .int .u16 (pc 6 (rngZ x).2), .int .u16 (pc 7 (rngZ x).2)] 24)) = W4 at *
    have HP4 := Lib.hid hp4
    have HA4 := Lib.hid ha4
    have H74 := Lib.hid h74
    have H104 := Lib.hid h104
    have HB4 := Lib.hid hB4
    have H15 := Lib.hid h15
    have H16 := Lib.hid h16
    clear c0 c1 c2 c3 c4 c5 c6 c7 c8 cl hp4 ha4 h74 h104 hB4 h15 h16 hv4 HP3 HA3 HB3 H73 H103
    have c0 := (blk_cell HP4.out 0).trans (show _ = some (Value.int .u16 (pc 0 x.a)) from rfl)
    have c1 := (blk_cell HP4.out 1).trans (show _ = some (Value.int .u16 (pc 1 x.a)) from rfl)
    have c2 := (blk_cell HP4.out 2).trans (show _ = some (Value.int .u16 (pc 2 x.a)) from rfl)
    have c3 := (blk_cell HP4.out 3).trans (show _ = some (Value.int .u16 (pc 3 x.a)) from rfl)
    have c4 := (blk_cell HP4.out 4).trans (show _ = some (Value.int .u16 (pc 4 x.a)) from rfl)
    have c5 := (blk_cell HP4.out 5).trans (show _ = some (Value.int .u16 (pc 5 x.a)) from rfl)
    have c6 := (blk_cell HP4.out 6).trans (show _ = some (Value.int .u16 (pc 6 x.a)) from rfl)
    have c7 := (blk_cell HP4.out 7).trans (show _ = some (Value.int .u16 (pc 7 x.a)) from rfl)
    have c8 := (blk_cell HP4.out 8).trans (show _ = some (Value.int .i64 x.n) from rfl)
    have cl := blk_lt HP4.out
    have HGV := Lib.hid (fun (W : World) (g : Nat) (hr : RdZ W (some ⟨g, 0, none⟩) [x]) => given_walk [x] (some ⟨g, 0, none⟩) 1 W (by simp) hr)
    have h1 := own_one (B := 0) W4 x 26 (Nat.zero_le _)
    obtain ⟨A1, c1', e1, _, hR1⟩ := rdz_own (l := [x]) (by simpa [zcs] using h1) rfl
    have e1 : (some ⟨W4.heap.size, 0, none⟩ : Option Addr) = A1 := by injection e1
    subst e1
    have HR1 := Lib.hid hR1
    have HB5 := Lib.hid (HB4.out.alloc HB4.out.size (.cells #[.int .u16 (pc 0 x.a), .int .u16 (pc 1 x.a), .int .u16 (pc 2 x.a), .int .u16 (pc 3 x.a), .int .u16 (pc 4 x.a), .int .u16 (pc 5 x.a), .int .u16 (pc 6 x.a), .int .u16 (pc 7 x.a), .int .i64 x.n] 26))
    clear h1 hR1
    go_wp2_with fail
    refine (HGV.out _ _ HR1.out).mono ?_
    rintro e w5 ⟨uu, rfl, hown5, hv5⟩
    obtain ⟨A6, k6, rfl, _, hR6⟩ := rdz_own hown5 rfl
    obtain ⟨g6, o6, rfl, hg6, hc6⟩ := hR6 0 x rfl
    have HB6 := Lib.hid (below_step HB5.out hv5)
    have d0 := (hc6 0 (by decide)).trans (show (zc x)[0]? = some (.int .u16 (pc 0 x.a)) from rfl)
    have d1 := (hc6 1 (by decide)).trans (show (zc x)[1]? = some (.int .u16 (pc 1 x.a)) from rfl)
    have d2 := (hc6 2 (by decide)).trans (show (zc x)[2]? = some (.int .u16 (pc 2 x.a)) from rfl)
    have d3 := (hc6 3 (by decide)).trans (show (zc x)[3]? = some (.int .u16 (pc 3 x.a)) from rfl)
    have d4 := (hc6 4 (by decide)).trans (show (zc x)[4]? = some (.int .u16 (pc 4 x.a)) from rfl)
    have d5 := (hc6 5 (by decide)).trans (show (zc x)[5]? = some (.int .u16 (pc 5 x.a)) from rfl)
    have d6 := (hc6 6 (by decide)).trans (show (zc x)[6]? = some (.int .u16 (pc 6 x.a)) from rfl)
    have d7 := (hc6 7 (by decide)).trans (show (zc x)[7]? = some (.int .u16 (pc 7 x.a)) from rfl)
    have d8 := (hc6 8 (by decide)).trans (show (zc x)[8]? = some (.int .i64 x.n) from rfl)
    simp only [Nat.zero_mul, Nat.zero_add, Nat.add_zero] at d0 d1 d2 d3 d4 d5 d6 d7 d8
    have hp7 := blk_alloc (blk_below (blk_alloc HP4.out (.cells #[.int .u16 (pc 0 x.a), .int .u16 (pc 1 x.a), .int .u16 (pc 2 x.a), .int .u16 (pc 3 x.a), .int .u16 (pc 4 x.a), .int .u16 (pc 5 x.a), .int .u16 (pc 6 x.a), .int .u16 (pc 7 x.a), .int .i64 x.n] 26)) hv5) (.cells #[.int .u16 (pc 0 x.a), .int .u16 (pc 1 x.a), .int .u16 (pc 2 x.a), .int .u16 (pc 3 x.a), .int .u16 (pc 4 x.a), .int .u16 (pc 5 x.a), .int .u16 (pc 6 x.a), .int .u16 (pc 7 x.a), .int .i64 x.n] 32)
    have ha7 := blk_alloc (blk_below (blk_alloc HA4.out (.cells #[.int .u16 (pc 0 x.a), .int .u16 (pc 1 x.a), .int .u16 (pc 2 x.a), .int .u16 (pc 3 x.a), .int .u16 (pc 4 x.a), .int .u16 (pc 5 x.a), .int .u16 (pc 6 x.a), .int .u16 (pc 7 x.a), .int .i64 x.n] 26)) hv5) (.cells #[.int .u16 (pc 0 x.a), .int .u16 (pc 1 x.a), .int .u16 (pc 2 x.a), .int .u16 (pc 3 x.a), .int .u16 (pc 4 x.a), .int .u16 (pc 5 x.a), .int .u16 (pc 6 x.a), .int .u16 (pc 7 x.a), .int .i64 x.n] 32)
    have h77 := blk_alloc (blk_below (blk_alloc H74.out (.cells #[.int .u16 (pc 0 x.a), .int .u16 (pc 1 x.a), .int .u16 (pc 2 x.a), .int .u16 (pc 3 x.a), .int .u16 (pc 4 x.a), .int .u16 (pc 5 x.a), .int .u16 (pc 6 x.a), .int .u16 (pc 7 x.a), .int .i64 x.n] 26)) hv5) (.cells #[.int .u16 (pc 0 x.a), .int .u16 (pc 1 x.a), .int .u16 (pc 2 x.a), .int .u16 (pc 3 x.a), .int .u16 (pc 4 x.a), .int .u16 (pc 5 x.a), .int .u16 (pc 6 x.a), .int .u16 (pc 7 x.a), .int .i64 x.n] 32)
    have h107 := blk_alloc (blk_below (blk_alloc H104.out (.cells #[.int .u16 (pc 0 x.a), .int .u16 (pc 1 x.a), .int .u16 (pc 2 x.a), .int .u16 (pc 3 x.a), .int .u16 (pc 4 x.a), .int .u16 (pc 5 x.a), .int .u16 (pc 6 x.a), .int .u16 (pc 7 x.a), .int .i64 x.n] 26)) hv5) (.cells #[.int .u16 (pc 0 x.a), .int .u16 (pc 1 x.a), .int .u16 (pc 2 x.a), .int .u16 (pc 3 x.a), .int .u16 (pc 4 x.a), .int .u16 (pc 5 x.a), .int .u16 (pc 6 x.a), .int .u16 (pc 7 x.a), .int .i64 x.n] 32)
    have h157 := blk_alloc (blk_below (blk_alloc H15.out (.cells #[.int .u16 (pc 0 x.a), .int .u16 (pc 1 x.a), .int .u16 (pc 2 x.a), .int .u16 (pc 3 x.a), .int .u16 (pc 4 x.a), .int .u16 (pc 5 x.a), .int .u16 (pc 6 x.a), .int .u16 (pc 7 x.a), .int .i64 x.n] 26)) hv5) (.cells #[.int .u16 (pc 0 x.a), .int .u16 (pc 1 x.a), .int .u16 (pc 2 x.a), .int .u16 (pc 3 x.a), .int .u16 (pc 4 x.a), .int .u16 (pc 5 x.a), .int .u16 (pc 6 x.a), .int .u16 (pc 7 x.a), .int .i64 x.n] 32)
    have h167 := blk_alloc (blk_below (blk_alloc H16.out (.cells #[.int .u16 (pc 0 x.a), .int .u16 (pc 1 x.a), .int .u16 (pc 2 x.a), .int .u16 (pc 3 x.a), .int .u16 (pc 4 x.a), .int .u16 (pc 5 x.a), .int .u16 (pc 6 x.a), .int .u16 (pc 7 x.a), .int .i64 x.n] 26)) hv5) (.cells #[.int .u16 (pc 0 x.a), .int .u16 (pc 1 x.a), .int .u16 (pc 2 x.a), .int .u16 (pc 3 x.a), .int .u16 (pc 4 x.a), .int .u16 (pc 5 x.a), .int .u16 (pc 6 x.a), .int .u16 (pc 7 x.a), .int .i64 x.n] 32)
    have hB7 := HB6.out.alloc HB6.out.size (.cells #[.int .u16 (pc 0 x.a), .int .u16 (pc 1 x.a), .int .u16 (pc 2 x.a), .int .u16 (pc 3 x.a), .int .u16 (pc 4 x.a), .int .u16 (pc 5 x.a), .int .u16 (pc 6 x.a), .int .u16 (pc 7 x.a), .int .i64 x.n] 32)
    have h18 : (w5.alloc (.cells #[.int .u16 (pc 0 x.a), .int .u16 (pc 1 x.a), .int .u16 (pc 2 x.a), .int .u16 (pc 3 x.a), .int .u16 (pc 4 x.a), .int .u16 (pc 5 x.a), .int .u16 (pc 6 x.a), .int .u16 (pc 7 x.a), .int .i64 x.n] 32)).heap[w5.heap.size]? = some (.cells #[.int .u16 (pc 0 x.a), .int .u16 (pc 1 x.a), .int .u16 (pc 2 x.a), .int .u16 (pc 3 x.a), .int .u16 (pc 4 x.a), .int .u16 (pc 5 x.a), .int .u16 (pc 6 x.a), .int .u16 (pc 7 x.a), .int .i64 x.n] 32 (0, 0)) := blk_new _ _
    clear c0 c1 c2 c3 c4 c5 c6 c7 c8 cl hown5 hv5 hR6 hc6
    go_upto_region 6 with fail
    generalize w5.heap.size = b18 at *
    generalize w5.alloc (.cells #[.int .u16 (pc 0 x.a), .int .u16 (pc 1 x.a), .int .u16 (pc 2 x.a), .int .u16 (pc 3 x.a), .int .u16 (pc 4 x.a), .int .u16 (pc 5 x.a), .int .u16 (pc 6 x.a), .int .u16 (pc 7 x.a), .int .i64 x.n] 32) = W7 at *
    have HP7 := Lib.hid hp7
    have HA7 := Lib.hid ha7
    have H77 := Lib.hid h77
    have H107 := Lib.hid h107
    have H157 := Lib.hid h157
    have H167 := Lib.hid h167
    have H18 := Lib.hid h18
    have HB7 := Lib.hid hB7
    clear d0 d1 d2 d3 d4 d5 d6 d7 d8 hg6 hp7 ha7 h77 h107 h157 h167 h18 hB7 HP4 HA4 H74 H104 H15 H16 HB4 HB5 HB6 HR1
    have HS9 : Hid (∀ W, Below W7.heap.size W7 W → (fun w' => w'.cell? ⟨w.heap.size, 0, none⟩ = some (.int .u16 (pc 0 x.a)) ∧ w'.cell? ⟨w.heap.size, 1, none⟩ = some (.int .u16 (pc 1 x.a)) ∧ w'.cell? ⟨w.heap.size, 2, none⟩ = some (.int .u16 (pc 2 x.a)) ∧ w'.cell? ⟨w.heap.size, 3, none⟩ = some (.int .u16 (pc 3 x.a)) ∧ w'.cell? ⟨w.heap.size, 4, none⟩ = some (.int .u16 (pc 4 x.a)) ∧ w'.cell? ⟨w.heap.size, 5, none⟩ = some (.int .u16 (pc 5 x.a)) ∧ w'.cell? ⟨w.heap.size, 6, none⟩ = some (.int .u16 (pc 6 x.a)) ∧ w'.cell? ⟨w.heap.size, 7, none⟩ = some (.int .u16 (pc 7 x.a)) ∧ w'.cell? ⟨(w.heap.size + 1), 0, none⟩ = some (.int .u16 (pc 0 u)) ∧ w'.cell? ⟨(w.heap.size + 1), 1, none⟩ = some (.int .u16 (pc 1 u)) ∧ w'.cell? ⟨(w.heap.size + 1), 2, none⟩ = some (.int .u16 (pc 2 u)) ∧ w'.cell? ⟨(w.heap.size + 1), 3, none⟩ = some (.int .u16 (pc 3 u)) ∧ w'.cell? ⟨(w.heap.size + 1), 4, none⟩ = some (.int .u16 (pc 4 u)) ∧ w'.cell? ⟨(w.heap.size + 1), 5, none⟩ = some (.int .u16 (pc 5 u)) ∧ w'.cell? ⟨(w.heap.size + 1), 6, none⟩ = some (.int .u16 (pc 6 u)) ∧ w'.cell? ⟨(w.heap.size + 1), 7, none⟩ = some (.int .u16 (pc 7 u)) ∧ w'.cell? ⟨b7, 0, none⟩ = some (.int .u16 (pc 0 q.a)) ∧ w'.cell? ⟨b7, 1, none⟩ = some (.int .u16 (pc 1 q.a)) ∧ w'.cell? ⟨b7, 2, none⟩ = some (.int .u16 (pc 2 q.a)) ∧ w'.cell? ⟨b7, 3, none⟩ = some (.int .u16 (pc 3 q.a)) ∧ w'.cell? ⟨b7, 4, none⟩ = some (.int .u16 (pc 4 q.a)) ∧ w'.cell? ⟨b7, 5, none⟩ = some (.int .u16 (pc 5 q.a)) ∧ w'.cell? ⟨b7, 6, none⟩ = some (.int .u16 (pc 6 q.a)) ∧ w'.cell? ⟨b7, 7, none⟩ = some (.int .u16 (pc 7 q.a)) ∧ w'.cell? ⟨b7, 8, none⟩ = some (.int .i64 q.n) ∧ w'.cell? ⟨b10, 0, none⟩ = some (.int .u16 (pc 0 q.a)) ∧ w'.cell? ⟨b10, 1, none⟩ = some (.int .u16 (pc 1 q.a)) ∧ w'.cell? ⟨b10, 2, none⟩ = some (.int .u16 (pc 2 q.a)) ∧ w'.cell? ⟨b10, 3, none⟩ = some (.int .u16 (pc 3 q.a)) ∧ w'.cell? ⟨b10, 4, none⟩ = some (.int .u16 (pc 4 q.a)) ∧ w'.cell? ⟨b10, 5, none⟩ = some (.int .u16 (pc 5 q.a)) ∧ w'.cell? ⟨b10, 6, none⟩ = some (.int .u16 (pc 6 q.a)) ∧ w'.cell? ⟨b10, 7, none⟩ = some (.int .u16 (pc 7 q.a)) ∧ w'.cell? ⟨b10, 8, none⟩ = some (.int .i64 q.n) ∧ w'.cell? ⟨b18, 0, none⟩ = some (.int .u16 (pc 0 x.a)) ∧ w'.cell? ⟨b18, 1, none⟩ = some (.int .u16 (pc 1 x.a)) ∧ w'.cell? ⟨b18, 2, none⟩ = some (.int .u16 (pc 2 x.a)) ∧ w'.cell? ⟨b18, 3, none⟩ = some (.int .u16 (pc 3 x.a)) ∧ w'.cell? ⟨b18, 4, none⟩ = some (.int .u16 (pc 4 x.a)) ∧ w'.cell? ⟨b18, 5, none⟩ = some (.int .u16 (pc 5 x.a)) ∧ w'.cell? ⟨b18, 6, none⟩ = some (.int .u16 (pc 6 x.a)) ∧ w'.cell? ⟨b18, 7, none⟩ = some (.int .u16 (pc 7 x.a))) W) := Lib.hid (by
      intro W hb
      refine ⟨?_, ?_, ?_, ?_, ?_, ?_, ?_, ?_, ?_, ?_, ?_, ?_, ?_, ?_, ?_, ?_, ?_, ?_, ?_, ?_, ?_, ?_, ?_, ?_, ?_, ?_, ?_, ?_, ?_, ?_, ?_, ?_, ?_, ?_, ?_, ?_, ?_, ?_, ?_, ?_, ?_, ?_⟩
      · exact (blk_cell (blk_below HP7.out hb) 0).trans rfl
      · exact (blk_cell (blk_below HP7.out hb) 1).trans rfl
      · exact (blk_cell (blk_below HP7.out hb) 2).trans rfl
      · exact (blk_cell (blk_below HP7.out hb) 3).trans rfl
      · exact (blk_cell (blk_below HP7.out hb) 4).trans rfl
      · exact (blk_cell (blk_below HP7.out hb) 5).trans rfl
      · exact (blk_cell (blk_below HP7.out hb) 6).trans rfl
      · exact (blk_cell (blk_below HP7.out hb) 7).trans rfl
      · exact (blk_cell (blk_below HA7.out hb) 0).trans rfl
      · exact (blk_cell (blk_below HA7.out hb) 1).trans rfl
      · exact (blk_cell (blk_below HA7.out hb) 2).trans rfl
      · exact (blk_cell (blk_below HA7.out hb) 3).trans rfl
      · exact (blk_cell (blk_below HA7.out hb) 4).trans rfl
      · exact (blk_cell (blk_below HA7.out hb) 5).trans rfl
      · exact (blk_cell (blk_below HA7.out hb) 6).trans rfl
      · exact (blk_cell (blk_below HA7.out hb) 7).trans rfl
      · exact (blk_cell (blk_below H77.out hb) 0).trans rfl
      · exact (blk_cell (blk_below H77.out hb) 1).trans rfl
      · exact (blk_cell (blk_below H77.out hb) 2).trans rfl
      · exact (blk_cell (blk_below H77.out hb) 3).trans rfl
      · exact (blk_cell (blk_below H77.out hb) 4).trans rfl
      · exact (blk_cell (blk_below H77.out hb) 5).trans rfl
      · exact (blk_cell (blk_below H77.out hb) 6).trans rfl
      · exact (blk_cell (blk_below H77.out hb) 7).trans rfl
      · exact (blk_cell (blk_below H77.out hb) 8).trans rfl
      · exact (blk_cell (blk_below H107.out hb) 0).trans rfl
      · exact (blk_cell (blk_below H107.out hb) 1).trans rfl
      · exact (blk_cell (blk_below H107.out hb) 2).trans rfl
      · exact (blk_cell (blk_below H107.out hb) 3).trans rfl
      · exact (blk_cell (blk_below H107.out hb) 4).trans rfl
      · exact (blk_cell (blk_below H107.out hb) 5).trans rfl
      · exact (blk_cell (blk_below H107.out hb) 6).trans rfl
      · exact (blk_cell (blk_below H107.out hb) 7).trans rfl
      · exact (blk_cell (blk_below H107.out hb) 8).trans rfl
      · exact (blk_cell (blk_below H18.out hb) 0).trans rfl
      · exact (blk_cell (blk_below H18.out hb) 1).trans rfl
      · exact (blk_cell (blk_below H18.out hb) 2).trans rfl
      · exact (blk_cell (blk_below H18.out hb) 3).trans rfl
      · exact (blk_cell (blk_below H18.out hb) 4).trans rfl
      · exact (blk_cell (blk_below H18.out hb) 5).trans rfl
      · exact (blk_cell (blk_below H18.out hb) 6).trans rfl
      · exact (blk_cell (blk_below H18.out hb) 7).trans rfl)
    obtain ⟨nc, hC1, hC2⟩ := common_at x.a u
    have HC1 := Lib.hid hC1
    have HC2 := Lib.hid hC2
    clear hC1 hC2
    have lp := blk_lt HP7.out
    have la := blk_lt HA7.out
    have l7 := blk_lt H77.out
    have l10 := blk_lt H107.out
    have l18 := blk_lt H18.out
    go_region_held3 (fun w' => w'.cell? ⟨w.heap.size, 0, none⟩ = some (.int .u16 (pc 0 x.a)) ∧ w'.cell? ⟨w.heap.size, 1, none⟩ = some (.int .u16 (pc 1 x.a)) ∧ w'.cell? ⟨w.heap.size, 2, none⟩ = some (.int .u16 (pc 2 x.a)) ∧ w'.cell? ⟨w.heap.size, 3, none⟩ = some (.int .u16 (pc 3 x.a)) ∧ w'.cell? ⟨w.heap.size, 4, none⟩ = some (.int .u16 (pc 4 x.a)) ∧ w'.cell? ⟨w.heap.size, 5, none⟩ = some (.int .u16 (pc 5 x.a)) ∧ w'.cell? ⟨w.heap.size, 6, none⟩ = some (.int .u16 (pc 6 x.a)) ∧ w'.cell? ⟨w.heap.size, 7, none⟩ = some (.int .u16 (pc 7 x.a)) ∧ w'.cell? ⟨(w.heap.size + 1), 0, none⟩ = some (.int .u16 (pc 0 u)) ∧ w'.cell? ⟨(w.heap.size + 1), 1, none⟩ = some (.int .u16 (pc 1 u)) ∧ w'.cell? ⟨(w.heap.size + 1), 2, none⟩ = some (.int .u16 (pc 2 u)) ∧ w'.cell? ⟨(w.heap.size + 1), 3, none⟩ = some (.int .u16 (pc 3 u)) ∧ w'.cell? ⟨(w.heap.size + 1), 4, none⟩ = some (.int .u16 (pc 4 u)) ∧ w'.cell? ⟨(w.heap.size + 1), 5, none⟩ = some (.int .u16 (pc 5 u)) ∧ w'.cell? ⟨(w.heap.size + 1), 6, none⟩ = some (.int .u16 (pc 6 u)) ∧ w'.cell? ⟨(w.heap.size + 1), 7, none⟩ = some (.int .u16 (pc 7 u)) ∧ w'.cell? ⟨b7, 0, none⟩ = some (.int .u16 (pc 0 q.a)) ∧ w'.cell? ⟨b7, 1, none⟩ = some (.int .u16 (pc 1 q.a)) ∧ w'.cell? ⟨b7, 2, none⟩ = some (.int .u16 (pc 2 q.a)) ∧ w'.cell? ⟨b7, 3, none⟩ = some (.int .u16 (pc 3 q.a)) ∧ w'.cell? ⟨b7, 4, none⟩ = some (.int .u16 (pc 4 q.a)) ∧ w'.cell? ⟨b7, 5, none⟩ = some (.int .u16 (pc 5 q.a)) ∧ w'.cell? ⟨b7, 6, none⟩ = some (.int .u16 (pc 6 q.a)) ∧ w'.cell? ⟨b7, 7, none⟩ = some (.int .u16 (pc 7 q.a)) ∧ w'.cell? ⟨b7, 8, none⟩ = some (.int .i64 q.n) ∧ w'.cell? ⟨b10, 0, none⟩ = some (.int .u16 (pc 0 q.a)) ∧ w'.cell? ⟨b10, 1, none⟩ = some (.int .u16 (pc 1 q.a)) ∧ w'.cell? ⟨b10, 2, none⟩ = some (.int .u16 (pc 2 q.a)) ∧ w'.cell? ⟨b10, 3, none⟩ = some (.int .u16 (pc 3 q.a)) ∧ w'.cell? ⟨b10, 4, none⟩ = some (.int .u16 (pc 4 q.a)) ∧ w'.cell? ⟨b10, 5, none⟩ = some (.int .u16 (pc 5 q.a)) ∧ w'.cell? ⟨b10, 6, none⟩ = some (.int .u16 (pc 6 q.a)) ∧ w'.cell? ⟨b10, 7, none⟩ = some (.int .u16 (pc 7 q.a)) ∧ w'.cell? ⟨b10, 8, none⟩ = some (.int .i64 q.n) ∧ w'.cell? ⟨b18, 0, none⟩ = some (.int .u16 (pc 0 x.a)) ∧ w'.cell? ⟨b18, 1, none⟩ = some (.int .u16 (pc 1 x.a)) ∧ w'.cell? ⟨b18, 2, none⟩ = some (.int .u16 (pc 2 x.a)) ∧ w'.cell? ⟨b18, 3, none⟩ = some (.int .u16 (pc 3 x.a)) ∧ w'.cell? ⟨b18, 4, none⟩ = some (.int .u16 (pc 4 x.a)) ∧ w'.cell? ⟨b18, 5, none⟩ = some (.int .u16 (pc 5 x.a)) ∧ w'.cell? ⟨b18, 6, none⟩ = some (.int .u16 (pc 6 x.a)) ∧ w'.cell? ⟨b18, 7, none⟩ = some (.int .u16 (pc 7 x.a)))
      (first | exact HS9.out _ (by assumption) | exact HS9.out _ (by first | exact bdn (Below.refl _ _) 1 | exact HB1.alloc HB1.size _ | exact (HB1.alloc HB1.size _).alloc (HB1.alloc HB1.size _).size _) | go_keep)
      (first
      | (go_at_call 9
         refine (awake_walk _).mono ?_
         rintro e w1 ⟨rfl, hb1⟩
         have HB1 : Below W7.heap.size W7 w1 := below_step (bdn (Below.refl _ _) 1) hb1
         have hlw : W7.heap.size ≤ w1.heap.size := HB1.size)
      | (go_at_call 10
         refine (sameZ_walk [q] _ _ 1 1 _ (by simp) (by first | exact rdz_fst _ q _ _ | exact rdz_snd _ q _ _) (by first | exact rdz_snd _ q _ _ | exact rdz_fst _ q _ _)).mono ?_
         rintro e w2 ⟨rfl, hb2⟩
         have HB2' : Below W7.heap.size W7 w2 := below_step ((HB1.alloc HB1.size _).alloc (HB1.alloc HB1.size _).size _) hb2
         have hlw2 : W7.heap.size ≤ w2.heap.size := HB2'.size)
      | (go_at_call 11
         refine (HC1.out _).mono ?_
         rintro e w3 ⟨rfl, hb3⟩
         have HB3' : Below W7.heap.size W7 w3 := below_step HB2' hb3
         have hlw3 : W7.heap.size ≤ w3.heap.size := HB3'.size)
      | (go_at_call 12
         refine (HC2.out _).mono ?_
         rintro e w4 ⟨rfl, hb4⟩
         have HB4' : Below W7.heap.size W7 w4 := below_step HB3' hb4))
    all_goals (
      have HB8 := Lib.hid HB4'
      clear HB1 HB2' HB3' HB4' HS9
      have HP8 := Lib.hid (blk_below HP7.out HB8.out)
      have HA8 := Lib.hid (blk_below HA7.out HB8.out)
      have H158 := Lib.hid (blk_below H157.out HB8.out)
      have H168 := Lib.hid (blk_below H167.out HB8.out)
      have H188 := Lib.hid (blk_below H18.out HB8.out)
      have HB9 := Lib.hid (below_step HB7.out HB8.out)
      have c0 := (blk_cell H188.out 0).trans (show _ = some (Value.int .u16 (pc 0 x.a)) from rfl)
      have c1 := (blk_cell H188.out 1).trans (show _ = some (Value.int .u16 (pc 1 x.a)) from rfl)
      have c2 := (blk_cell H188.out 2).trans (show _ = some (Value.int .u16 (pc 2 x.a)) from rfl)
      have c3 := (blk_cell H188.out 3).trans (show _ = some (Value.int .u16 (pc 3 x.a)) from rfl)
      have c4 := (blk_cell H188.out 4).trans (show _ = some (Value.int .u16 (pc 4 x.a)) from rfl)
      have c5 := (blk_cell H188.out 5).trans (show _ = some (Value.int .u16 (pc 5 x.a)) from rfl)
      have c6 := (blk_cell H188.out 6).trans (show _ = some (Value.int .u16 (pc 6 x.a)) from rfl)
      have c7 := (blk_cell H188.out 7).trans (show _ = some (Value.int .u16 (pc 7 x.a)) from rfl)
      have c8 := (blk_cell H188.out 8).trans (show _ = some (Value.int .i64 x.n) from rfl)
      have cl := blk_lt H188.out
      have HIP : Hid (∀ w, Calls Tryz.prog 13 #[PV x.a x.n] w fun e w' => e = .returned (.bool true) ∧ Below w.heap.size w w') := Lib.hid (fun w => by
        have h := isPrefix_at HWX.out x.n w
        have e1 : isPre x.a x.n = true := by
          have := HZ.out
          unfold isZ Pz.v at this
          rwa [pc_v8 HWX.out] at this
        rw [e1] at h
        exact h)
      go_wp2_with fail
      refine (HIP.out _).mono ?_
      rintro e w5 ⟨rfl, hv5⟩
      have HB10 := Lib.hid (below_step HB9.out hv5)
      have HPT := Lib.hid (fun w hG hI hE => parse_text (x := x) HZ.out w hG hI hE)
      have HP9 := Lib.hid (blk_below HP8.out hv5)
      have H159 := Lib.hid (blk_below H158.out hv5)
      have H169 := Lib.hid (blk_below H168.out hv5)
      have H189 := Lib.hid (blk_below H188.out hv5)
      clear c0 c1 c2 c3 c4 c5 c6 c7 c8 cl hv5
      go_wp2_with fail
      refine (HPT.out _ (HG.out.keep HB10.out) (HI.out.keep HB10.out) (HE.out.keep HB10.out)).mono ?_
      rintro e w6 ⟨rfl, hv6⟩
      have HB11 := Lib.hid ((below_step HB10.out hv6).alloc (below_step HB10.out hv6).size (.cells #[.int .u16 (pc 0 x.a), .int .u16 (pc 1 x.a), .int .u16 (pc 2 x.a), .int .u16 (pc 3 x.a), .int .u16 (pc 4 x.a), .int .u16 (pc 5 x.a), .int .u16 (pc 6 x.a), .int .u16 (pc 7 x.a), .int .i64 x.n] 26))
      have h19 : (w6.alloc (.cells #[.int .u16 (pc 0 x.a), .int .u16 (pc 1 x.a), .int .u16 (pc 2 x.a), .int .u16 (pc 3 x.a), .int .u16 (pc 4 x.a), .int .u16 (pc 5 x.a), .int .u16 (pc 6 x.a), .int .u16 (pc 7 x.a), .int .i64 x.n] 26)).heap[w6.heap.size]? = some (.cells #[.int .u16 (pc 0 x.a), .int .u16 (pc 1 x.a), .int .u16 (pc 2 x.a), .int .u16 (pc 3 x.a), .int .u16 (pc 4 x.a), .int .u16 (pc 5 x.a), .int .u16 (pc 6 x.a), .int .u16 (pc 7 x.a), .int .i64 x.n] 26 (0, 0)) := blk_new _ _
      have h4x := blk_alloc (blk_below HP9.out hv6) (.cells #[.int .u16 (pc 0 x.a), .int .u16 (pc 1 x.a), .int .u16 (pc 2 x.a), .int .u16 (pc 3 x.a), .int .u16 (pc 4 x.a), .int .u16 (pc 5 x.a), .int .u16 (pc 6 x.a), .int .u16 (pc 7 x.a), .int .i64 x.n] 26)
      have h15x := blk_alloc (blk_below H159.out hv6) (.cells #[.int .u16 (pc 0 x.a), .int .u16 (pc 1 x.a), .int .u16 (pc 2 x.a), .int .u16 (pc 3 x.a), .int .u16 (pc 4 x.a), .int .u16 (pc 5 x.a), .int .u16 (pc 6 x.a), .int .u16 (pc 7 x.a), .int .i64 x.n] 26)
      have h16x := blk_alloc (blk_below H169.out hv6) (.cells #[.int .u16 (pc 0 x.a), .int .u16 (pc 1 x.a), .int .u16 (pc 2 x.a), .int .u16 (pc 3 x.a), .int .u16 (pc 4 x.a), .int .u16 (pc 5 x.a), .int .u16 (pc 6 x.a), .int .u16 (pc 7 x.a), .int .i64 x.n] 26)
      have h18x := blk_alloc (blk_below H189.out hv6) (.cells #[.int .u16 (pc 0 x.a), .int .u16 (pc 1 x.a), .int .u16 (pc 2 x.a), .int .u16 (pc 3 x.a), .int .u16 (pc 4 x.a), .int .u16 (pc 5 x.a), .int .u16 (pc 6 x.a), .int .u16 (pc 7 x.a), .int .i64 x.n] 26)
      go_upto_region 11 with fail
      generalize w6.heap.size = b19 at *
      generalize w6.alloc (.cells #[.int .u16 (pc 0 x.a), .int .u16 (pc 1 x.a), .int .u16 (pc 2 x.a), .int .u16 (pc 3 x.a), .int .u16 (pc 4 x.a), .int .u16 (pc 5 x.a), .int .u16 (pc 6 x.a), .int .u16 (pc 7 x.a), .int .i64 x.n] 26) = W9 at *
      have c0 := (blk_cell h4x 0).trans (show _ = some (Value.int .u16 (pc 0 x.a)) from rfl)
      have c1 := (blk_cell h4x 1).trans (show _ = some (Value.int .u16 (pc 1 x.a)) from rfl)
      have c2 := (blk_cell h4x 2).trans (show _ = some (Value.int .u16 (pc 2 x.a)) from rfl)
      have c3 := (blk_cell h4x 3).trans (show _ = some (Value.int .u16 (pc 3 x.a)) from rfl)
      have c4 := (blk_cell h4x 4).trans (show _ = some (Value.int .u16 (pc 4 x.a)) from rfl)
      have c5 := (blk_cell h4x 5).trans (show _ = some (Value.int .u16 (pc 5 x.a)) from rfl)
      have c6 := (blk_cell h4x 6).trans (show _ = some (Value.int .u16 (pc 6 x.a)) from rfl)
      have c7 := (blk_cell h4x 7).trans (show _ = some (Value.int .u16 (pc 7 x.a)) from rfl)
      have c8 := (blk_cell h4x 8).trans (show _ = some (Value.int .i64 x.n) from rfl)
      have cl := blk_lt h4x
      have d0 := (blk_cell h18x 0).trans (show _ = some (Value.int .u16 (pc 0 x.a)) from rfl)
      have d1 := (blk_cell h18x 1).trans (show _ = some (Value.int .u16 (pc 1 x.a)) from rfl)
      have d2 := (blk_cell h18x 2).trans (show _ = some (Value.int .u16 (pc 2 x.a)) from rfl)
      have d3 := (blk_cell h18x 3).trans (show _ = some (Value.int .u16 (pc 3 x.a)) from rfl)
      have d4 := (blk_cell h18x 4).trans (show _ = some (Value.int .u16 (pc 4 x.a)) from rfl)
      have d5 := (blk_cell h18x 5).trans (show _ = some (Value.int .u16 (pc 5 x.a)) from rfl)
      have d6 := (blk_cell h18x 6).trans (show _ = some (Value.int .u16 (pc 6 x.a)) from rfl)
      have d7 := (blk_cell h18x 7).trans (show _ = some (Value.int .u16 (pc 7 x.a)) from rfl)
      have d8 := (blk_cell h18x 8).trans (show _ = some (Value.int .i64 x.n) from rfl)
      have dl := blk_lt h18x
      have f0 := (blk_cell h19 0).trans (show _ = some (Value.int .u16 (pc 0 x.a)) from rfl)
      have f1 := (blk_cell h19 1).trans (show _ = some (Value.int .u16 (pc 1 x.a)) from rfl)
      have f2 := (blk_cell h19 2).trans (show _ = some (Value.int .u16 (pc 2 x.a)) from rfl)
      have f3 := (blk_cell h19 3).trans (show _ = some (Value.int .u16 (pc 3 x.a)) from rfl)
      have f4 := (blk_cell h19 4).trans (show _ = some (Value.int .u16 (pc 4 x.a)) from rfl)
      have f5 := (blk_cell h19 5).trans (show _ = some (Value.int .u16 (pc 5 x.a)) from rfl)
      have f6 := (blk_cell h19 6).trans (show _ = some (Value.int .u16 (pc 6 x.a)) from rfl)
      have f7 := (blk_cell h19 7).trans (show _ = some (Value.int .u16 (pc 7 x.a)) from rfl)
      have f8 := (blk_cell h19 8).trans (show _ = some (Value.int .i64 x.n) from rfl)
      have fl := blk_lt h19
      have g0 := (blk_cell h15x 0).trans (show _ = some (Value.int .u16 (pc 0 x.a)) from rfl)
      have g1 := (blk_cell h15x 1).trans (show _ = some (Value.int .u16 (pc 1 x.a)) from rfl)
      have g2 := (blk_cell h15x 2).trans (show _ = some (Value.int .u16 (pc 2 x.a)) from rfl)
      have g3 := (blk_cell h15x 3).trans (show _ = some (Value.int .u16 (pc 3 x.a)) from rfl)
      have g4 := (blk_cell h15x 4).trans (show _ = some (Value.int .u16 (pc 4 x.a)) from rfl)
      have g5 := (blk_cell h15x 5).trans (show _ = some (Value.int .u16 (pc 5 x.a)) from rfl)
      have g6 := (blk_cell h15x 6).trans (show _ = some (Value.int .u16 (pc 6 x.a)) from rfl)
      have g7 := (blk_cell h15x 7).trans (show _ = some (Value.int .u16 (pc 7 x.a)) from rfl)
      have gl := blk_lt h15x
      have k0 := (blk_cell h16x 0).trans (show _ = some (Value.int .u16 (pc 0 (rngZ x).2)) from rfl)
      have k1 := (blk_cell h16x 1).trans (show _ = some (Value.int .u16 (pc 1 (rngZ x).2)) from rfl)
      have k2 := (blk_cell h16x 2).trans (show _ = some (Value.int .u16 (pc 2 (rngZ x).2)) from rfl)
      have k3 := (blk_cell h16x 3).trans (show _ = some (Value.int .u16 (pc 3 (rngZ x).2)) from rfl)
      have k4 := (blk_cell h16x 4).trans (show _ = some (Value.int .u16 (pc 4 (rngZ x).2)) from rfl)
      have k5 := (blk_cell h16x 5).trans (show _ = some (Value.int .u16 (pc 5 (rngZ x).2)) from rfl)
      have k6 := (blk_cell h16x 6).trans (show _ = some (Value.int .u16 (pc 6 (rngZ x).2)) from rfl)
      have k7 := (blk_cell h16x 7).trans (show _ = some (Value.int .u16 (pc 7 (rngZ x).2)) from rfl)
      have kl := blk_lt h16x
      have HPR := Lib.hid (refPrint_good (x := x) HZ.out)
      have HL := Lib.hid (last_z (x := x) HZ.out HWX.out)
      clear h4x h15x h16x h18x h19 hv6
      refine wp_region_ext (by kernel_rfl) (by kernel_rfl) ?_
      repeat (first | go_big_quiet_step (first | (with_reducible exact ext_of (HPR.out _)) | (with_reducible exact ext_of (HL.out _))) | (rw [beq_self_eq_true]))
      refine wpQuiet_nil ?_
      rintro w9 ⟨⟨_, hb⟩, rfl⟩
      go_wp2_with fail
      go_returns
      exact ⟨rfl, below_step HB11.out hb⟩)
  · have hz : isZ x = false := by cases h : isZ x <;> simp_all
    have HPX := Lib.hid (print_bad hz)
    have HBD := Lib.hid (bounds_bad hz)
    have HZ := Lib.hid hz
    clear hz
    go_wp2_with fail
    refine (HPX.out _).mono ?_
    rintro e w3 ⟨rfl, hv3⟩
    have HB3 := Lib.hid (below_step HB2.out hv3)
    have HP3 := Lib.hid (blk_below HP2.out hv3)
    have HA3 := Lib.hid (blk_below HA2.out hv3)
    have H73 := Lib.hid (blk_below H72.out hv3)
    have H103 := Lib.hid (blk_below H10.out hv3)
    clear c0 c1 c2 c3 c4 c5 c6 c7 c8 cl hv3 HP2 HA2 HB2 H72 H10
    have c0 := (blk_cell HP3.out 0).trans (show _ = some (Value.int .u16 (pc 0 x.a)) from rfl)
    have c1 := (blk_cell HP3.out 1).trans (show _ = some (Value.int .u16 (pc 1 x.a)) from rfl)
    have c2 := (blk_cell HP3.out 2).trans (show _ = some (Value.int .u16 (pc 2 x.a)) from rfl)
    have c3 := (blk_cell HP3.out 3).trans (show _ = some (Value.int .u16 (pc 3 x.a)) from rfl)
    have c4 := (blk_cell HP3.out 4).trans (show _ = some (Value.int .u16 (pc 4 x.a)) from rfl)
    have c5 := (blk_cell HP3.out 5).trans (show _ = some (Value.int .u16 (pc 5 x.a)) from rfl)
    have c6 := (blk_cell HP3.out 6).trans (show _ = some (Value.int .u16 (pc 6 x.a)) from rfl)
    have c7 := (blk_cell HP3.out 7).trans (show _ = some (Value.int .u16 (pc 7 x.a)) from rfl)
    have c8 := (blk_cell HP3.out 8).trans (show _ = some (Value.int .i64 x.n) from rfl)
    have cl := blk_lt HP3.out
    go_wp2_with fail
    refine (HBD.out _).mono ?_
    rintro e w4 ⟨rfl, hv4⟩
    have hB4 : Below w.heap.size w ((w4.alloc (.cells #[.int .u16 0, .int .u16 0, .int .u16 0, .int .u16 0, .int .u16 0, .int .u16 0, .int .u16 0, .int .u16 0] 24)).alloc (.cells #[.int .u16 0, .int .u16 0, .int .u16 0, .int .u16 0, .int .u16 0, .int .u16 0, .int .u16 0, .int .u16 0] 24)) := ((below_step HB3.out hv4).alloc (below_step HB3.out hv4).size _).alloc (by have := (below_step HB3.out hv4).size; rw [World.size_alloc]; omega) _
    have hp4 := blk_alloc (blk_alloc (blk_below HP3.out hv4) (.cells #[.int .u16 0, .int .u16 0, .int .u16 0, .int .u16 0, .int .u16 0, .int .u16 0, .int .u16 0, .int .u16 0] 24)) (.cells #[.int .u16 0, .int .u16 0, .int .u16 0, .int .u16 0, .int .u16 0, .int .u16 0, .int .u16 0, .int .u16 0] 24)
    have ha4 := blk_alloc (blk_alloc (blk_below HA3.out hv4) (.cells #[.int .u16 0, .int .u16 0, .int .u16 0, .int .u16 0, .int .u16 0, .int .u16 0, .int .u16 0, .int .u16 0] 24)) (.cells #[.int .u16 0, .int .u16 0, .int .u16 0, .int .u16 0, .int .u16 0, .int .u16 0, .int .u16 0, .int .u16 0] 24)
    have h74 := blk_alloc (blk_alloc (blk_below H73.out hv4) (.cells #[.int .u16 0, .int .u16 0, .int .u16 0, .int .u16 0, .int .u16 0, .int .u16 0, .int .u16 0, .int .u16 0] 24)) (.cells #[.int .u16 0, .int .u16 0, .int .u16 0, .int .u16 0, .int .u16 0, .int .u16 0, .int .u16 0, .int .u16 0] 24)
    have h104 := blk_alloc (blk_alloc (blk_below H103.out hv4) (.cells #[.int .u16 0, .int .u16 0, .int .u16 0, .int .u16 0, .int .u16 0, .int .u16 0, .int .u16 0, .int .u16 0] 24)) (.cells #[.int .u16 0, .int .u16 0, .int .u16 0, .int .u16 0, .int .u16 0, .int .u16 0, .int .u16 0, .int .u16 0] 24)
    have h15 : ((w4.alloc (.cells #[.int .u16 0, .int .u16 0, .int .u16 0, .int .u16 0, .int .u16 0, .int .u16 0, .int .u16 0, .int .u16 0] 24)).alloc (.cells #[.int .u16 0, .int .u16 0, .int .u16 0, .int .u16 0, .int .u16 0, .int .u16 0, .int .u16 0, .int .u16 0] 24)).heap[w4.heap.size]? = some (.cells #[.int .u16 0, .int .u16 0, .int .u16 0, .int .u16 0, .int .u16 0, .int .u16 0, .int .u16 0, .int .u16 0] 24 (0, 0)) := blk_alloc (blk_new _ _) _
    have h16 : ((w4.alloc (.cells #[.int .u16 0, .int .u16 0, .int .u16 0, .int .u16 0, .int .u16 0, .int .u16 0, .int .u16 0, .int .u16 0] 24)).alloc (.cells #[.int .u16 0, .int .u16 0, .int .u16 0, .int .u16 0, .int .u16 0, .int .u16 0, .int .u16 0, .int .u16 0] 24)).heap[w4.heap.size + 1]? = some (.cells #[.int .u16 0, .int .u16 0, .int .u16 0, .int .u16 0, .int .u16 0, .int .u16 0, .int .u16 0, .int .u16 0] 24 (0, 0)) := by
      have := blk_new (w4.alloc (.cells #[.int .u16 0, .int .u16 0, .int .u16 0, .int .u16 0, .int .u16 0, .int .u16 0, .int .u16 0, .int .u16 0] 24)) (.cells #[.int .u16 0, .int .u16 0, .int .u16 0, .int .u16 0, .int .u16 0, .int .u16 0, .int .u16 0, .int .u16 0] 24)
      rwa [World.size_alloc] at this
    go_upto_region 5 with fail
    generalize w4.heap.size = b15 at *
    generalize ((w4.alloc (.cells #[.int .u16 0, .int .u16 0, .int .u16 0, .int .u16 0, .int .u16 0, .int .u16 0, .int .u16 0, .int .u16 0] 24)).alloc (.cells #[.int .u16 0, .int .u16 0, .int .u16 0, .int .u16 0, .int .u16 0, .int .u16 0, .int .u16 0, .int .u16 0] 24)) = W4 at *
    have HP4 := Lib.hid hp4
    have HA4 := Lib.hid ha4
    have H74 := Lib.hid h74
    have H104 := Lib.hid h104
    have HB4 := Lib.hid hB4
    have H15 := Lib.hid h15
    have H16 := Lib.hid h16
    clear c0 c1 c2 c3 c4 c5 c6 c7 c8 cl hp4 ha4 h74 h104 hB4 h15 h16 hv4 HP3 HA3 HB3 H73 H103
    have c0 := (blk_cell HP4.out 0).trans (show _ = some (Value.int .u16 (pc 0 x.a)) from rfl)
    have c1 := (blk_cell HP4.out 1).trans (show _ = some (Value.int .u16 (pc 1 x.a)) from rfl)
    have c2 := (blk_cell HP4.out 2).trans (show _ = some (Value.int .u16 (pc 2 x.a)) from rfl)
    have c3 := (blk_cell HP4.out 3).trans (show _ = some (Value.int .u16 (pc 3 x.a)) from rfl)
    have c4 := (blk_cell HP4.out 4).trans (show _ = some (Value.int .u16 (pc 4 x.a)) from rfl)
    have c5 := (blk_cell HP4.out 5).trans (show _ = some (Value.int .u16 (pc 5 x.a)) from rfl)
    have c6 := (blk_cell HP4.out 6).trans (show _ = some (Value.int .u16 (pc 6 x.a)) from rfl)
    have c7 := (blk_cell HP4.out 7).trans (show _ = some (Value.int .u16 (pc 7 x.a)) from rfl)
    have c8 := (blk_cell HP4.out 8).trans (show _ = some (Value.int .i64 x.n) from rfl)
    have cl := blk_lt HP4.out
    have HGV := Lib.hid (fun (W : World) (g : Nat) (hr : RdZ W (some ⟨g, 0, none⟩) [x]) => given_walk [x] (some ⟨g, 0, none⟩) 1 W (by simp) hr)
    have h1 := own_one (B := 0) W4 x 26 (Nat.zero_le _)
    obtain ⟨A1, c1', e1, _, hR1⟩ := rdz_own (l := [x]) (by simpa [zcs] using h1) rfl
    have e1 : (some ⟨W4.heap.size, 0, none⟩ : Option Addr) = A1 := by injection e1
    subst e1
    have HR1 := Lib.hid hR1
    have HB5 := Lib.hid (HB4.out.alloc HB4.out.size (.cells #[.int .u16 (pc 0 x.a), .int .u16 (pc 1 x.a), .int .u16 (pc 2 x.a), .int .u16 (pc 3 x.a), .int .u16 (pc 4 x.a), .int .u16 (pc 5 x.a), .int .u16 (pc 6 x.a), .int .u16 (pc 7 x.a), .int .i64 x.n] 26))
    clear h1 hR1
    go_wp2_with fail
    refine (HGV.out _ _ HR1.out).mono ?_
    rintro e w5 ⟨uu, rfl, hown5, hv5⟩
    obtain ⟨A6, k6, rfl, _, hR6⟩ := rdz_own hown5 rfl
    obtain ⟨g6, o6, rfl, hg6, hc6⟩ := hR6 0 x rfl
    have HB6 := Lib.hid (below_step HB5.out hv5)
    have d0 := (hc6 0 (by decide)).trans (show (zc x)[0]? = some (.int .u16 (pc 0 x.a)) from rfl)
    have d1 := (hc6 1 (by decide)).trans (show (zc x)[1]? = some (.int .u16 (pc 1 x.a)) from rfl)
    have d2 := (hc6 2 (by decide)).trans (show (zc x)[2]? = some (.int .u16 (pc 2 x.a)) from rfl)
    have d3 := (hc6 3 (by decide)).trans (show (zc x)[3]? = some (.int .u16 (pc 3 x.a)) from rfl)
    have d4 := (hc6 4 (by decide)).trans (show (zc x)[4]? = some (.int .u16 (pc 4 x.a)) from rfl)
    have d5 := (hc6 5 (by decide)).trans (show (zc x)[5]? = some (.int .u16 (pc 5 x.a)) from rfl)
    have d6 := (hc6 6 (by decide)).trans (show (zc x)[6]? = some (.int .u16 (pc 6 x.a)) from rfl)
    have d7 := (hc6 7 (by decide)).trans (show (zc x)[7]? = some (.int .u16 (pc 7 x.a)) from rfl)
    have d8 := (hc6 8 (by decide)).trans (show (zc x)[8]? = some (.int .i64 x.n) from rfl)
    simp only [Nat.zero_mul, Nat.zero_add, Nat.add_zero] at d0 d1 d2 d3 d4 d5 d6 d7 d8
    have hp7 := blk_alloc (blk_below (blk_alloc HP4.out (.cells #[.int .u16 (pc 0 x.a), .int .u16 (pc 1 x.a), .int .u16 (pc 2 x.a), .int .u16 (pc 3 x.a), .int .u16 (pc 4 x.a), .int .u16 (pc 5 x.a), .int .u16 (pc 6 x.a), .int .u16 (pc 7 x.a), .int .i64 x.n] 26)) hv5) (.cells #[.int .u16 (pc 0 x.a), .int .u16 (pc 1 x.a), .int .u16 (pc 2 x.a), .int .u16 (pc 3 x.a), .int .u16 (pc 4 x.a), .int .u16 (pc 5 x.a), .int .u16 (pc 6 x.a), .int .u16 (pc 7 x.a), .int .i64 x.n] 32)
    have ha7 := blk_alloc (blk_below (blk_alloc HA4.out (.cells #[.int .u16 (pc 0 x.a), .int .u16 (pc 1 x.a), .int .u16 (pc 2 x.a), .int .u16 (pc 3 x.a), .int .u16 (pc 4 x.a), .int .u16 (pc 5 x.a), .int .u16 (pc 6 x.a), .int .u16 (pc 7 x.a), .int .i64 x.n] 26)) hv5) (.cells #[.int .u16 (pc 0 x.a), .int .u16 (pc 1 x.a), .int .u16 (pc 2 x.a), .int .u16 (pc 3 x.a), .int .u16 (pc 4 x.a), .int .u16 (pc 5 x.a), .int .u16 (pc 6 x.a), .int .u16 (pc 7 x.a), .int .i64 x.n] 32)
    have h77 := blk_alloc (blk_below (blk_alloc H74.out (.cells #[.int .u16 (pc 0 x.a), .int .u16 (pc 1 x.a), .int .u16 (pc 2 x.a), .int .u16 (pc 3 x.a), .int .u16 (pc 4 x.a), .int .u16 (pc 5 x.a), .int .u16 (pc 6 x.a), .int .u16 (pc 7 x.a), .int .i64 x.n] 26)) hv5) (.cells #[.int .u16 (pc 0 x.a), .int .u16 (pc 1 x.a), .int .u16 (pc 2 x.a), .int .u16 (pc 3 x.a), .int .u16 (pc 4 x.a), .int .u16 (pc 5 x.a), .int .u16 (pc 6 x.a), .int .u16 (pc 7 x.a), .int .i64 x.n] 32)
    have h107 := blk_alloc (blk_below (blk_alloc H104.out (.cells #[.int .u16 (pc 0 x.a), .int .u16 (pc 1 x.a), .int .u16 (pc 2 x.a), .int .u16 (pc 3 x.a), .int .u16 (pc 4 x.a), .int .u16 (pc 5 x.a), .int .u16 (pc 6 x.a), .int .u16 (pc 7 x.a), .int .i64 x.n] 26)) hv5) (.cells #[.int .u16 (pc 0 x.a), .int .u16 (pc 1 x.a), .int .u16 (pc 2 x.a), .int .u16 (pc 3 x.a), .int .u16 (pc 4 x.a), .int .u16 (pc 5 x.a), .int .u16 (pc 6 x.a), .int .u16 (pc 7 x.a), .int .i64 x.n] 32)
    have h157 := blk_alloc (blk_below (blk_alloc H15.out (.cells #[.int .u16 (pc 0 x.a), .int .u16 (pc 1 x.a), .int .u16 (pc 2 x.a), .int .u16 (pc 3 x.a), .int .u16 (pc 4 x.a), .int .u16 (pc 5 x.a), .int .u16 (pc 6 x.a), .int .u16 (pc 7 x.a), .int .i64 x.n] 26)) hv5) (.cells #[.int .u16 (pc 0 x.a), .int .u16 (pc 1 x.a), .int .u16 (pc 2 x.a), .int .u16 (pc 3 x.a), .int .u16 (pc 4 x.a), .int .u16 (pc 5 x.a), .int .u16 (pc 6 x.a), .int .u16 (pc 7 x.a), .int .i64 x.n] 32)
    have h167 := blk_alloc (blk_below (blk_alloc H16.out (.cells #[.int .u16 (pc 0 x.a), .int .u16 (pc 1 x.a), .int .u16 (pc 2 x.a), .int .u16 (pc 3 x.a), .int .u16 (pc 4 x.a), .int .u16 (pc 5 x.a), .int .u16 (pc 6 x.a), .int .u16 (pc 7 x.a), .int .i64 x.n] 26)) hv5) (.cells #[.int .u16 (pc 0 x.a), .int .u16 (pc 1 x.a), .int .u16 (pc 2 x.a), .int .u16 (pc 3 x.a), .int .u16 (pc 4 x.a), .int .u16 (pc 5 x.a), .int .u16 (pc 6 x.a), .int .u16 (pc 7 x.a), .int .i64 x.n] 32)
    have hB7 := HB6.out.alloc HB6.out.size (.cells #[.int .u16 (pc 0 x.a), .int .u16 (pc 1 x.a), .int .u16 (pc 2 x.a), .int .u16 (pc 3 x.a), .int .u16 (pc 4 x.a), .int .u16 (pc 5 x.a), .int .u16 (pc 6 x.a), .int .u16 (pc 7 x.a), .int .i64 x.n] 32)
    have h18 : (w5.alloc (.cells #[.int .u16 (pc 0 x.a), .int .u16 (pc 1 x.a), .int .u16 (pc 2 x.a), .int .u16 (pc 3 x.a), .int .u16 (pc 4 x.a), .int .u16 (pc 5 x.a), .int .u16 (pc 6 x.a), .int .u16 (pc 7 x.a), .int .i64 x.n] 32)).heap[w5.heap.size]? = some (.cells #[.int .u16 (pc 0 x.a), .int .u16 (pc 1 x.a), .int .u16 (pc 2 x.a), .int .u16 (pc 3 x.a), .int .u16 (pc 4 x.a), .int .u16 (pc 5 x.a), .int .u16 (pc 6 x.a), .int .u16 (pc 7 x.a), .int .i64 x.n] 32 (0, 0)) := blk_new _ _
    clear c0 c1 c2 c3 c4 c5 c6 c7 c8 cl hown5 hv5 hR6 hc6
    go_upto_region 6 with fail
    generalize w5.heap.size = b18 at *
    generalize w5.alloc (.cells #[.int .u16 (pc 0 x.a), .int .u16 (pc 1 x.a), .int .u16 (pc 2 x.a), .int .u16 (pc 3 x.a), .int .u16 (pc 4 x.a), .int .u16 (pc 5 x.a), .int .u16 (pc 6 x.a), .int .u16 (pc 7 x.a), .int .i64 x.n] 32) = W7 at *
    have HP7 := Lib.hid hp7
    have HA7 := Lib.hid ha7
    have H77 := Lib.hid h77
    have H107 := Lib.hid h107
    have H157 := Lib.hid h157
    have H167 := Lib.hid h167
    have H18 := Lib.hid h18
    have HB7 := Lib.hid hB7
    clear d0 d1 d2 d3 d4 d5 d6 d7 d8 hg6 hp7 ha7 h77 h107 h157 h167 h18 hB7 HP4 HA4 H74 H104 H15 H16 HB4 HB5 HB6 HR1
    have HS9 : Hid (∀ W, Below W7.heap.size W7 W → (fun w' => w'.cell? ⟨w.heap.size, 0, none⟩ = some (.int .u16 (pc 0 x.a)) ∧ w'.cell? ⟨w.heap.size, 1, none⟩ = some (.int .u16 (pc 1 x.a)) ∧ w'.cell? ⟨w.heap.size, 2, none⟩ = some (.int .u16 (pc 2 x.a)) ∧ w'.cell? ⟨w.heap.size, 3, none⟩ = some (.int .u16 (pc 3 x.a)) ∧ w'.cell? ⟨w.heap.size, 4, none⟩ = some (.int .u16 (pc 4 x.a)) ∧ w'.cell? ⟨w.heap.size, 5, none⟩ = some (.int .u16 (pc 5 x.a)) ∧ w'.cell? ⟨w.heap.size, 6, none⟩ = some (.int .u16 (pc 6 x.a)) ∧ w'.cell? ⟨w.heap.size, 7, none⟩ = some (.int .u16 (pc 7 x.a)) ∧ w'.cell? ⟨(w.heap.size + 1), 0, none⟩ = some (.int .u16 (pc 0 u)) ∧ w'.cell? ⟨(w.heap.size + 1), 1, none⟩ = some (.int .u16 (pc 1 u)) ∧ w'.cell? ⟨(w.heap.size + 1), 2, none⟩ = some (.int .u16 (pc 2 u)) ∧ w'.cell? ⟨(w.heap.size + 1), 3, none⟩ = some (.int .u16 (pc 3 u)) ∧ w'.cell? ⟨(w.heap.size + 1), 4, none⟩ = some (.int .u16 (pc 4 u)) ∧ w'.cell? ⟨(w.heap.size + 1), 5, none⟩ = some (.int .u16 (pc 5 u)) ∧ w'.cell? ⟨(w.heap.size + 1), 6, none⟩ = some (.int .u16 (pc 6 u)) ∧ w'.cell? ⟨(w.heap.size + 1), 7, none⟩ = some (.int .u16 (pc 7 u)) ∧ w'.cell? ⟨b7, 0, none⟩ = some (.int .u16 (pc 0 q.a)) ∧ w'.cell? ⟨b7, 1, none⟩ = some (.int .u16 (pc 1 q.a)) ∧ w'.cell? ⟨b7, 2, none⟩ = some (.int .u16 (pc 2 q.a)) ∧ w'.cell? ⟨b7, 3, none⟩ = some (.int .u16 (pc 3 q.a)) ∧ w'.cell? ⟨b7, 4, none⟩ = some (.int .u16 (pc 4 q.a)) ∧ w'.cell? ⟨b7, 5, none⟩ = some (.int .u16 (pc 5 q.a)) ∧ w'.cell? ⟨b7, 6, none⟩ = some (.int .u16 (pc 6 q.a)) ∧ w'.cell? ⟨b7, 7, none⟩ = some (.int .u16 (pc 7 q.a)) ∧ w'.cell? ⟨b7, 8, none⟩ = some (.int .i64 q.n) ∧ w'.cell? ⟨b10, 0, none⟩ = some (.int .u16 (pc 0 q.a)) ∧ w'.cell? ⟨b10, 1, none⟩ = some (.int .u16 (pc 1 q.a)) ∧ w'.cell? ⟨b10, 2, none⟩ = some (.int .u16 (pc 2 q.a)) ∧ w'.cell? ⟨b10, 3, none⟩ = some (.int .u16 (pc 3 q.a)) ∧ w'.cell? ⟨b10, 4, none⟩ = some (.int .u16 (pc 4 q.a)) ∧ w'.cell? ⟨b10, 5, none⟩ = some (.int .u16 (pc 5 q.a)) ∧ w'.cell? ⟨b10, 6, none⟩ = some (.int .u16 (pc 6 q.a)) ∧ w'.cell? ⟨b10, 7, none⟩ = some (.int .u16 (pc 7 q.a)) ∧ w'.cell? ⟨b10, 8, none⟩ = some (.int .i64 q.n) ∧ w'.cell? ⟨b18, 0, none⟩ = some (.int .u16 (pc 0 x.a)) ∧ w'.cell? ⟨b18, 1, none⟩ = some (.int .u16 (pc 1 x.a)) ∧ w'.cell? ⟨b18, 2, none⟩ = some (.int .u16 (pc 2 x.a)) ∧ w'.cell? ⟨b18, 3, none⟩ = some (.int .u16 (pc 3 x.a)) ∧ w'.cell? ⟨b18, 4, none⟩ = some (.int .u16 (pc 4 x.a)) ∧ w'.cell? ⟨b18, 5, none⟩ = some (.int .u16 (pc 5 x.a)) ∧ w'.cell? ⟨b18, 6, none⟩ = some (.int .u16 (pc 6 x.a)) ∧ w'.cell? ⟨b18, 7, none⟩ = some (.int .u16 (pc 7 x.a))) W) := Lib.hid (by
      intro W hb
      refine ⟨?_, ?_, ?_, ?_, ?_, ?_, ?_, ?_, ?_, ?_, ?_, ?_, ?_, ?_, ?_, ?_, ?_, ?_, ?_, ?_, ?_, ?_, ?_, ?_, ?_, ?_, ?_, ?_, ?_, ?_, ?_, ?_, ?_, ?_, ?_, ?_, ?_, ?_, ?_, ?_, ?_, ?_⟩
      · exact (blk_cell (blk_below HP7.out hb) 0).trans rfl
      · exact (blk_cell (blk_below HP7.out hb) 1).trans rfl
      · exact (blk_cell (blk_below HP7.out hb) 2).trans rfl
      · exact (blk_cell (blk_below HP7.out hb) 3).trans rfl
      · exact (blk_cell (blk_below HP7.out hb) 4).trans rfl
      · exact (blk_cell (blk_below HP7.out hb) 5).trans rfl
      · exact (blk_cell (blk_below HP7.out hb) 6).trans rfl
      · exact (blk_cell (blk_below HP7.out hb) 7).trans rfl
      · exact (blk_cell (blk_below HA7.out hb) 0).trans rfl
      · exact (blk_cell (blk_below HA7.out hb) 1).trans rfl
      · exact (blk_cell (blk_below HA7.out hb) 2).trans rfl
      · exact (blk_cell (blk_below HA7.out hb) 3).trans rfl
      · exact (blk_cell (blk_below HA7.out hb) 4).trans rfl
      · exact (blk_cell (blk_below HA7.out hb) 5).trans rfl
      · exact (blk_cell (blk_below HA7.out hb) 6).trans rfl
      · exact (blk_cell (blk_below HA7.out hb) 7).trans rfl
      · exact (blk_cell (blk_below H77.out hb) 0).trans rfl
      · exact (blk_cell (blk_below H77.out hb) 1).trans rfl
      · exact (blk_cell (blk_below H77.out hb) 2).trans rfl
      · exact (blk_cell (blk_below H77.out hb) 3).trans rfl
      · exact (blk_cell (blk_below H77.out hb) 4).trans rfl
      · exact (blk_cell (blk_below H77.out hb) 5).trans rfl
      · exact (blk_cell (blk_below H77.out hb) 6).trans rfl
      · exact (blk_cell (blk_below H77.out hb) 7).trans rfl
      · exact (blk_cell (blk_below H77.out hb) 8).trans rfl
      · exact (blk_cell (blk_below H107.out hb) 0).trans rfl
      · exact (blk_cell (blk_below H107.out hb) 1).trans rfl
      · exact (blk_cell (blk_below H107.out hb) 2).trans rfl
      · exact (blk_cell (blk_below H107.out hb) 3).trans rfl
      · exact (blk_cell (blk_below H107.out hb) 4).trans rfl
      · exact (blk_cell (blk_below H107.out hb) 5).trans rfl
      · exact (blk_cell (blk_below H107.out hb) 6).trans rfl
      · exact (blk_cell (blk_below H107.out hb) 7).trans rfl
      · exact (blk_cell (blk_below H107.out hb) 8).trans rfl
      · exact (blk_cell (blk_below H18.out hb) 0).trans rfl
      · exact (blk_cell (blk_below H18.out hb) 1).trans rfl
      · exact (blk_cell (blk_below H18.out hb) 2).trans rfl
      · exact (blk_cell (blk_below H18.out hb) 3).trans rfl
      · exact (blk_cell (blk_below H18.out hb) 4).trans rfl
      · exact (blk_cell (blk_below H18.out hb) 5).trans rfl
      · exact (blk_cell (blk_below H18.out hb) 6).trans rfl
      · exact (blk_cell (blk_below H18.out hb) 7).trans rfl)
    obtain ⟨nc, hC1, hC2⟩ := common_at x.a u
    have HC1 := Lib.hid hC1
    have HC2 := Lib.hid hC2
    clear hC1 hC2
    have lp := blk_lt HP7.out
    have la := blk_lt HA7.out
    have l7 := blk_lt H77.out
    have l10 := blk_lt H107.out
    have l18 := blk_lt H18.out
    go_region_held3 (fun w' => w'.cell? ⟨w.heap.size, 0, none⟩ = some (.int .u16 (pc 0 x.a)) ∧ w'.cell? ⟨w.heap.size, 1, none⟩ = some (.int .u16 (pc 1 x.a)) ∧ w'.cell? ⟨w.heap.size, 2, none⟩ = some (.int .u16 (pc 2 x.a)) ∧ w'.cell? ⟨w.heap.size, 3, none⟩ = some (.int .u16 (pc 3 x.a)) ∧ w'.cell? ⟨w.heap.size, 4, none⟩ = some (.int .u16 (pc 4 x.a)) ∧ w'.cell? ⟨w.heap.size, 5, none⟩ = some (.int .u16 (pc 5 x.a)) ∧ w'.cell? ⟨w.heap.size, 6, none⟩ = some (.int .u16 (pc 6 x.a)) ∧ w'.cell? ⟨w.heap.size, 7, none⟩ = some (.int .u16 (pc 7 x.a)) ∧ w'.cell? ⟨(w.heap.size + 1), 0, none⟩ = some (.int .u16 (pc 0 u)) ∧ w'.cell? ⟨(w.heap.size + 1), 1, none⟩ = some (.int .u16 (pc 1 u)) ∧ w'.cell? ⟨(w.heap.size + 1), 2, none⟩ = some (.int .u16 (pc 2 u)) ∧ w'.cell? ⟨(w.heap.size + 1), 3, none⟩ = some (.int .u16 (pc 3 u)) ∧ w'.cell? ⟨(w.heap.size + 1), 4, none⟩ = some (.int .u16 (pc 4 u)) ∧ w'.cell? ⟨(w.heap.size + 1), 5, none⟩ = some (.int .u16 (pc 5 u)) ∧ w'.cell? ⟨(w.heap.size + 1), 6, none⟩ = some (.int .u16 (pc 6 u)) ∧ w'.cell? ⟨(w.heap.size + 1), 7, none⟩ = some (.int .u16 (pc 7 u)) ∧ w'.cell? ⟨b7, 0, none⟩ = some (.int .u16 (pc 0 q.a)) ∧ w'.cell? ⟨b7, 1, none⟩ = some (.int .u16 (pc 1 q.a)) ∧ w'.cell? ⟨b7, 2, none⟩ = some (.int .u16 (pc 2 q.a)) ∧ w'.cell? ⟨b7, 3, none⟩ = some (.int .u16 (pc 3 q.a)) ∧ w'.cell? ⟨b7, 4, none⟩ = some (.int .u16 (pc 4 q.a)) ∧ w'.cell? ⟨b7, 5, none⟩ = some (.int .u16 (pc 5 q.a)) ∧ w'.cell? ⟨b7, 6, none⟩ = some (.int .u16 (pc 6 q.a)) ∧ w'.cell? ⟨b7, 7, none⟩ = some (.int .u16 (pc 7 q.a)) ∧ w'.cell? ⟨b7, 8, none⟩ = some (.int .i64 q.n) ∧ w'.cell? ⟨b10, 0, none⟩ = some (.int .u16 (pc 0 q.a)) ∧ w'.cell? ⟨b10, 1, none⟩ = some (.int .u16 (pc 1 q.a)) ∧ w'.cell? ⟨b10, 2, none⟩ = some (.int .u16 (pc 2 q.a)) ∧ w'.cell? ⟨b10, 3, none⟩ = some (.int .u16 (pc 3 q.a)) ∧ w'.cell? ⟨b10, 4, none⟩ = some (.int .u16 (pc 4 q.a)) ∧ w'.cell? ⟨b10, 5, none⟩ = some (.int .u16 (pc 5 q.a)) ∧ w'.cell? ⟨b10, 6, none⟩ = some (.int .u16 (pc 6 q.a)) ∧ w'.cell? ⟨b10, 7, none⟩ = some (.int .u16 (pc 7 q.a)) ∧ w'.cell? ⟨b10, 8, none⟩ = some (.int .i64 q.n) ∧ w'.cell? ⟨b18, 0, none⟩ = some (.int .u16 (pc 0 x.a)) ∧ w'.cell? ⟨b18, 1, none⟩ = some (.int .u16 (pc 1 x.a)) ∧ w'.cell? ⟨b18, 2, none⟩ = some (.int .u16 (pc 2 x.a)) ∧ w'.cell? ⟨b18, 3, none⟩ = some (.int .u16 (pc 3 x.a)) ∧ w'.cell? ⟨b18, 4, none⟩ = some (.int .u16 (pc 4 x.a)) ∧ w'.cell? ⟨b18, 5, none⟩ = some (.int .u16 (pc 5 x.a)) ∧ w'.cell? ⟨b18, 6, none⟩ = some (.int .u16 (pc 6 x.a)) ∧ w'.cell? ⟨b18, 7, none⟩ = some (.int .u16 (pc 7 x.a)))
      (first | exact HS9.out _ (by assumption) | exact HS9.out _ (by first | exact bdn (Below.refl _ _) 1 | exact HB1.alloc HB1.size _ | exact (HB1.alloc HB1.size _).alloc (HB1.alloc HB1.size _).size _) | go_keep)
      (first
      | (go_at_call 9
         refine (awake_walk _).mono ?_
         rintro e w1 ⟨rfl, hb1⟩
         have HB1 : Below W7.heap.size W7 w1 := below_step (bdn (Below.refl _ _) 1) hb1
         have hlw : W7.heap.size ≤ w1.heap.size := HB1.size)
      | (go_at_call 10
         refine (sameZ_walk [q] _ _ 1 1 _ (by simp) (by first | exact rdz_fst _ q _ _ | exact rdz_snd _ q _ _) (by first | exact rdz_snd _ q _ _ | exact rdz_fst _ q _ _)).mono ?_
         rintro e w2 ⟨rfl, hb2⟩
         have HB2' : Below W7.heap.size W7 w2 := below_step ((HB1.alloc HB1.size _).alloc (HB1.alloc HB1.size _).size _) hb2
         have hlw2 : W7.heap.size ≤ w2.heap.size := HB2'.size)
      | (go_at_call 11
         refine (HC1.out _).mono ?_
         rintro e w3 ⟨rfl, hb3⟩
         have HB3' : Below W7.heap.size W7 w3 := below_step HB2' hb3
         have hlw3 : W7.heap.size ≤ w3.heap.size := HB3'.size)
      | (go_at_call 12
         refine (HC2.out _).mono ?_
         rintro e w4 ⟨rfl, hb4⟩
         have HB4' : Below W7.heap.size W7 w4 := below_step HB3' hb4))
    all_goals (
      have HB8 := Lib.hid HB4'
      clear HB1 HB2' HB3' HB4' HS9
      have HP8 := Lib.hid (blk_below HP7.out HB8.out)
      have HA8 := Lib.hid (blk_below HA7.out HB8.out)
      have H158 := Lib.hid (blk_below H157.out HB8.out)
      have H168 := Lib.hid (blk_below H167.out HB8.out)
      have H188 := Lib.hid (blk_below H18.out HB8.out)
      have HB9 := Lib.hid (below_step HB7.out HB8.out)
      have c0 := (blk_cell H188.out 0).trans (show _ = some (Value.int .u16 (pc 0 x.a)) from rfl)
      have c1 := (blk_cell H188.out 1).trans (show _ = some (Value.int .u16 (pc 1 x.a)) from rfl)
      have c2 := (blk_cell H188.out 2).trans (show _ = some (Value.int .u16 (pc 2 x.a)) from rfl)
      have c3 := (blk_cell H188.out 3).trans (show _ = some (Value.int .u16 (pc 3 x.a)) from rfl)
      have c4 := (blk_cell H188.out 4).trans (show _ = some (Value.int .u16 (pc 4 x.a)) from rfl)
      have c5 := (blk_cell H188.out 5).trans (show _ = some (Value.int .u16 (pc 5 x.a)) from rfl)
      have c6 := (blk_cell H188.out 6).trans (show _ = some (Value.int .u16 (pc 6 x.a)) from rfl)
      have c7 := (blk_cell H188.out 7).trans (show _ = some (Value.int .u16 (pc 7 x.a)) from rfl)
      have c8 := (blk_cell H188.out 8).trans (show _ = some (Value.int .i64 x.n) from rfl)
      have cl := blk_lt H188.out
      have HIP : Hid (∀ w, Calls Tryz.prog 13 #[PV x.a x.n] w fun e w' => e = .returned (.bool false) ∧ Below w.heap.size w w') := Lib.hid (fun w => by
        have h := isPrefix_at HWX.out x.n w
        have e1 : isPre x.a x.n = false := by
          have := HZ.out
          unfold isZ Pz.v at this
          rwa [pc_v8 HWX.out] at this
        rw [e1] at h
        exact h)
      go_wp2_with fail
      refine (HIP.out _).mono ?_
      rintro e w5 ⟨rfl, hv5⟩
      have HB10 := Lib.hid (below_step HB9.out hv5)
      have h15 := blk_below H158.out hv5
      have h16 := blk_below H168.out hv5
      have g0 := (blk_cell h15 0).trans (show _ = some (Value.int .u16 0) from rfl)
      have g1 := (blk_cell h15 1).trans (show _ = some (Value.int .u16 0) from rfl)
      have g2 := (blk_cell h15 2).trans (show _ = some (Value.int .u16 0) from rfl)
      have g3 := (blk_cell h15 3).trans (show _ = some (Value.int .u16 0) from rfl)
      have g4 := (blk_cell h15 4).trans (show _ = some (Value.int .u16 0) from rfl)
      have g5 := (blk_cell h15 5).trans (show _ = some (Value.int .u16 0) from rfl)
      have g6 := (blk_cell h15 6).trans (show _ = some (Value.int .u16 0) from rfl)
      have g7 := (blk_cell h15 7).trans (show _ = some (Value.int .u16 0) from rfl)
      have gl := blk_lt h15
      have k0 := (blk_cell h16 0).trans (show _ = some (Value.int .u16 0) from rfl)
      have k1 := (blk_cell h16 1).trans (show _ = some (Value.int .u16 0) from rfl)
      have k2 := (blk_cell h16 2).trans (show _ = some (Value.int .u16 0) from rfl)
      have k3 := (blk_cell h16 3).trans (show _ = some (Value.int .u16 0) from rfl)
      have k4 := (blk_cell h16 4).trans (show _ = some (Value.int .u16 0) from rfl)
      have k5 := (blk_cell h16 5).trans (show _ = some (Value.int .u16 0) from rfl)
      have k6 := (blk_cell h16 6).trans (show _ = some (Value.int .u16 0) from rfl)
      have k7 := (blk_cell h16 7).trans (show _ = some (Value.int .u16 0) from rfl)
      have kl := blk_lt h16
      clear c0 c1 c2 c3 c4 c5 c6 c7 c8 cl h15 h16 hv5
      have hbn : (BA []).toList = [] := by rw [toList_data]; rfl
      go_wp2_with fail
      go_returns
      exact ⟨rfl, HB10.out⟩)
theorem prefixes_at (s : ByteArray) (hs : s.size ≤ 1048576) (x : Pz) (hw : Wide x.a) (x0 x1 x2 x3 x4 x5 x6 x7 : Int) (r : R8 x0 x1 x2 x3 x4 x5 x6 x7) (W : World) (hG : GW W) (hI : GI W) (hE : GE W) :
    Calls Tryz.prog 3 #[.string s, PV x.a x.n, .agg #[.int .u16 x0, .int .u16 x1, .int .u16 x2, .int .u16 x3, .int .u16 x4, .int .u16 x5, .int .u16 x6, .int .u16 x7]] W fun e w' => e = .returned (.bool true) ∧ Below W.heap.size W w' := by
  obtain ⟨u, hu⟩ : ∃ u, V8 x0 x1 x2 x3 x4 x5 x6 x7 = u := ⟨_, rfl⟩
  obtain ⟨rfl, rfl, rfl, rfl, rfl, rfl, rfl, rfl⟩ := pc_of r hu
  have h := prefixes_walk s.data.toList (by rw [← size_len]; exact hs) x u hw W hG hI hE
  rw [ba_of] at h
  exact h
end Go.Proofs.YtcgdjnmfeibnoaaGreatDoor
/-! Frame -/
namespace Go.Proofs.YtcgdjnmfeibnoaaGreatDoor
open Go.RowKit Go.WideShapes Go.ChangeShapes Go.ChangeAt
set_option linter.unusedVariables false
set_option linter.unusedSimpArgs false
section
variable {H : Type} {enc : TypeId × Value → H} {P : Program}
theorem law_below {f : Func} {s : ChangeSpec} {apart fresh handsOn again : Bool} {W W' : World} {args : Array Value} {v : Value} {ds gs : List (DataW H)} {before pa pv : List MemPlace}
    (hW : DataW.Whole enc P f.params.toList s.vars apart W args.toList ds gs before)
    (hres : ∀ (b : Nat) (sp : Nat → Bool) (hd : Bool), DataW.TrodAll enc P W' b sp hd f.resultTypes.toList (v.resultList f.resultTypes.size) (s.fn H (ds ++ gs)).results [])
    (hargs : ∀ sp : Nat → Bool, (∀ p ∈ before, sp p.block = true) → DataW.TrodAll enc P W' 0 sp true f.params.toList args.toList (s.fn H (ds ++ gs)).args pa)
    (hvars : ∀ sp : Nat → Bool, (∀ p ∈ before, sp p.block = true) → DataW.TrodVars enc P W' sp s.vars (s.fn H (ds ++ gs)).vars pv)
    (hps : before = pa ++ pv) (hb : Below W.heap.size W W')
    (hok : ∀ (j : Nat) (t : TypeId) (r : Value), f.resultTypes[j]? = some t → (v.resultList f.resultTypes.size)[j]? = some r → Value.okWide P W' .any 0 t r) :
    s.post enc P f apart fresh handsOn again W args v W' := by
  have hlt : ∀ p ∈ before, p.block < W.heap.size := fun p hp => hW.lt p hp
  have hold : ∀ p ∈ before, (fun b => decide (b < W.heap.size)) p.block = true := fun p hp => by simpa using hlt p hp
  refine ⟨ds, gs, before, [], pa, pv, hW, hres _ _ _, hargs _ hold, hvars _ hold, World.keptBut_mono (fun p hp => ⟨hp, ?_⟩) (hb.frame (· ∈ before)), fun _ => ?_⟩
  · rw [hps, List.mem_append] at hp
    exact Or.inr hp
  · obtain ⟨_, _, _, _, _, hz, hn⟩ := hW
    refine ⟨hok, _, _, ([] ++ pa) ++ pv, ⟨[] ++ pa, pv, trodAll_append (hargs _ (fun _ _ => rfl)) (hres _ _ _), hvars _ (fun _ _ => rfl), rfl, ?_, ?_⟩, ?_⟩
    · intro b off hp
      have hin : MemPlace.cell b off ∈ before := by rw [hps]; simpa using hp
      rw [hb.frozen (hlt _ hin)]
      exact hz b off hin
    · intro ha
      have := hn ha
      rw [hps] at this
      simpa using this
    · intro p hp _
      rw [hps]
      simpa using hp
/-- All arguments read as they did, where all stays that was there. -/
theorem args_stay (hl : laidOutB P = true) {W W' : World} (hB : Below W.heap.size W W') {sp : Nat → Bool} :
    ∀ (ts : List TypeId) (vs : List Value) (ds : List (DataW H)) (ps : List MemPlace), (∀ t ∈ ts, P.readableRec t = true ∧ t < P.types.size) → DataW.TrodAll enc P W 0 (fun _ => true) true ts vs ds ps →
      (∀ p ∈ ps, p.block < W.heap.size) → (∀ p ∈ ps, sp p.block = true) → DataW.TrodAll enc P W' 0 sp true ts vs ds ps
  | [], vs, ds, ps, _, h, _, _ => by
    obtain ⟨rfl, rfl, rfl⟩ := trodAll_nil h
    exact trodAll_mk0
  | t :: ts, vs, ds, ps, hr, h, hlt, hs => by
    obtain ⟨v, vs1, d, ds1, a, b, rfl, rfl, rfl, h1, h2⟩ := trodAll_cons h
    have hlt' := hlt
    exact trodAll_cons_mk (WideElems.Trod_stays hl (hr t (by simp)).1 (hr t (by simp)).2 h1 (fun x hx => hB.same (hlt x (by simp [hx]))) (fun x hx => hs x (by simp [hx])))
      (args_stay hl hB ts vs1 ds1 b (fun t ht => hr t (by simp [ht])) h2 (fun p hp => hlt p (by simp [hp])) (fun p hp => hs p (by simp [hp])))
/-- THE STEP OF A LAW's ROW. -/
theorem law_post {f : Func} {s : ChangeSpec} {tb : TypeId} {W W' : World} {args : Array Value} {ds : List (DataW H)} {before : List MemPlace} (hv : s.vars = []) (hfn : s.fn H ds = { results := [.lit (.bool true)], args := ds })
    (hres : f.resultTypes = #[tb]) (hb : P.underlying tb = some .bool) (hl : laidOutB P = true) (hr : ∀ t ∈ f.params.toList, P.readableRec t = true ∧ t < P.types.size)
    (hW : DataW.Whole enc P f.params.toList s.vars false W args.toList ds [] before) (hB : Below W.heap.size W W') : s.post enc P f false true false false W args (.bool true) W' := by
  have hW' := hW
  obtain ⟨p, q, hA, hV, hpq, hfz, hnd⟩ := hW
  have hA : DataW.TrodAll enc P W 0 (fun _ => true) true f.params.toList args.toList ds p := hA
  rw [hv] at hV
  obtain ⟨_, rfl⟩ := trodVars_none hV
  have hlt : ∀ x ∈ before, x.block < W.heap.size := fun x hx => hW'.lt x hx
  subst hpq
  refine law_below (pa := p) (pv := []) hW' ?_ ?_ ?_ (by simp) hB ?_
  · intro b sp hd
    rw [List.append_nil, hfn, hres]
    exact trodAll_cons_mk (shut_bool hb true) trodAll_mk0
  · intro sp hs
    rw [List.append_nil, hfn]
    exact args_stay hl hB _ _ _ _ hr hA (fun x hx => hlt x (by simp [hx])) (fun x hx => hs x (by simp [hx]))
  · intro sp hs
    rw [List.append_nil, hfn, hv]
    rfl
  · exact ok_one hres rfl (okWide_bool_mk hb true)
end
end Go.Proofs.YtcgdjnmfeibnoaaGreatDoor
/-! SixOpen -/
namespace Go.Proofs.YtcgdjnmfeibnoaaGreatDoor
open Go.RowKit Go.WideShapes
set_option linter.unusedVariables false
set_option linter.unusedSimpArgs false
theorem six_cells : Tryz.prog.cellsOf 24 = 8 := by kernel_rfl
theorem six_types : Tryz.prog.cellTypes Tryz.prog.depth 24 = some (List.replicate 8 22) := by kernel_rfl
set_option maxRecDepth 100000 in
theorem u16_open {w : World} {base : Nat} {v : Value} (h : Cell.okWide Tryz.prog w .any base 22 v) : ∃ x : Int, v = .int .u16 x ∧ 0 ≤ x ∧ x ≤ 65535 := by
  unfold Cell.okWide at h
  rw [Tryz.underlying22] at h
  cases v <;> simp [Cell.ok, Tryz.underlying22] at h
  rename_i k n
  obtain ⟨rfl, h1, h2⟩ := h
  exact ⟨n, rfl, by simpa [IntKind.min, IntKind.signed] using h1, by simpa [IntKind.max, IntKind.signed, IntKind.bits] using h2⟩
set_option maxRecDepth 100000 in
theorem six_open {w : World} {base : Nat} {v : Value} (h : Value.okWide Tryz.prog w .any base 24 v) :
    ∃ x0 x1 x2 x3 x4 x5 x6 x7 : Int, v = A8 x0 x1 x2 x3 x4 x5 x6 x7 ∧ R8 x0 x1 x2 x3 x4 x5 x6 x7 := by
  unfold Value.okWide at h
  rw [Tryz.underlying24] at h
  obtain ⟨cs, rfl, hsz, ts, hts, _, hc⟩ := h
  rw [six_cells] at hsz
  rw [six_types] at hts
  obtain rfl := (Option.some.inj hts).symm
  have key : ∀ i, (hi : i < 8) → ∃ x : Int, cs[i]? = some (.int .u16 x) ∧ 0 ≤ x ∧ x ≤ 65535 := by
    intro i hi
    obtain ⟨u, hu, hok⟩ := hc i cs[i] (Array.getElem?_eq_getElem (by omega))
    obtain rfl : u = 22 := List.eq_of_mem_replicate (List.mem_of_getElem? hu)
    obtain ⟨x, hx, h0, h1⟩ := u16_open hok
    exact ⟨x, by rw [Array.getElem?_eq_getElem (by omega), hx], h0, h1⟩
  obtain ⟨x0, e0, a0, b0⟩ := key 0 (by omega)
  obtain ⟨x1, e1, a1, b1⟩ := key 1 (by omega)
  obtain ⟨x2, e2, a2, b2⟩ := key 2 (by omega)
  obtain ⟨x3, e3, a3, b3⟩ := key 3 (by omega)
  obtain ⟨x4, e4, a4, b4⟩ := key 4 (by omega)
  obtain ⟨x5, e5, a5, b5⟩ := key 5 (by omega)
  obtain ⟨x6, e6, a6, b6⟩ := key 6 (by omega)
  obtain ⟨x7, e7, a7, b7⟩ := key 7 (by omega)
  refine ⟨x0, x1, x2, x3, x4, x5, x6, x7, ?_, ⟨⟨a0, b0⟩, ⟨a1, b1⟩, ⟨a2, b2⟩, ⟨a3, b3⟩, ⟨a4, b4⟩, ⟨a5, b5⟩, ⟨a6, b6⟩, ⟨a7, b7⟩⟩⟩
  congr 1
  apply Array.ext_getElem?
  intro i
  match i with
  | 0 => rw [e0]; rfl
  | 1 => rw [e1]; rfl
  | 2 => rw [e2]; rfl
  | 3 => rw [e3]; rfl
  | 4 => rw [e4]; rfl
  | 5 => rw [e5]; rfl
  | 6 => rw [e6]; rfl
  | 7 => rw [e7]; rfl
  | i + 8 => rw [Array.getElem?_eq_none (by omega)]; rfl
end Go.Proofs.YtcgdjnmfeibnoaaGreatDoor
/-! SixOpenL -/
namespace Go.Proofs.YtcgdjnmfeibnoaaGreatDoor
open Go.RowKit Go.WideShapes Go.ChangeShapes Go.ChangeAt
set_option linter.unusedVariables false
set_option linter.unusedSimpArgs false
theorem pfxCells : Tryz.prog.cellsOf 26 = 9 := by kernel_rfl
theorem pfxCells8 : Tryz.prog.cellsOf 24 = 8 := by kernel_rfl
theorem pfxCells1 : Tryz.prog.cellsOf 22 = 1 := by kernel_rfl
theorem pfxCellsI : Tryz.prog.cellsOf 3 = 1 := by kernel_rfl
section
variable {H : Type} {enc : TypeId × Value → H} {W : World} {base : Nat} {sp : Nat → Bool} {held : Bool}
set_option maxRecDepth 100000 in
theorem pfx_trod {n : Nat} {cs : List Value} {y : DataW H × List MemPlace} (h : DataW.trod enc Tryz.prog W base sp held n 26 cs = some y) :
    ∃ x : Pz, cs = zc x ∧ Wide x.a := by
  obtain ⟨y0, y1, m, rfl, hl, h0, h1⟩ := trod_struct2 Tryz.underlying26 h
  rw [pfxCells] at hl
  match cs, hl with
  | [c0, c1, c2, c3, c4, c5, c6, c7, c8], _ =>
    simp only [pfxCells8, pfxCellsI, List.drop_zero, List.drop_succ_cons, List.take_succ_cons, List.take_zero] at h0 h1
    obtain ⟨b, hb, rfl, wb⟩ := DataW.trod_int Tryz.underlying3 h1
    obtain ⟨xs, m', _, _, _, hxl, hx⟩ := DataW.trod_array Tryz.underlying24 h0
    have key : ∀ (i : Nat) (c : Value), i < 8 → [c0, c1, c2, c3, c4, c5, c6, c7][i]? = some c → ∃ a : Int, c = .int .u16 a ∧ 0 ≤ a ∧ a ≤ 65535 := by
      intro i c hi hc
      have e := hx i hi
      rw [List.getElem?_eq_getElem (by omega), pfxCells1, Nat.mul_one] at e
      obtain ⟨a, ha, _, wa⟩ := DataW.trod_int Tryz.underlying22 e
      have e2 : (([c0, c1, c2, c3, c4, c5, c6, c7].drop i).take 1)[0]? = some c := by
        rw [List.getElem?_take, if_pos (by decide), List.getElem?_drop, Nat.add_zero]
        exact hc
      rw [ha] at e2
      obtain rfl := Option.some.inj e2
      simp only [Lit.wf, Bool.and_eq_true, decide_eq_true_eq] at wa
      exact ⟨a, rfl, wa⟩
    obtain ⟨a0, rfl, r0⟩ := key 0 _ (by decide) rfl
    obtain ⟨a1, rfl, r1⟩ := key 1 _ (by decide) rfl
    obtain ⟨a2, rfl, r2⟩ := key 2 _ (by decide) rfl
    obtain ⟨a3, rfl, r3⟩ := key 3 _ (by decide) rfl
    obtain ⟨a4, rfl, r4⟩ := key 4 _ (by decide) rfl
    obtain ⟨a5, rfl, r5⟩ := key 5 _ (by decide) rfl
    obtain ⟨a6, rfl, r6⟩ := key 6 _ (by decide) rfl
    obtain ⟨a7, rfl, r7⟩ := key 7 _ (by decide) rfl
    obtain rfl := (List.cons.inj hb).1
    have hR : R8 a0 a1 a2 a3 a4 a5 a6 a7 := ⟨r0, r1, r2, r3, r4, r5, r6, r7⟩
    refine ⟨⟨V8 a0 a1 a2 a3 a4 a5 a6 a7, b⟩, ?_, v8_wide hR⟩
    obtain ⟨v, hv⟩ : ∃ v, V8 a0 a1 a2 a3 a4 a5 a6 a7 = v := ⟨_, rfl⟩
    rw [hv]
    obtain ⟨rfl, rfl, rfl, rfl, rfl, rfl, rfl, rfl⟩ := pc_of hR hv
    rfl
set_option maxRecDepth 100000 in
theorem pfx_open {base2 : Nat} {v : Value} {d : DataW H} {ps : List MemPlace} (hval : Value.okWide Tryz.prog W .any base2 26 v) (h : DataW.Trod enc Tryz.prog W base sp held 26 v d ps) :
    ∃ x : Pz, v = .agg (zc x).toArray ∧ Wide x.a := by
  unfold Value.okWide at hval
  rw [Tryz.underlying26] at hval
  obtain ⟨cs, rfl, _⟩ := hval
  obtain ⟨fuel, hf⟩ := h
  obtain ⟨x, hx, hw⟩ := pfx_trod hf
  refine ⟨x, ?_, hw⟩
  have : cs.toList = zc x := by simpa [Value.cells] using hx
  rw [← this]
end
end Go.Proofs.YtcgdjnmfeibnoaaGreatDoor
/-! LaidErr -/
namespace Go.Proofs.YtcgdjnmfeibnoaaGreatDoor
open Go
theorem err_of_head {P : Program} {W : World} {name nm : String} {d : DataW Unit} {rest : List (String × DataW Unit)} {g : Nat} {t : TypeId} {ms : Array (String × TypeId)}
    (hg : P.globalNamed name = some g) (hty : (P.globals[g]?).map (·.type) = some t) (ht : P.underlying t = some (.interface ms))
    (h : laidMet P ((name, .iface nm d) :: rest) W) : ∃ ev, W.cell? ⟨g, 0, none⟩ = some ev ∧ (ev = .nilIface ∨ ∃ te pe, ev = .iface te pe) := by
  obtain ⟨ps, ⟨g', t', cs, fuel, p, q, hg', ht', hvar, hd, _, _⟩, _⟩ := h
  obtain rfl := Option.some.inj (hg.symm.trans hg')
  obtain rfl := Option.some.inj (hty.symm.trans ht')
  obtain ⟨f1, u, v, e, _, _⟩ := iface_of_trod ht hd
  have hc := World.var?_cell hg hvar 0
  obtain ⟨l⟩ := cs
  simp only at e
  subst e
  exact ⟨.iface u v, by simpa using hc, .inr ⟨u, v, rfl⟩⟩
end Go.Proofs.YtcgdjnmfeibnoaaGreatDoor
/-! SixPrefixesCard -/
namespace Go.Proofs.YtcgdjnmfeibnoaaGreatDoor.fnSixPrefixes
open Go.ChangeShapes Go.WideShapes Go.ChangeAt Go.RowKit Go.Proofs.YtcgdjnmfeibnoaaGreatDoor
set_option linter.unusedVariables false
theorem own : ownKnob Tryz.prog.godebug = none := by kernel_rfl
theorem laidOut : laidOutB Tryz.prog = true := by kernel_rfl
theorem pow10_of {W : World} (hL : laidMetH Tryz.prog Rows.sixPrefixesUptoRow.laid W) : Lib.TabIs Tryz.prog W "internal/strconv.uint64pow10" .u64 Lib.pow10Tab := by
  have h1 := laidMetH.filter (fun x => x.1 == "internal/strconv.uint64pow10") hL
  rw [show Rows.sixPrefixesUptoRow.laid.filter (fun x => x.1 == "internal/strconv.uint64pow10") = [("internal/strconv.uint64pow10", Lib.tabData .u64 Lib.pow10Tab)] by kernel_rfl] at h1
  exact Lib.tabIs_of_head (g := 3) (n := 20) (rest := []) (by kernel_rfl) (by kernel_rfl) Tryz.underlying149 Tryz.underlying62 (by kernel_rfl) (by kernel_rfl) h1
theorem gw_of {W : World} (h : W.ShapedOpen Tryz.prog) (hL : laidMetH Tryz.prog Rows.sixPrefixesUptoRow.laid W) : GW W where
  maxLen := Tryz.laysM219.s1_3 W h
theorem e_ErrRange {W : World} (hL : laidMetH Tryz.prog Rows.sixPrefixesUptoRow.laid W) : ∃ ev, W.cell? ⟨2, 0, none⟩ = some ev ∧ (ev = .nilIface ∨ ∃ te pe, ev = .iface te pe) := by
  have h1 := laidMetH.filter (fun x => x.1 == "strconv.ErrRange") hL
  rw [show Rows.sixPrefixesUptoRow.laid.filter (fun x => x.1 == "strconv.ErrRange") = [("strconv.ErrRange", Rows.laid_strconv_ErrRange)] by kernel_rfl, Go.MakeChecks.laidMetH_plain _ _ _ (by kernel_rfl)] at h1
  exact err_of_head (g := 2) (rest := []) (by kernel_rfl) (by kernel_rfl) Tryz.underlying54 h1
theorem e_ErrSyntax {W : World} (hL : laidMetH Tryz.prog Rows.sixPrefixesUptoRow.laid W) : ∃ ev, W.cell? ⟨1, 0, none⟩ = some ev ∧ (ev = .nilIface ∨ ∃ te pe, ev = .iface te pe) := by
  have h1 := laidMetH.filter (fun x => x.1 == "strconv.ErrSyntax") hL
  rw [show Rows.sixPrefixesUptoRow.laid.filter (fun x => x.1 == "strconv.ErrSyntax") = [("strconv.ErrSyntax", Rows.laid_strconv_ErrSyntax)] by kernel_rfl, Go.MakeChecks.laidMetH_plain _ _ _ (by kernel_rfl)] at h1
  exact err_of_head (g := 1) (rest := []) (by kernel_rfl) (by kernel_rfl) Tryz.underlying54 h1
theorem ge_of {W : World} (hL : laidMetH Tryz.prog Rows.sixPrefixesUptoRow.laid W) : GE W := ⟨e_ErrSyntax hL, e_ErrRange hL⟩
theorem gi_of {W : World} (hL : laidMetH Tryz.prog Rows.sixPrefixesUptoRow.laid W) : GI W where
  pow10 := pow10_of hL
set_option maxRecDepth 100000 in
theorem contract (H : Type) (enc : TypeId × Value → H) (W : World) (base : Nat) (args : Array Value) (ds gs : List (DataW H)) (before : List MemPlace)
    (hval : ∀ (j : Nat) t v, Tryz.f3.params[j]? = some t → args[j]? = some v → Value.okWide Tryz.prog W .any base t v)
    (hW : DataW.Whole enc Tryz.prog Tryz.f3.params.toList Rows.sixPrefixesSpec.vars false W args.toList ds gs before) (hk : Rows.uptoSmall H (ds ++ gs) = true) (hL : laidMetH Tryz.prog Rows.sixPrefixesUptoRow.laid W) (hsh : W.ShapedOpen Tryz.prog) :
    Calls Tryz.prog 3 args W fun e W' => ∃ v, e = .returned v ∧ Rows.sixPrefixesSpec.post enc Tryz.prog Tryz.f3 false true false false W args v W' := by
  have hW' := hW
  obtain ⟨p, q, hA0, hV, rfl, hfz, hnd⟩ := hW
  have hA : DataW.TrodAll enc Tryz.prog W 0 (fun _ => true) true Tryz.f3.params.toList args.toList ds p := hA0
  rw [Tryz.params3] at hA hval
  obtain ⟨v0, vs0, d0, ds0, p0, q0, hargs, rfl, rfl, h0, r0⟩ := trodAll_cons hA
  obtain ⟨v1, vs1, d1, ds1, p1, q1, rfl, rfl, rfl, h1, r1⟩ := trodAll_cons r0
  obtain ⟨v2, vs2, d2, ds2, p2, q2, rfl, rfl, rfl, h2, r2⟩ := trodAll_cons r1
  obtain ⟨rfl, rfl, rfl⟩ := trodAll_nil r2
  obtain rfl : args = #[v0, v1, v2] := by cases args; simp_all
  obtain ⟨rfl, rfl⟩ := trodVars_none hV
  obtain ⟨s0, rfl, rfl, rfl, y0⟩ := Go.ChangeMaps.open_string Tryz.underlying9 (hval 0 9 v0 rfl rfl) h0
  obtain ⟨zz1, rfl, hw1⟩ := pfx_open (hval 1 26 v1 rfl rfl) h1
  obtain ⟨x20, x21, x22, x23, x24, x25, x26, x27, rfl, rr2⟩ := six_open (hval 2 24 v2 rfl rfl)
  clear hA0
  have hb : Rows.uptoBulkAll _ ≤ 1048576 := of_decide_eq_true hk
  simp only [Rows.uptoBulkAll, Rows.uptoBulk, List.append_nil] at hb
  have hG := gw_of hsh hL
  have hI := gi_of hL
  have hE := ge_of hL
  refine (prefixes_at s0 (by rw [size_len]; omega) zz1 hw1 x20 x21 x22 x23 x24 x25 x26 x27 rr2 W hG hI hE).mono fun e W' ⟨he, hg⟩ => ?_
  subst he
  exact ⟨_, rfl, law_post (s := Rows.sixPrefixesSpec) (f := Tryz.f3) rfl rfl (tb := 4) rfl Tryz.underlying4 laidOut (by rw [Tryz.params3]; intro t ht; simp at ht; rcases ht with rfl | rfl | rfl <;> exact ⟨by kernel_rfl, of_decide_eq_true (by kernel_rfl)⟩) hW' hg⟩
noncomputable def low : Nat := (World.holding Tryz.prog default ⟨#[], #[], []⟩).heap.size
def accepts : List Nat := [128, 191, 160, 191, 128, 159, 144, 191, 128, 143, 0, 0, 0, 0, 0, 0, 0, 0, 0, 0, 0, 0, 0, 0, 0, 0, 0, 0, 0, 0, 0, 0]
/-- A world for the witness: the settled one, the tables holding what their initialisers lay. -/
noncomputable def laidWorld (os : Os) : World := { World.holding Tryz.prog os ⟨#[.cells #[.string ⟨#[118, 97, 108, 117, 101, 32, 111, 117, 116, 32, 111, 102, 32, 114, 97, 110, 103, 101]⟩] 147, .cells #[.string ⟨#[105, 110, 118, 97, 108, 105, 100, 32, 115, 121, 110, 116, 97, 120]⟩] 147], #[], []⟩ with heap := ((((((((World.holding Tryz.prog os ⟨#[.cells #[.string ⟨#[118, 97, 108, 117, 101, 32, 111, 117, 116, 32, 111, 102, 32, 114, 97, 110, 103, 101]⟩] 147, .cells #[.string ⟨#[105, 110, 118, 97, 108, 105, 100, 32, 115, 121, 110, 116, 97, 120]⟩] 147], #[], []⟩).heap.modify 2 fun | .cells _ t frozen => .cells #[.iface 145 (.pointer (some ⟨low + 0, 0, none⟩))] t frozen | o => o).modify 1 fun | .cells _ t frozen => .cells #[.iface 145 (.pointer (some ⟨low + 1, 0, none⟩))] t frozen | o => o).modify 7 fun | .cells _ t frozen => .cells (accepts.map fun (z : Nat) => Value.int .u8 z).toArray t frozen | o => o).modify 6 fun | .cells _ t frozen => .cells (Go.Pinned.utf8FirstZ.map fun (z : Nat) => Value.int .u8 z).toArray t frozen | o => o).modify 4 fun | .cells _ t frozen => .cells (([0, 1, 28, 2, 29, 14, 24, 3, 30, 22, 20, 15, 25, 17, 4, 8, 31, 27, 13, 23, 21, 19, 16, 7, 26, 12, 18, 6, 11, 5, 10, 9] : List Nat).map fun (z : Nat) => Value.int .u8 z).toArray t frozen | o => o).modify 5 fun | .cells _ t frozen => .cells ((Lib.deBruijn64tab : List Nat).map fun (z : Nat) => Value.int .u8 z).toArray t frozen | o => o).modify 3 fun | .cells _ t frozen => .cells (([1, 10, 100, 1000, 10000, 100000, 1000000, 10000000, 100000000, 1000000000, 10000000000, 100000000000, 1000000000000, 10000000000000, 100000000000000, 1000000000000000, 10000000000000000, 100000000000000000, 1000000000000000000, 10000000000000000000] : List Nat).map fun (z : Nat) => Value.int .u64 z).toArray t frozen | o => o) }
theorem laid_met (os : Os) : laidMet Tryz.prog Rows.sixPrefixesUptoRow.laid ((laidWorld os).forCall (fun _ _ => 0) ⟨#[], #[.string ByteArray.empty, .agg #[.int .u16 0, .int .u16 0, .int .u16 0, .int .u16 0, .int .u16 0, .int .u16 0, .int .u16 0, .int .u16 0, .int .i64 0], .agg #[.int .u16 0, .int .u16 0, .int .u16 0, .int .u16 0, .int .u16 0, .int .u16 0, .int .u16 0, .int .u16 0]], []⟩).memory :=
  laidMet_of_run' 8 (by kernel_rfl) (by kernel_rfl)
theorem reads (os : Os) {H : Type} (enc : TypeId × Value → H) : ∃ places, DataW.whole enc Tryz.prog ((laidWorld os).forCall (fun _ _ => 0) ⟨#[], #[.string ByteArray.empty, .agg #[.int .u16 0, .int .u16 0, .int .u16 0, .int .u16 0, .int .u16 0, .int .u16 0, .int .u16 0, .int .u16 0, .int .i64 0], .agg #[.int .u16 0, .int .u16 0, .int .u16 0, .int .u16 0, .int .u16 0, .int .u16 0, .int .u16 0, .int .u16 0]], []⟩).memory Tryz.f3.params.toList Rows.sixPrefixesSpec.vars false (#[.string ByteArray.empty, .agg #[.int .u16 0, .int .u16 0, .int .u16 0, .int .u16 0, .int .u16 0, .int .u16 0, .int .u16 0, .int .u16 0, .int .i64 0], .agg #[.int .u16 0, .int .u16 0, .int .u16 0, .int .u16 0, .int .u16 0, .int .u16 0, .int .u16 0, .int .u16 0]] : Array Value).toList 8 = some ([.lit (.string []), .agg [.agg [.lit (.int .u16 0), .lit (.int .u16 0), .lit (.int .u16 0), .lit (.int .u16 0), .lit (.int .u16 0), .lit (.int .u16 0), .lit (.int .u16 0), .lit (.int .u16 0)], .lit (.int .i64 0)], .agg [.lit (.int .u16 0), .lit (.int .u16 0), .lit (.int .u16 0), .lit (.int .u16 0), .lit (.int .u16 0), .lit (.int .u16 0), .lit (.int .u16 0), .lit (.int .u16 0)]], [], places) :=
  ⟨[], by kernel_rfl⟩
set_option maxRecDepth 100000 in
theorem lifted (os : Os) (started : os.Started) (H : Type) (enc : TypeId × Value → H) (F : Stop.Interp) :
    ReturnsInHanded {} Tryz.checked os 3 .any ((Rows.OpenSpec.upto Rows.sixPrefixesSpec).preRow enc Tryz.prog Tryz.f3 Rows.sixPrefixesUptoRow.domain false Rows.sixPrefixesUptoRow.laid) (((Rows.OpenSpec.upto Rows.sixPrefixesSpec).at F).post enc Tryz.prog Tryz.f3 false true false false) := by
  obtain ⟨places, hx⟩ := reads os enc
  refine returnsInHanded_of_row (C := Tryz.checked) (s := Rows.OpenSpec.upto Rows.sixPrefixesSpec) own started (by kernel_rfl) Tryz.func3
    (witness_row_at (enc := enc) (C := Tryz.checked) false (laidWorld os) #[.string ByteArray.empty, .agg #[.int .u16 0, .int .u16 0, .int .u16 0, .int .u16 0, .int .u16 0, .int .u16 0, .int .u16 0, .int .u16 0, .int .i64 0], .agg #[.int .u16 0, .int .u16 0, .int .u16 0, .int .u16 0, .int .u16 0, .int .u16 0, .int .u16 0, .int .u16 0]] rfl (by kernel_rfl) (by kernel_rfl) (by kernel_rfl)
      (OpenSpec.preRow_of_cond 8 hx (by kernel_rfl) (fun k hk => by cases hk; kernel_rfl) (by kernel_rfl) (laid_met os))) ?_
  intro W base args ds gs before hval hW _ hcond _ hL hsh _
  exact contract H enc W base args ds gs before hval hW (hcond _ rfl) hL hsh
theorem said : Rows.SixPrefixesUptoSaid :=
  OpenClaim.holds_of_cond 3 Tryz.f3 rfl rfl rfl rfl rfl rfl rfl ⟨rfl, rfl, rfl, rfl, rfl⟩ rfl rfl rfl rfl rfl (by kernel_rfl) Tryz.func3 (by kernel_rfl)
    (of_decide_eq_true (by kernel_rfl)) (by unfold Func.isWrapper; first | (rw [if_pos (by decide +kernel)]; kernel_rfl) | (rw [if_neg (by decide +kernel)]; exact ⟨rfl, rfl⟩))
    (fun os started H enc _ F => by rw [OpenClaim.pre_eq_preRow]; exact lifted os started H enc F)
/-- No parameter wants a stand-in; the program's own looks are off. -/
theorem plain (f : FuncId) (fn : Func) (hf : Tryz.pinned.checked.prog.funcNamed "postern/posternlaw21.SixPrefixes" = some f) (hfn : Tryz.pinned.checked.prog.funcs[f]? = some fn) :
    true = Tryz.pinned.checked.prog.looks [] ∧ ∀ (j : Nat) t, fn.params[j]? = some t → Tryz.pinned.checked.prog.wantsStandIn t = false := by
  obtain rfl : f = 3 := Option.some.inj ((show Tryz.prog.funcNamed "postern/posternlaw21.SixPrefixes" = some 3 by kernel_rfl).symm.trans hf) |>.symm
  obtain rfl : fn = Tryz.f3 := (Option.some.inj (Tryz.func3.symm.trans hfn)).symm
  refine ⟨by kernel_rfl, fun j t ht => ?_⟩
  rw [Tryz.params3] at ht
  have hm := Array.mem_of_getElem? ht
  simp at hm
  rcases hm with rfl | rfl | rfl
  · exact (show Tryz.prog.wantsStandIn 9 = false by kernel_rfl)
  · exact (show Tryz.prog.wantsStandIn 26 = false by kernel_rfl)
  · exact (show Tryz.prog.wantsStandIn 24 = false by kernel_rfl)
theorem card : Rows.SixPrefixesUptoCardSaid :=
  Claim7.holds_tied_plain_at .later [] _ _ _ _ said (fun _ h => by cases h) (by kernel_rfl) (fun _ h => by cases h) sixPrefixesUpto_row_tie rfl ⟨rfl, rfl⟩ (by kernel_rfl) rfl plain (by kernel_rfl)
#print axioms card
end Go.Proofs.YtcgdjnmfeibnoaaGreatDoor.fnSixPrefixes
