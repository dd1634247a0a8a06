/- SixParts: the walk of the law. -/
import Derived.Test.YtcgdjnmfeibnoaaSixAll
import Derived.Test.YtcgdjnmfeibnoaaSixCmp
import Derived.Test.YtcgdjnmfeibnoaaSixRefCmp
import Derived.Test.YtcgdjnmfeibnoaaSixFour
import Derived.Test.YtcgdjnmfeibnoaaSixPrint
import Derived.Deep.DeepCutAuto
import Derived.Lib.Hide
namespace Go.Proofs.Ytcgdjnmfeibnoaa
open Go.RowKit
set_option linter.unusedVariables false
set_option linter.unusedSimpArgs false

@[go_sem] theorem eq8_arr (x0 x1 x2 x3 x4 x5 x6 x7 y0 y1 y2 y3 y4 y5 y6 y7 : Int) (w : World) :
    (Op.equalIn 10000 23 (A8 x0 x1 x2 x3 x4 x5 x6 x7) (A8 y0 y1 y2 y3 y4 y5 y6 y7)).run Try.prog w = .ok (x0 == y0 && (x1 == y1 && (x2 == y2 && (x3 == y3 && (x4 == y4 && (x5 == y5 && (x6 == y6 && x7 == y7))))))) w := by
  obtain ⟨i, hi, _⟩ := info_parts (show (Try.prog.info? 22).map (fun i => (i.zero, i.size, i.bytes)) = some (some (.int .u16 0), 1, 2) by kernel_rfl)
  exact run_eq8 Try.underlying23 hi Try.underlying22 (by kernel_rfl) ..

theorem keep2 {w W : World} {b : Nat} {x0 x1 x2 x3 x4 x5 x6 x7 : Int} (h : C8 w b x0 x1 x2 x3 x4 x5 x6 x7) (hb : b < w.heap.size) (hB : Below w.heap.size w W) : C8 W b x0 x1 x2 x3 x4 x5 x6 x7 ∧ b < W.heap.size :=
  ⟨C8_keep h hb hB, Nat.lt_of_lt_of_le hb hB.size⟩
theorem alloc_new8 (w : World) (x0 x1 x2 x3 x4 x5 x6 x7 : Int) (t : TypeId) {W : World} (hW : W = w.alloc (.cells #[.int .u16 x0, .int .u16 x1, .int .u16 x2, .int .u16 x3, .int .u16 x4, .int .u16 x5, .int .u16 x6, .int .u16 x7] t)) :
    C8 W w.heap.size x0 x1 x2 x3 x4 x5 x6 x7 ∧ w.heap.size < W.heap.size ∧ Below w.heap.size w W := by
  subst hW
  exact ⟨⟨by go_simp, by go_simp, by go_simp, by go_simp, by go_simp, by go_simp, by go_simp, by go_simp⟩, by simp only [World.size_alloc]; omega, (Below.refl _ _).alloc (Nat.le_refl _) _⟩

theorem maskE_else {n : Int} (h : ¬ maskE n = 0) : maskE n = 211 := by
  unfold maskE at h ⊢
  split
  · rename_i h1; exact absurd (if_pos h1) h
  · rfl

/-- The boxes ahead of the calls. -/
def PQ (w : World) (a0 a1 a2 a3 a4 a5 a6 a7 b0 b1 b2 b3 b4 b5 b6 b7 : Int) (s t : Value) (W : World) : Prop :=
  ∃ bp bq : Nat, s = .pointer (some ⟨bp, 0, none⟩) ∧ t = .pointer (some ⟨bq, 0, none⟩) ∧ w.heap.size < W.heap.size ∧ w.heap.size + 1 < W.heap.size ∧ bp < W.heap.size ∧ bq < W.heap.size ∧
    C8 W w.heap.size a0 a1 a2 a3 a4 a5 a6 a7 ∧ C8 W (w.heap.size + 1) b0 b1 b2 b3 b4 b5 b6 b7 ∧ C8 W bp a0 a1 a2 a3 a4 a5 a6 a7 ∧ C8 W bq b0 b1 b2 b3 b4 b5 b6 b7 ∧ Below w.heap.size w W
theorem pq_of {w W : World} {a0 a1 a2 a3 a4 a5 a6 a7 b0 b1 b2 b3 b4 b5 b6 b7 : Int} (bp bq : Nat) (l0 : w.heap.size < W.heap.size) (l1 : w.heap.size + 1 < W.heap.size) (l2 : bp < W.heap.size) (l3 : bq < W.heap.size)
    (k0 : C8 W w.heap.size a0 a1 a2 a3 a4 a5 a6 a7) (k1 : C8 W (w.heap.size + 1) b0 b1 b2 b3 b4 b5 b6 b7) (k2 : C8 W bp a0 a1 a2 a3 a4 a5 a6 a7) (k3 : C8 W bq b0 b1 b2 b3 b4 b5 b6 b7) (hb : Below w.heap.size w W) :
    PQ w a0 a1 a2 a3 a4 a5 a6 a7 b0 b1 b2 b3 b4 b5 b6 b7 (.pointer (some ⟨bp, 0, none⟩)) (.pointer (some ⟨bq, 0, none⟩)) W :=
  ⟨bp, bq, rfl, rfl, l0, l1, l2, l3, k0, k1, k2, k3, hb⟩
set_option maxHeartbeats 8000000 in
set_option maxRecDepth 100000 in
theorem parts_walk (a0 a1 a2 a3 a4 a5 a6 a7 b0 b1 b2 b3 b4 b5 b6 b7 n : Int) (ha : R8 a0 a1 a2 a3 a4 a5 a6 a7) (hb : R8 b0 b1 b2 b3 b4 b5 b6 b7) (w : World) :
    Calls Try.prog 4 #[A8 a0 a1 a2 a3 a4 a5 a6 a7, A8 b0 b1 b2 b3 b4 b5 b6 b7, .int .i64 n] w fun e w' => e = .returned (.bool true) ∧ Below w.heap.size w w' := by
  go_enter Try.func4, Try.ntmps4
  go_upto_region 1 with fail
  go_cut [7, 8] (fun s t W => PQ w a0 a1 a2 a3 a4 a5 a6 a7 b0 b1 b2 b3 b4 b5 b6 b7 s t W)
  case first =>
    go_region
    all_goals go_wp2_with fail
    all_goals go_meet
    · exact pq_of _ _ (by go_size) (by go_size) (by go_size) (by go_size) (by exact ⟨by go_simp, by go_simp, by go_simp, by go_simp, by go_simp, by go_simp, by go_simp, by go_simp⟩) (by exact ⟨by go_simp, by go_simp, by go_simp, by go_simp, by go_simp, by go_simp, by go_simp, by go_simp⟩) (by exact ⟨by go_simp, by go_simp, by go_simp, by go_simp, by go_simp, by go_simp, by go_simp, by go_simp⟩) (by exact ⟨by go_simp, by go_simp, by go_simp, by go_simp, by go_simp, by go_simp, by go_simp, by go_simp⟩) (by go_grown)
    · exact pq_of _ _ (by go_size) (by go_size) (by go_size) (by go_size) (by exact ⟨by go_simp, by go_simp, by go_simp, by go_simp, by go_simp, by go_simp, by go_simp, by go_simp⟩) (by exact ⟨by go_simp, by go_simp, by go_simp, by go_simp, by go_simp, by go_simp, by go_simp, by go_simp⟩) (by exact ⟨by go_simp, by go_simp, by go_simp, by go_simp, by go_simp, by go_simp, by go_simp, by go_simp⟩) (by exact ⟨by go_simp, by go_simp, by go_simp, by go_simp, by go_simp, by go_simp, by go_simp, by go_simp⟩) (by go_grown)
  case rest =>
  obtain ⟨bp, bq, rfl, rfl, la, lb, lp, lq, Ka, Kb, Kp, Kq, BB⟩ := hcut
  go_wp2_with fail
  refine (mask_all _ _ _ _ _ _ _ _ ha n _).mono ?_
  rintro e v1 ⟨x0, x1, x2, x3, x4, x5, x6, x7, rfl, rx, hvx, hcall⟩
  have T := keep2 Ka la hcall
  clear Ka la
  obtain ⟨Ka, la⟩ := T
  have T := keep2 Kb lb hcall
  clear Kb lb
  obtain ⟨Kb, lb⟩ := T
  have T := keep2 Kp lp hcall
  clear Kp lp
  obtain ⟨Kp, lp⟩ := T
  have T := keep2 Kq lq hcall
  clear Kq lq
  obtain ⟨Kq, lq⟩ := T
  replace BB := chain BB hcall
  clear hcall
  go_wp2_with fail
  obtain ⟨W1, hW⟩ : ∃ W1, W1 = v1.alloc (.cells #[.int .u16 x0, .int .u16 x1, .int .u16 x2, .int .u16 x3, .int .u16 x4, .int .u16 x5, .int .u16 x6, .int .u16 x7] 24) := ⟨_, rfl⟩
  rw [← hW]
  obtain ⟨Kx, lx, hal⟩ := alloc_new8 _ _ _ _ _ _ _ _ _ _ hW
  clear hW
  have T := keep2 Ka la hal
  clear Ka la
  obtain ⟨Ka, la⟩ := T
  have T := keep2 Kb lb hal
  clear Kb lb
  obtain ⟨Kb, lb⟩ := T
  have T := keep2 Kp lp hal
  clear Kp lp
  obtain ⟨Kp, lp⟩ := T
  have T := keep2 Kq lq hal
  clear Kq lq
  obtain ⟨Kq, lq⟩ := T
  replace BB := chain BB hal
  clear hal
  refine (refMask_all _ _ _ _ _ _ _ _ ha n _).mono ?_
  rintro e v2 ⟨y0, y1, y2, y3, y4, y5, y6, y7, rfl, ry, hvy, hcall⟩
  have T := keep2 Ka la hcall
  clear Ka la
  obtain ⟨Ka, la⟩ := T
  have T := keep2 Kb lb hcall
  clear Kb lb
  obtain ⟨Kb, lb⟩ := T
  have T := keep2 Kp lp hcall
  clear Kp lp
  obtain ⟨Kp, lp⟩ := T
  have T := keep2 Kq lq hcall
  clear Kq lq
  obtain ⟨Kq, lq⟩ := T
  have T := keep2 Kx lx hcall
  clear Kx lx
  obtain ⟨Kx, lx⟩ := T
  replace BB := chain BB hcall
  clear hcall
  obtain ⟨rfl, rfl, rfl, rfl, rfl, rfl, rfl, rfl⟩ := V8_inj rx ry (by rw [hvx, hvy])
  clear ry hvy
  go_wp2_with fail
  obtain ⟨W2, hW⟩ : ∃ W2, W2 = v2.alloc (.cells #[.int .u16 x0, .int .u16 x1, .int .u16 x2, .int .u16 x3, .int .u16 x4, .int .u16 x5, .int .u16 x6, .int .u16 x7] 35) := ⟨_, rfl⟩
  rw [← hW]
  obtain ⟨Ky, ly, hal⟩ := alloc_new8 _ _ _ _ _ _ _ _ _ _ hW
  clear hW
  have T := keep2 Ka la hal
  clear Ka la
  obtain ⟨Ka, la⟩ := T
  have T := keep2 Kb lb hal
  clear Kb lb
  obtain ⟨Kb, lb⟩ := T
  have T := keep2 Kp lp hal
  clear Kp lp
  obtain ⟨Kp, lp⟩ := T
  have T := keep2 Kq lq hal
  clear Kq lq
  obtain ⟨Kq, lq⟩ := T
  have T := keep2 Kx lx hal
  clear Kx lx
  obtain ⟨Kx, lx⟩ := T
  replace BB := chain BB hal
  clear hal
  refine (refMask_all _ _ _ _ _ _ _ _ hb n _).mono ?_
  rintro e v3 ⟨z0, z1, z2, z3, z4, z5, z6, z7, rfl, rz, hvz, hcall⟩
  have T := keep2 Ka la hcall
  clear Ka la
  obtain ⟨Ka, la⟩ := T
  have T := keep2 Kb lb hcall
  clear Kb lb
  obtain ⟨Kb, lb⟩ := T
  have T := keep2 Kp lp hcall
  clear Kp lp
  obtain ⟨Kp, lp⟩ := T
  have T := keep2 Kq lq hcall
  clear Kq lq
  obtain ⟨Kq, lq⟩ := T
  have T := keep2 Kx lx hcall
  clear Kx lx
  obtain ⟨Kx, lx⟩ := T
  have T := keep2 Ky ly hcall
  clear Ky ly
  obtain ⟨Ky, ly⟩ := T
  replace BB := chain BB hcall
  clear hcall
  go_wp2_with fail
  obtain ⟨W3, hW⟩ : ∃ W3, W3 = v3.alloc (.cells #[.int .u16 z0, .int .u16 z1, .int .u16 z2, .int .u16 z3, .int .u16 z4, .int .u16 z5, .int .u16 z6, .int .u16 z7] 35) := ⟨_, rfl⟩
  rw [← hW]
  obtain ⟨Kz, lz, hal⟩ := alloc_new8 _ _ _ _ _ _ _ _ _ _ hW
  clear hW
  have T := keep2 Ka la hal
  clear Ka la
  obtain ⟨Ka, la⟩ := T
  have T := keep2 Kb lb hal
  clear Kb lb
  obtain ⟨Kb, lb⟩ := T
  have T := keep2 Kp lp hal
  clear Kp lp
  obtain ⟨Kp, lp⟩ := T
  have T := keep2 Kq lq hal
  clear Kq lq
  obtain ⟨Kq, lq⟩ := T
  have T := keep2 Kx lx hal
  clear Kx lx
  obtain ⟨Kx, lx⟩ := T
  have T := keep2 Ky ly hal
  clear Ky ly
  obtain ⟨Ky, ly⟩ := T
  replace BB := chain BB hal
  clear hal
  refine (within_all _ _ _ _ _ _ _ _ _ _ _ _ _ _ _ _ ha hb rx rz n hvx hvz _).mono ?_
  rintro e v4 ⟨rfl, hcall⟩
  have T := keep2 Ka la hcall
  clear Ka la
  obtain ⟨Ka, la⟩ := T
  have T := keep2 Kb lb hcall
  clear Kb lb
  obtain ⟨Kb, lb⟩ := T
  have T := keep2 Kp lp hcall
  clear Kp lp
  obtain ⟨Kp, lp⟩ := T
  have T := keep2 Kq lq hcall
  clear Kq lq
  obtain ⟨Kq, lq⟩ := T
  have T := keep2 Kx lx hcall
  clear Kx lx
  obtain ⟨Kx, lx⟩ := T
  have T := keep2 Ky ly hcall
  clear Ky ly
  obtain ⟨Ky, ly⟩ := T
  have T := keep2 Kz lz hcall
  clear Kz lz
  obtain ⟨Kz, lz⟩ := T
  replace BB := chain BB hcall
  clear hcall
  clear hvx hvz
  go_wp2_with fail
  refine (next_walk _ _ _ _ _ _ _ _ ha _).mono ?_
  rintro e v5 ⟨n0, n1, n2, n3, n4, n5, n6, n7, ok, rfl, rn, hok, hno, hcall⟩
  have T := keep2 Ka la hcall
  clear Ka la
  obtain ⟨Ka, la⟩ := T
  have T := keep2 Kb lb hcall
  clear Kb lb
  obtain ⟨Kb, lb⟩ := T
  have T := keep2 Kp lp hcall
  clear Kp lp
  obtain ⟨Kp, lp⟩ := T
  have T := keep2 Kq lq hcall
  clear Kq lq
  obtain ⟨Kq, lq⟩ := T
  have T := keep2 Kx lx hcall
  clear Kx lx
  obtain ⟨Kx, lx⟩ := T
  have T := keep2 Ky ly hcall
  clear Ky ly
  obtain ⟨Ky, ly⟩ := T
  have T := keep2 Kz lz hcall
  clear Kz lz
  obtain ⟨Kz, lz⟩ := T
  replace BB := chain BB hcall
  clear hcall
  go_wp2_with fail
  obtain ⟨W5, hW⟩ : ∃ W5, W5 = v5.alloc (.cells #[.int .u16 n0, .int .u16 n1, .int .u16 n2, .int .u16 n3, .int .u16 n4, .int .u16 n5, .int .u16 n6, .int .u16 n7] 24) := ⟨_, rfl⟩
  rw [← hW]
  obtain ⟨Kn, ln, hal⟩ := alloc_new8 _ _ _ _ _ _ _ _ _ _ hW
  clear hW
  have T := keep2 Ka la hal
  clear Ka la
  obtain ⟨Ka, la⟩ := T
  have T := keep2 Kb lb hal
  clear Kb lb
  obtain ⟨Kb, lb⟩ := T
  have T := keep2 Kp lp hal
  clear Kp lp
  obtain ⟨Kp, lp⟩ := T
  have T := keep2 Kq lq hal
  clear Kq lq
  obtain ⟨Kq, lq⟩ := T
  have T := keep2 Kx lx hal
  clear Kx lx
  obtain ⟨Kx, lx⟩ := T
  have T := keep2 Ky ly hal
  clear Ky ly
  obtain ⟨Ky, ly⟩ := T
  have T := keep2 Kz lz hal
  clear Kz lz
  obtain ⟨Kz, lz⟩ := T
  replace BB := chain BB hal
  clear hal
  refine (refNext_walk _ _ _ _ _ _ _ _ ha _).mono ?_
  rintro e v6 ⟨m0, m1, m2, m3, m4, m5, m6, m7, is, rfl, rm, his, hns, hcall⟩
  have T := keep2 Ka la hcall
  clear Ka la
  obtain ⟨Ka, la⟩ := T
  have T := keep2 Kb lb hcall
  clear Kb lb
  obtain ⟨Kb, lb⟩ := T
  have T := keep2 Kp lp hcall
  clear Kp lp
  obtain ⟨Kp, lp⟩ := T
  have T := keep2 Kq lq hcall
  clear Kq lq
  obtain ⟨Kq, lq⟩ := T
  have T := keep2 Kx lx hcall
  clear Kx lx
  obtain ⟨Kx, lx⟩ := T
  have T := keep2 Ky ly hcall
  clear Ky ly
  obtain ⟨Ky, ly⟩ := T
  have T := keep2 Kz lz hcall
  clear Kz lz
  obtain ⟨Kz, lz⟩ := T
  have T := keep2 Kn ln hcall
  clear Kn ln
  obtain ⟨Kn, ln⟩ := T
  replace BB := chain BB hcall
  clear hcall
  obtain ⟨rfl, rfl, rfl, rfl, rfl, rfl, rfl, rfl, rfl⟩ := next_same rn rm hok hno his hns
  clear hok hno his hns rm
  go_wp2_with fail
  obtain ⟨W6, hW⟩ : ∃ W6, W6 = v6.alloc (.cells #[.int .u16 n0, .int .u16 n1, .int .u16 n2, .int .u16 n3, .int .u16 n4, .int .u16 n5, .int .u16 n6, .int .u16 n7] 35) := ⟨_, rfl⟩
  rw [← hW]
  obtain ⟨Km, lm, hal⟩ := alloc_new8 _ _ _ _ _ _ _ _ _ _ hW
  clear hW
  have T := keep2 Ka la hal
  clear Ka la
  obtain ⟨Ka, la⟩ := T
  have T := keep2 Kb lb hal
  clear Kb lb
  obtain ⟨Kb, lb⟩ := T
  have T := keep2 Kp lp hal
  clear Kp lp
  obtain ⟨Kp, lp⟩ := T
  have T := keep2 Kq lq hal
  clear Kq lq
  obtain ⟨Kq, lq⟩ := T
  have T := keep2 Kx lx hal
  clear Kx lx
  obtain ⟨Kx, lx⟩ := T
  have T := keep2 Ky ly hal
  clear Ky ly
  obtain ⟨Ky, ly⟩ := T
  have T := keep2 Kz lz hal
  clear Kz lz
  obtain ⟨Kz, lz⟩ := T
  have T := keep2 Kn ln hal
  clear Kn ln
  obtain ⟨Kn, ln⟩ := T
  replace BB := chain BB hal
  clear hal
  refine (four_walk _ _ _ _ _ _ _ _ ha _).mono ?_
  rintro e v7 ⟨rfl, hcall⟩
  have T := keep2 Ka la hcall
  clear Ka la
  obtain ⟨Ka, la⟩ := T
  have T := keep2 Kb lb hcall
  clear Kb lb
  obtain ⟨Kb, lb⟩ := T
  have T := keep2 Kp lp hcall
  clear Kp lp
  obtain ⟨Kp, lp⟩ := T
  have T := keep2 Kq lq hcall
  clear Kq lq
  obtain ⟨Kq, lq⟩ := T
  have T := keep2 Kx lx hcall
  clear Kx lx
  obtain ⟨Kx, lx⟩ := T
  have T := keep2 Ky ly hcall
  clear Ky ly
  obtain ⟨Ky, ly⟩ := T
  have T := keep2 Kz lz hcall
  clear Kz lz
  obtain ⟨Kz, lz⟩ := T
  have T := keep2 Kn ln hcall
  clear Kn ln
  obtain ⟨Kn, ln⟩ := T
  have T := keep2 Km lm hcall
  clear Km lm
  obtain ⟨Km, lm⟩ := T
  replace BB := chain BB hcall
  clear hcall
  generalize hfv : (if isFour a0 a1 a2 a3 a4 a5 = true then a6 * 65536 + a7 else 0) = fv
  have HF := Lib.hid hfv
  clear hfv
  go_wp2_with fail
  refine (refFour_walk _ _ _ _ _ _ _ _ ha _).mono ?_
  rintro e v8 ⟨rfl, hcall⟩
  have T := keep2 Ka la hcall
  clear Ka la
  obtain ⟨Ka, la⟩ := T
  have T := keep2 Kb lb hcall
  clear Kb lb
  obtain ⟨Kb, lb⟩ := T
  have T := keep2 Kp lp hcall
  clear Kp lp
  obtain ⟨Kp, lp⟩ := T
  have T := keep2 Kq lq hcall
  clear Kq lq
  obtain ⟨Kq, lq⟩ := T
  have T := keep2 Kx lx hcall
  clear Kx lx
  obtain ⟨Kx, lx⟩ := T
  have T := keep2 Ky ly hcall
  clear Ky ly
  obtain ⟨Ky, ly⟩ := T
  have T := keep2 Kz lz hcall
  clear Kz lz
  obtain ⟨Kz, lz⟩ := T
  have T := keep2 Kn ln hcall
  clear Kn ln
  obtain ⟨Kn, ln⟩ := T
  have T := keep2 Km lm hcall
  clear Km lm
  obtain ⟨Km, lm⟩ := T
  replace BB := chain BB hcall
  clear hcall
  cases hF : isFour a0 a1 a2 a3 a4 a5
  · obtain rfl : fv = 0 := by rw [← HF.out, hF]; rfl
    clear HF hF
    go_wp2_with fail
    rw [or16 a0 b7 ha.h0.1 ha.h0.2 hb.h7.1 hb.h7.2]
    obtain ⟨u0, u1⟩ := six_ok ha.h0 hb.h7
    generalize a0 * 65536 + b7 = u at *
    by_cases hE : maskE n = 0
    · rw [hE]
      clear hE
      refine wp_region_ext (by kernel_rfl) (by kernel_rfl) ?_
      repeat (go_big_quiet_step (first | (with_reducible exact ext_of (awake_walk _)) | (with_reducible exact ext_of (compare_walk _ _ _ _ _ _ _ _ _ _ _ _ _ _ _ _ ha hb _)) | (with_reducible exact ext_of (refCompare_walk _ _ _ _ _ _ _ _ _ _ _ _ _ _ _ _ ha hb _)) | (with_reducible exact ext_of (fromFour_walk _ u0 u1 _)) | (with_reducible exact ext_of (refFromFour_walk _ u0 u1 _))))
      refine wpQuiet_nil ?_
      rintro _ ⟨⟨w2, hb2⟩, rfl⟩
      go_wp2_with fail
      go_returns
      exact ⟨rfl, chain BB hb2⟩
    · rw [maskE_else hE]
      clear hE
      refine wp_region_ext (by kernel_rfl) (by kernel_rfl) ?_
      repeat (go_big_quiet_step (first | (with_reducible exact ext_of (awake_walk _)) | (with_reducible exact ext_of (compare_walk _ _ _ _ _ _ _ _ _ _ _ _ _ _ _ _ ha hb _)) | (with_reducible exact ext_of (refCompare_walk _ _ _ _ _ _ _ _ _ _ _ _ _ _ _ _ ha hb _)) | (with_reducible exact ext_of (fromFour_walk _ u0 u1 _)) | (with_reducible exact ext_of (refFromFour_walk _ u0 u1 _))))
      refine wpQuiet_nil ?_
      rintro _ ⟨⟨w2, hb2⟩, rfl⟩
      go_wp2_with fail
      go_returns
      exact ⟨rfl, chain BB hb2⟩
  · obtain rfl : fv = a6 * 65536 + a7 := by rw [← HF.out, hF]; rfl
    clear HF hF
    go_wp2_with fail
    rw [or16 a0 b7 ha.h0.1 ha.h0.2 hb.h7.1 hb.h7.2]
    obtain ⟨u0, u1⟩ := six_ok ha.h0 hb.h7
    generalize a0 * 65536 + b7 = u at *
    by_cases hE : maskE n = 0
    · rw [hE]
      clear hE
      refine wp_region_ext (by kernel_rfl) (by kernel_rfl) ?_
      repeat (go_big_quiet_step (first | (with_reducible exact ext_of (awake_walk _)) | (with_reducible exact ext_of (compare_walk _ _ _ _ _ _ _ _ _ _ _ _ _ _ _ _ ha hb _)) | (with_reducible exact ext_of (refCompare_walk _ _ _ _ _ _ _ _ _ _ _ _ _ _ _ _ ha hb _)) | (with_reducible exact ext_of (fromFour_walk _ u0 u1 _)) | (with_reducible exact ext_of (refFromFour_walk _ u0 u1 _))))
      refine wpQuiet_nil ?_
      rintro _ ⟨⟨w2, hb2⟩, rfl⟩
      go_wp2_with fail
      go_returns
      exact ⟨rfl, chain BB hb2⟩
    · rw [maskE_else hE]
      clear hE
      refine wp_region_ext (by kernel_rfl) (by kernel_rfl) ?_
      repeat (go_big_quiet_step (first | (with_reducible exact ext_of (awake_walk _)) | (with_reducible exact ext_of (compare_walk _ _ _ _ _ _ _ _ _ _ _ _ _ _ _ _ ha hb _)) | (with_reducible exact ext_of (refCompare_walk _ _ _ _ _ _ _ _ _ _ _ _ _ _ _ _ ha hb _)) | (with_reducible exact ext_of (fromFour_walk _ u0 u1 _)) | (with_reducible exact ext_of (refFromFour_walk _ u0 u1 _))))
      refine wpQuiet_nil ?_
      rintro _ ⟨⟨w2, hb2⟩, rfl⟩
      go_wp2_with fail
      go_returns
      exact ⟨rfl, chain BB hb2⟩
end Go.Proofs.Ytcgdjnmfeibnoaa
