/- FourKinds, plainly. -/
import Derived.Test.YtgnahagnmodpdaaDoorFourRefPrint
import Derived.Test.YtgnahagnmodpdaaDoorFourP2
import Derived.Test.YtgnahagnmodpdaaDoorX11
namespace Go.Proofs.YtgnahagnmodpdaaDoor
open Go.RowKit Go.Proofs.YtgnahagnmodpdaaDoorW.PrintWords Go.Proofs.YtgnahagnmodpdaaDoor.X Go.IntWalk
set_option linter.unusedVariables false
set_option linter.unusedSimpArgs false

theorem kind_step (n : Int) (n0 : 0 ≤ n) (n1 : n ≤ 4294967295) (L : List S84) (len : Int) (i : Nat) (hi : (i : Int) < len) (hl : len = (L.length : Int)) (hL : L.length ≤ 100) (r kind f b : Int) (hx : rd_T84 L (i : Int) = (⟨kind, ⟨f, b⟩⟩ : S84)) (h : Ev (fun k => four_Kind.l0 k n L len ((i + 1 : Nat) : Int)) r) (f0 : 0 ≤ f) (f1 : f ≤ 4294967295) (hf : isV f b = true) :
    Ev (fun k => four_Kind.l0 k n L len (i : Int)) (if n / sizeV b * sizeV b = f then kind else r) := by
  have key : ∀ k, four_Kind.l0 (k + 1) n L len (i : Int) = if (n / sizeV b * sizeV b == f) = true then some kind else four_Kind.l0 k n L len ((i + 1 : Nat) : Int) := by
    intro k
    simp only [four_Kind.l0]
    rw [if_pos (by omega), if_pos (by omega), if_pos (by omega), hx]
    simp only
    rw [within_f f b n f0 f1 n0 n1]
    unfold withinV
    rw [hf, Bool.true_and, wrap64_in ((i : Int) + 1) (by omega)]
    rfl
  by_cases hm : n / sizeV b * sizeV b = f
  · rw [if_pos hm]
    refine Ev.step (f := fun k => some kind) (fun k => ?_) (Ev.now _)
    rw [key, if_pos (by rw [hm]; exact beq_self_eq_true f)]
  · rw [if_neg hm]
    refine Ev.step (fun k => ?_) h
    rw [key, if_neg (by rw [beq_iff_eq]; exact hm)]
/-- What kind of address it is. -/
def kindV (n : Int) : Int := if n = 0 then 1 else if n = 4294967295 then 8 else if n / 16777216 = 10 then 2 else if n / 1048576 = 2753 then 2 else if n / 65536 = 49320 then 2 else if n / 16777216 = 127 then 3 else if n / 65536 = 43518 then 4 else if n / 4194304 = 401 then 7 else if n / 256 = 12582914 then 6 else if n / 256 = 12989284 then 6 else if n / 256 = 13303921 then 6 else if n / 268435456 = 14 then 5 else 0
theorem sizes : sizeV 32 = 1 ∧ sizeV 8 = 16777216 ∧ sizeV 12 = 1048576 ∧ sizeV 16 = 65536 ∧ sizeV 10 = 4194304 ∧ sizeV 24 = 256 ∧ sizeV 4 = 268435456 := by decide
theorem four_kind (n : Int) (n0 : 0 ≤ n) (n1 : n ≤ 4294967295) : Ev (fun k => four_Kind.f k n) (kindV n) := by
  obtain ⟨L, hL⟩ : ∃ L, four_kinds.f = some L := ⟨_, rfl⟩
  have hl : L.length = 12 := by cases hL; rfl
  have hend : Ev (fun k => four_Kind.l0 k n L 12 ((11 + 1 : Nat) : Int)) 0 := by
    refine Ev.step (f := fun k => some 0) (fun k => ?_) (Ev.now _)
    simp only [four_Kind.l0]
    rw [if_neg (by decide)]
  have h11 := kind_step n n0 n1 L 12 11 (by decide) (by omega) (by omega) _ 5 3758096384 4 (by cases hL; rfl) hend (by decide) (by decide) (by decide)
  have h10 := kind_step n n0 n1 L 12 10 (by decide) (by omega) (by omega) _ 6 3405803776 24 (by cases hL; rfl) h11 (by decide) (by decide) (by decide)
  have h9 := kind_step n n0 n1 L 12 9 (by decide) (by omega) (by omega) _ 6 3325256704 24 (by cases hL; rfl) h10 (by decide) (by decide) (by decide)
  have h8 := kind_step n n0 n1 L 12 8 (by decide) (by omega) (by omega) _ 6 3221225984 24 (by cases hL; rfl) h9 (by decide) (by decide) (by decide)
  have h7 := kind_step n n0 n1 L 12 7 (by decide) (by omega) (by omega) _ 7 1681915904 10 (by cases hL; rfl) h8 (by decide) (by decide) (by decide)
  have h6 := kind_step n n0 n1 L 12 6 (by decide) (by omega) (by omega) _ 4 2851995648 16 (by cases hL; rfl) h7 (by decide) (by decide) (by decide)
  have h5 := kind_step n n0 n1 L 12 5 (by decide) (by omega) (by omega) _ 3 2130706432 8 (by cases hL; rfl) h6 (by decide) (by decide) (by decide)
  have h4 := kind_step n n0 n1 L 12 4 (by decide) (by omega) (by omega) _ 2 3232235520 16 (by cases hL; rfl) h5 (by decide) (by decide) (by decide)
  have h3 := kind_step n n0 n1 L 12 3 (by decide) (by omega) (by omega) _ 2 2886729728 12 (by cases hL; rfl) h4 (by decide) (by decide) (by decide)
  have h2 := kind_step n n0 n1 L 12 2 (by decide) (by omega) (by omega) _ 2 167772160 8 (by cases hL; rfl) h3 (by decide) (by decide) (by decide)
  have h1 := kind_step n n0 n1 L 12 1 (by decide) (by omega) (by omega) _ 8 4294967295 32 (by cases hL; rfl) h2 (by decide) (by decide) (by decide)
  have h0 := kind_step n n0 n1 L 12 0 (by decide) (by omega) (by omega) _ 1 0 32 (by cases hL; rfl) h1 (by decide) (by decide) (by decide)
  refine Ev.congr (f := fun k => four_Kind.l0 k n L 12 ((0 : Nat) : Int)) (fun k => ?_) ?_
  · unfold four_Kind.f
    rw [hL]
    show four_Kind.l0 k n L (L.length : Int) 0 = _
    rw [hl]
    rfl
  · obtain ⟨z32, z8, z12, z16, z10, z24, z4⟩ := sizes
    rw [z32, z8, z12, z16, z10, z24, z4] at h0
    have q : ∀ (S m : Int) (x y : Int) (c : Int), 0 < S → c = m * S → (if n / S * S = c then x else y) = if n / S = m then x else y := by
      intro S m x y c hS hc
      by_cases h : n / S = m
      · rw [if_pos h, if_pos (by rw [h, hc])]
      · rw [if_neg h, if_neg (fun e => h (Int.eq_of_mul_eq_mul_right (show S ≠ 0 by omega) (e.trans hc)))]
    rw [q 1 0 _ _ 0 (by decide) (by decide), q 1 4294967295 _ _ 4294967295 (by decide) (by decide), q 16777216 10 _ _ 167772160 (by decide) (by decide), q 1048576 2753 _ _ 2886729728 (by decide) (by decide), q 65536 49320 _ _ 3232235520 (by decide) (by decide), q 16777216 127 _ _ 2130706432 (by decide) (by decide), q 65536 43518 _ _ 2851995648 (by decide) (by decide), q 4194304 401 _ _ 1681915904 (by decide) (by decide), q 256 12582914 _ _ 3221225984 (by decide) (by decide), q 256 12989284 _ _ 3325256704 (by decide) (by decide), q 256 13303921 _ _ 3405803776 (by decide) (by decide), q 268435456 14 _ _ 3758096384 (by decide) (by decide), Int.ediv_one] at h0
    exact h0
theorem ref_kind (n : Int) (n0 : 0 ≤ n) (n1 : n ≤ 4294967295) : Ev (fun k => posternref20_Kind.f k n) (kindV n) := by
  have j1 : ∀ b : Bool, Ev (fun k => posternref20_Kind.j1 k n b) (if b = true then 6 else if n / 268435456 = 14 then 5 else 0) := by
    intro b
    refine Ev.step (f := fun k => some (if b = true then 6 else if n / 268435456 = 14 then 5 else 0)) (fun k => ?_) (Ev.now _)
    simp only [posternref20_Kind.j1]
    (repeat' split) <;> first | rfl | omega
  have j0 : ∀ b : Bool, Ev (fun k => posternref20_Kind.j0 k n b) (if b = true then 2 else if n / 16777216 = 127 then 3 else if n / 65536 = 43518 then 4 else if n / 4194304 = 401 then 7 else if n / 256 = 12582914 then 6 else if n / 256 = 12989284 then 6 else if n / 256 = 13303921 then 6 else if n / 268435456 = 14 then 5 else 0) := by
    intro b
    by_cases c0 : b = true
    · rw [if_pos c0]
      refine Ev.step (f := fun k => some 2) (fun k => ?_) (Ev.now _)
      simp only [posternref20_Kind.j0]
      rw [if_pos c0]
    rw [if_neg c0]
    by_cases c1 : n / 16777216 = 127
    · rw [if_pos c1]
      refine Ev.step (f := fun k => some 3) (fun k => ?_) (Ev.now _)
      simp only [posternref20_Kind.j0]
      rw [if_neg c0, if_pos c1]
    rw [if_neg c1]
    by_cases c2 : n / 65536 = 43518
    · rw [if_pos c2]
      refine Ev.step (f := fun k => some 4) (fun k => ?_) (Ev.now _)
      simp only [posternref20_Kind.j0]
      rw [if_neg c0, if_neg c1, if_pos c2]
    rw [if_neg c2]
    by_cases c3 : n / 4194304 = 401
    · rw [if_pos c3]
      refine Ev.step (f := fun k => some 7) (fun k => ?_) (Ev.now _)
      simp only [posternref20_Kind.j0]
      rw [if_neg c0, if_neg c1, if_neg c2, if_pos c3]
    rw [if_neg c3]
    by_cases c4 : n / 256 = 12582914
    · rw [if_pos c4]
      refine Ev.step (fun k => ?_) (j1 true)
      simp only [posternref20_Kind.j0]
      rw [if_neg c0, if_neg c1, if_neg c2, if_neg c3, if_pos c4, c4]
      rfl
    rw [if_neg c4]
    by_cases c5 : n / 256 = 12989284
    · rw [if_pos c5]
      refine Ev.step (fun k => ?_) (j1 true)
      simp only [posternref20_Kind.j0]
      rw [if_neg c0, if_neg c1, if_neg c2, if_neg c3, if_neg c4, if_pos c5, c5]
      rfl
    rw [if_neg c5]
    have e : (if n / 256 = 13303921 then (6 : Int) else if n / 268435456 = 14 then 5 else 0) = if (n / 256 == 13303921) = true then 6 else if n / 268435456 = 14 then 5 else 0 := by simp only [beq_iff_eq]
    rw [e]
    refine Ev.step (fun k => ?_) (j1 (n / 256 == 13303921))
    simp only [posternref20_Kind.j0]
    rw [if_neg c0, if_neg c1, if_neg c2, if_neg c3, if_neg c4, if_neg c5]
  unfold kindV
  by_cases c0 : n = 0
  · rw [if_pos c0]
    refine Ev.congr (f := fun k => some 1) (fun k => ?_) (Ev.now _)
    unfold posternref20_Kind.f
    rw [if_pos c0]
  rw [if_neg c0]
  by_cases c1 : n = 4294967295
  · rw [if_pos c1]
    refine Ev.congr (f := fun k => some 8) (fun k => ?_) (Ev.now _)
    unfold posternref20_Kind.f
    rw [if_neg c0, if_pos c1]
  rw [if_neg c1]
  by_cases c2 : n / 16777216 = 10
  · rw [if_pos c2]
    refine Ev.congr (fun k => ?_) (j0 true)
    unfold posternref20_Kind.f
    rw [if_neg c0, if_neg c1, if_pos c2, c2]
    rfl
  rw [if_neg c2]
  by_cases c3 : n / 1048576 = 2753
  · rw [if_pos c3]
    refine Ev.congr (fun k => ?_) (j0 true)
    unfold posternref20_Kind.f
    rw [if_neg c0, if_neg c1, if_neg c2, if_pos c3, c3]
    rfl
  rw [if_neg c3]
  by_cases c4 : n / 65536 = 49320
  · rw [if_pos c4]
    refine Ev.congr (fun k => ?_) (j0 true)
    unfold posternref20_Kind.f
    rw [if_neg c0, if_neg c1, if_neg c2, if_neg c3, c4]
    rfl
  rw [if_neg c4]
  refine Ev.congr (fun k => ?_) (j0 false)
  unfold posternref20_Kind.f
  rw [if_neg c0, if_neg c1, if_neg c2, if_neg c3, beq_eq_false_iff_ne.2 c4]
def arpa : ByteArray := ⟨#[46, 105, 110, 45, 97, 100, 100, 114, 46, 97, 114, 112, 97]⟩
theorem printV_len (n : Int) (n0 : 0 ≤ n) (n1 : n ≤ 4294967295) : (printV n).length ≤ 140737488355328 := join4_len (by omega) (by omega) (by omega) (by omega) (by omega) (by omega) (by omega) (by omega)
theorem kinds_true (n : Int) (n0 : 0 ≤ n) (n1 : n ≤ 4294967295) : Ev (fun k => posternlaw20_FourKinds.f k n) true := by
  obtain ⟨r0, r1⟩ := rev_range n n0 n1
  have hl := printV_len (revV n) r0 r1
  refine Ev.bind awake_ev ?_
  simp only [if_true]
  refine Ev.bind (four_kind n n0 n1) (Ev.bind (ref_kind n n0 n1) ?_)
  simp only [if_true]
  refine Ev.bind (a := BA (printV (revV n)) ++ arpa) ?_ (Ev.bind (a := BA (printV (revV n)) ++ arpa) ?_ ?_)
  · refine Ev.congr (f := fun k => some (BA (printV (revV n)) ++ arpa)) (fun k => ?_) (Ev.now _)
    unfold four_Reverse.f
    rw [rev_bits n n0 n1, Option.bind_some]
    unfold four_Print.f
    rw [if_pos ⟨r0, r1⟩, Option.bind_some, if_pos (by rw [ba_size]; omega)]
    rfl
  · have hp := ref_print (revV n) r0 r1
    refine Ev.congr (f := fun k => (posternref20_Print.f k (revV n)).bind fun t248 => (if t248.size + 13 ≤ 9223372036854775807 then (some (t248 ++ arpa)) else (none))) (fun k => ?_) (Ev.bind hp ?_)
    · unfold posternref20_Reverse.f
      rw [ref_rev_bits n n0 n1]
      rfl
    · simp only [if_pos (show (BA (printV (revV n))).size + 13 ≤ 9223372036854775807 by rw [ba_size]; omega)]
      exact Ev.now _
  · simp only [beq_self_eq_true]
    exact Ev.now _
theorem kinds_walk (n : Int) (n0 : 0 ≤ n) (n1 : n ≤ 4294967295) (w : World) (hG : GW w) :
    Calls Tryd.prog 8 #[.int .u32 n] w fun e w' => e = .returned (.bool true) ∧ Below w.heap.size w w' := by
  obtain ⟨k, h⟩ := (kinds_true n n0 n1).rounds
  exact posternlaw20_FourKinds.calls k n true w hG h
end Go.Proofs.YtgnahagnmodpdaaDoor
