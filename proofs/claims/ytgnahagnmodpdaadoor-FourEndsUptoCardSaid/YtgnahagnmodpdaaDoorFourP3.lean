/- FourParses, plainly: the address of a text as the program and the document have it. -/
import Derived.Test.YtgnahagnmodpdaaDoorFourP2
import Derived.Test.YtgnahagnmodpdaaDoorX5
namespace Go.Proofs.YtgnahagnmodpdaaDoor
open Go.RowKit Go.Proofs.YtgnahagnmodpdaaDoorW.PrintWords Go.Proofs.YtgnahagnmodpdaaDoor.X Go.IntWalk
set_option linter.unusedVariables false
set_option linter.unusedSimpArgs false

theorem wu64 (x : Int) (a : 0 ≤ x) (b : x < 18446744073709551616) : IntKind.u64.wrap x = x := by simp [IntKind.wrap, IntKind.signed, IntKind.bits]; omega
theorem one_le_256 (m : Nat) : (1 : Int) ≤ 256 ^ m := Int.pow_pos (by decide)
/-- What the document's second loop tells of the numbers that are left. -/
def resL (k : Nat) : List Int → Nat → Int → Int × Int × Int
  | [], _, sum => (sum % 4294967296, 0, 0)
  | [x], i, sum => if 256 ^ (5 - k) ≤ x then (0, i, 202) else ((sum + x) % 4294967296, 0, 0)
  | x :: y :: r, i, sum => if 256 ≤ x then (0, i, 202) else resL k (y :: r) (i + 1) (sum + x * 256 ^ (3 - i))
theorem ref_l2 (k : Nat) (hk1 : 1 ≤ k) (hk : k ≤ 4) (sum : Int) (i : Int) (n : Int) (L : List ByteArray) (r : Int × Int × Int) : ∀ (m j : Nat) (most : Int), j = k + m → j ≤ 4 → 0 ≤ most → most * 256 ^ m ≤ 4294967296 →
    Ev (fun f => posternref20_Parse.j3 f (k : Int) sum i n (most * 256 ^ m) L (k : Int) i) r → Ev (fun f => posternref20_Parse.l2 f (k : Int) sum i n most (j : Int) L (k : Int) i) r
  | 0, j, most, hj, h4, h0, hb, h => by
    refine Ev.step (f := fun f => posternref20_Parse.j3 f (k : Int) sum i n most L (k : Int) i) (fun f => ?_) (by simpa using h)
    simp only [posternref20_Parse.l2]
    rw [if_neg (by omega)]
  | m + 1, j, most, hj, h4, h0, hb, h => by
    rw [Int.pow_succ', ← Int.mul_assoc] at hb h
    have hp : (1 : Int) ≤ 256 ^ m := one_le_256 m
    have hm : most * 256 ≤ most * 256 * 256 ^ m := by
      have := Int.mul_le_mul_of_nonneg_left hp (show 0 ≤ most * 256 by omega)
      omega
    refine Ev.step (f := fun f => posternref20_Parse.l2 f (k : Int) sum i n (most * 256) ((j - 1 : Nat) : Int) L (k : Int) i) (fun f => ?_) (ref_l2 k hk1 hk sum i n L r m (j - 1) (most * 256) (by omega) (by omega) (by omega) hb h)
    simp only [posternref20_Parse.l2]
    rw [if_pos (by omega), wu64 (most * 256) (by omega) (by omega), wrap64_in _ (by omega)]
    congr 1
    omega
theorem ref_l3 (k : Nat) (hk1 : 1 ≤ k) (hk : k ≤ 4) (sum : Int) (hs0 : 0 ≤ sum) (hs1 : sum ≤ 1099511627776) (i : Nat) (hi : i ≤ 3) (L : List ByteArray) (r : Int × Int × Int) : ∀ (m j : Nat) (n : Int), j + m = 3 - i → 0 ≤ n → n * 256 ^ m ≤ 4294967296 →
    Ev (fun f => posternref20_Parse.l1 f (k : Int) (sum + n * 256 ^ m) L (k : Int) ((i + 1 : Nat) : Int)) r → Ev (fun f => posternref20_Parse.l3 f (k : Int) sum (i : Int) n (j : Int) L (k : Int) (i : Int)) r
  | 0, j, n, hj, h0, hb, h => by
    have hn : n ≤ 4294967296 := by simpa using hb
    refine Ev.step (f := fun f => posternref20_Parse.l1 f (k : Int) (sum + n) L (k : Int) ((i + 1 : Nat) : Int)) (fun f => ?_) (by simpa using h)
    simp only [posternref20_Parse.l3]
    rw [wrap64_in (3 - (i : Int)) (by omega), if_neg (by omega), wu64 (sum + n) (by omega) (by omega), wrap64_in _ (by omega)]
    rfl
  | m + 1, j, n, hj, h0, hb, h => by
    rw [Int.pow_succ', ← Int.mul_assoc] at hb h
    have hp : (1 : Int) ≤ 256 ^ m := one_le_256 m
    have hm : n * 256 ≤ n * 256 * 256 ^ m := by
      have := Int.mul_le_mul_of_nonneg_left hp (show 0 ≤ n * 256 by omega)
      omega
    refine Ev.step (f := fun f => posternref20_Parse.l3 f (k : Int) sum (i : Int) (n * 256) ((j + 1 : Nat) : Int) L (k : Int) (i : Int)) (fun f => ?_) (ref_l3 k hk1 hk sum hs0 hs1 i hi L r m (j + 1) (n * 256) (by omega) (by omega) hb h)
    simp only [posternref20_Parse.l3]
    rw [wrap64_in (3 - (i : Int)) (by omega), if_pos (by omega), wu64 (n * 256) (by omega) (by omega), wrap64_in _ (by omega)]
    congr 1
theorem ref_l1 (P : List (List UInt8)) (hP1 : 1 ≤ P.length) (hP : P.length ≤ 4) (hs : ∀ p ∈ P, p.length ≤ 4294967280) : ∀ (m i : Nat) (sum : Int), i + m = P.length → 0 ≤ sum → sum ≤ (i : Int) * 4294967296 →
    Ev (fun f => posternref20_Parse.l1 f (P.length : Int) sum (P.map BA) (P.length : Int) (i : Int)) (resL P.length ((P.drop i).map fun p => (numberV p).1) i sum) := by
  intro m
  induction m with
  | zero =>
    intro i sum hm h0 h1
    rw [List.drop_of_length_le (by omega)]
    refine Ev.step (f := fun f => some (sum % 4294967296, 0, 0)) (fun f => ?_) (Ev.now _)
    simp only [posternref20_Parse.l1]
    rw [if_neg (by omega)]
  | succ m ref_l1 =>
    intro i sum hm h0 h1
    have hi : i < P.length := by omega
    have hn := ref_number (BA P[i]) (by rw [ba_size]; have := hs _ (List.getElem_mem hi); omega)
    rw [ba_list] at hn
    obtain ⟨b0, b1⟩ := numberV_le P[i]
    rw [List.drop_eq_getElem_cons hi, List.map_cons]
    have w1 : wrap64 ((P.length : Int) - 1) = ((P.length - 1 : Nat) : Int) := by rw [wrap64_in _ (by omega)]; omega
    have w2 : wrap64 ((i : Int) + 1) = ((i + 1 : Nat) : Int) := by rw [wrap64_in _ (by omega)]; omega
    have key : ∀ f, posternref20_Parse.l1 (f + 1) (P.length : Int) sum (P.map BA) (P.length : Int) (i : Int) = (posternref20_Number.f f (BA P[i])).bind fun t => if (i : Int) = ((P.length - 1 : Nat) : Int) then posternref20_Parse.l2 f (P.length : Int) sum (i : Int) t.1 256 4 (P.map BA) (P.length : Int) (i : Int) else posternref20_Parse.j3 f (P.length : Int) sum (i : Int) t.1 256 (P.map BA) (P.length : Int) (i : Int) := by
      intro f
      simp only [posternref20_Parse.l1]
      rw [w1, if_pos (by omega), if_pos (by omega), if_pos (by simp; omega), rd_map P i hi]
    refine Ev.step key (Ev.bind hn ?_)
    generalize (numberV P[i]).1 = x at *
    by_cases hl : i = P.length - 1
    · have hd : P.drop (i + 1) = [] := List.drop_of_length_le (by omega)
      rw [hd, List.map_nil]
      simp only [if_pos (show (i : Int) = ((P.length - 1 : Nat) : Int) by omega)]
      refine ref_l2 P.length hP1 hP sum i x (P.map BA) _ (4 - P.length) 4 256 (by omega) (Nat.le_refl _) (by decide) ?_ ?_
      · have : P.length = 1 ∨ P.length = 2 ∨ P.length = 3 ∨ P.length = 4 := by omega
        rcases this with h | h | h | h <;> rw [h] <;> decide
      · have e : (256 : Int) * 256 ^ (4 - P.length) = 256 ^ (5 - P.length) := by
          rw [← Int.pow_succ', show 4 - P.length + 1 = 5 - P.length by omega]
        rw [e]
        unfold resL
        by_cases hb : 256 ^ (5 - P.length) ≤ x
        · rw [if_pos hb]
          refine Ev.step (f := fun f => some (0, (i : Int), 202)) (fun f => ?_) (Ev.now _)
          simp only [posternref20_Parse.j3]
          rw [if_pos hb]
        · rw [if_neg hb]
          refine Ev.step (f := fun f => posternref20_Parse.l1 f (P.length : Int) (sum + x) (P.map BA) (P.length : Int) ((i + 1 : Nat) : Int)) (fun f => ?_) ?_
          · simp only [posternref20_Parse.j3]
            rw [if_neg hb, w1, w2, if_neg (by omega), wu64 (sum + x) (by omega) (by omega)]
          · refine Ev.step (f := fun f => some ((sum + x) % 4294967296, 0, 0)) (fun f => ?_) (Ev.now _)
            simp only [posternref20_Parse.l1]
            rw [if_neg (by omega)]
    · simp only [if_neg (show ¬ (i : Int) = ((P.length - 1 : Nat) : Int) by omega)]
      have hi2 : i + 1 < P.length := by omega
      have e : ((P.drop (i + 1)).map fun p => (numberV p).1) = (numberV P[i + 1]).1 :: ((P.drop (i + 2)).map fun p => (numberV p).1) := by
        rw [List.drop_eq_getElem_cons hi2, List.map_cons]
      have ih := ref_l1 (i + 1) (sum + x * 256 ^ (3 - i)) (by omega)
      rw [e] at ih ⊢
      rw [resL]
      by_cases hb : 256 ≤ x
      · rw [if_pos hb]
        refine Ev.step (f := fun f => some (0, (i : Int), 202)) (fun f => ?_) (Ev.now _)
        simp only [posternref20_Parse.j3]
        rw [if_pos hb]
      · rw [if_neg hb]
        have hx : x * 256 ^ (3 - i) ≤ 4294967296 ∧ 0 ≤ x * 256 ^ (3 - i) := by
          have : i = 0 ∨ i = 1 ∨ i = 2 := by omega
          rcases this with h | h | h <;> subst h <;> simp <;> omega
        refine Ev.step (f := fun f => posternref20_Parse.l3 f (P.length : Int) sum (i : Int) x ((0 : Nat) : Int) (P.map BA) (P.length : Int) (i : Int)) (fun f => ?_) (ref_l3 P.length hP1 hP sum h0 (by omega) i (by omega) (P.map BA) _ (3 - i) 0 x (by omega) b0 hx.1 (ih (by omega) (by omega)))
        simp only [posternref20_Parse.j3]
        rw [if_neg hb, w1, if_pos (by omega)]
        rfl
theorem ref_l0 (P : List (List UInt8)) (hP1 : 1 ≤ P.length) (hP : P.length ≤ 4) (hs : ∀ p ∈ P, p.length ≤ 4294967280) : ∀ (m i : Nat), i + m = P.length →
    Ev (fun f => posternref20_Parse.l0 f (P.map BA) (P.length : Int) (P.map BA) (P.length : Int) (i : Int)) (match firstErr (P.drop i) i with | some j => (0, j, 200) | none => resL P.length (P.map fun p => (numberV p).1) 0 0)
  | 0, i, hm => by
    rw [List.drop_of_length_le (by omega)]
    refine Ev.step (f := fun f => posternref20_Parse.l1 f (P.length : Int) 0 (P.map BA) (P.length : Int) ((0 : Nat) : Int)) (fun f => ?_) ?_
    · simp only [posternref20_Parse.l0]
      rw [if_neg (by omega), List.length_map]
      rfl
    · have := ref_l1 P hP1 hP hs _ 0 0 (Nat.zero_add _) (Int.le_refl 0) (by omega)
      rw [List.drop_zero] at this
      exact this
  | m + 1, i, hm => by
    have hi : i < P.length := by omega
    have hn := ref_number (BA P[i]) (by rw [ba_size]; have := hs _ (List.getElem_mem hi); omega)
    rw [ba_list] at hn
    have w2 : wrap64 ((i : Int) + 1) = ((i + 1 : Nat) : Int) := by rw [wrap64_in _ (by omega)]; omega
    rw [List.drop_eq_getElem_cons hi, firstErr]
    have key : ∀ f, posternref20_Parse.l0 (f + 1) (P.map BA) (P.length : Int) (P.map BA) (P.length : Int) (i : Int) = (posternref20_Number.f f (BA P[i])).bind fun t => if t.2.2 = 0 then posternref20_Parse.l0 f (P.map BA) (P.length : Int) (P.map BA) (P.length : Int) ((i + 1 : Nat) : Int) else some (0, (i : Int), 200) := by
      intro f
      simp only [posternref20_Parse.l0]
      rw [w2, if_pos (by omega), if_pos (by omega), if_pos (by simp; omega), rd_map P i hi]
    refine Ev.step key (Ev.bind hn ?_)
    by_cases he : (numberV P[i]).2.2 = 0
    · simp only [if_pos he]
      exact ref_l0 P hP1 hP hs m (i + 1) (by omega)
    · simp only [if_neg he]
      exact Ev.now _
/-- What the program's parts say of the numbers. -/
def outL (k : Nat) (L : List Int) : Int × Int × Int := match firstBig L 0 with | some i => (0, i, 202) | none => if 256 ^ (5 - k) ≤ L.getLastD 0 then (0, (k : Int) - 1, 202) else (sumFrom L 0, 0, 0)
theorem sum1 (x0 : Int) (a0 : 0 ≤ x0) (b0 : x0 ≤ 4294967296) : resL 1 [x0] 0 0 = outL 1 [x0] := by
  have e1 : resL 1 [x0] 0 0 = if 4294967296 ≤ x0 then (0, 0, 202) else ((0 + x0) % 4294967296, 0, 0) := rfl
  have e2 : outL 1 [x0] = if 4294967296 ≤ x0 then (0, 0, 202) else (x0, 0, 0) := by
    simp only [outL, firstBig]
    (repeat' split) <;> first | rfl | simp_all [sumFrom] | omega
  refine e1.trans (Eq.trans ?_ e2.symm)
  (repeat' split) <;> first | rfl | omega | (congr 1; omega)
theorem sum2 (x0 x1 : Int) (a0 : 0 ≤ x0) (b0 : x0 ≤ 4294967296) (a1 : 0 ≤ x1) (b1 : x1 ≤ 4294967296) : resL 2 [x0, x1] 0 0 = outL 2 [x0, x1] := by
  have e1 : resL 2 [x0, x1] 0 0 = if 256 ≤ x0 then (0, 0, 202) else if 16777216 ≤ x1 then (0, 1, 202) else ((0 + x0 * 16777216 + x1) % 4294967296, 0, 0) := rfl
  have e2 : outL 2 [x0, x1] = if 255 < x0 then (0, 0, 202) else if 16777216 ≤ x1 then (0, 1, 202) else (x1 + x0 * 16777216, 0, 0) := by
    simp only [outL, firstBig]
    (repeat' split) <;> first | rfl | simp_all [sumFrom] | omega
  refine e1.trans (Eq.trans ?_ e2.symm)
  (repeat' split) <;> first | rfl | omega | (congr 1; omega)
theorem sum3 (x0 x1 x2 : Int) (a0 : 0 ≤ x0) (b0 : x0 ≤ 4294967296) (a1 : 0 ≤ x1) (b1 : x1 ≤ 4294967296) (a2 : 0 ≤ x2) (b2 : x2 ≤ 4294967296) : resL 3 [x0, x1, x2] 0 0 = outL 3 [x0, x1, x2] := by
  have e1 : resL 3 [x0, x1, x2] 0 0 = if 256 ≤ x0 then (0, 0, 202) else if 256 ≤ x1 then (0, 1, 202) else if 65536 ≤ x2 then (0, 2, 202) else ((0 + x0 * 16777216 + x1 * 65536 + x2) % 4294967296, 0, 0) := rfl
  have e2 : outL 3 [x0, x1, x2] = if 255 < x0 then (0, 0, 202) else if 255 < x1 then (0, 1, 202) else if 65536 ≤ x2 then (0, 2, 202) else (x2 + x1 * 65536 + x0 * 16777216, 0, 0) := by
    simp only [outL, firstBig]
    (repeat' split) <;> first | rfl | simp_all [sumFrom] | omega
  refine e1.trans (Eq.trans ?_ e2.symm)
  (repeat' split) <;> first | rfl | omega | (congr 1; omega)
theorem sum4 (x0 x1 x2 x3 : Int) (a0 : 0 ≤ x0) (b0 : x0 ≤ 4294967296) (a1 : 0 ≤ x1) (b1 : x1 ≤ 4294967296) (a2 : 0 ≤ x2) (b2 : x2 ≤ 4294967296) (a3 : 0 ≤ x3) (b3 : x3 ≤ 4294967296) : resL 4 [x0, x1, x2, x3] 0 0 = outL 4 [x0, x1, x2, x3] := by
  have e1 : resL 4 [x0, x1, x2, x3] 0 0 = if 256 ≤ x0 then (0, 0, 202) else if 256 ≤ x1 then (0, 1, 202) else if 256 ≤ x2 then (0, 2, 202) else if 256 ≤ x3 then (0, 3, 202) else ((0 + x0 * 16777216 + x1 * 65536 + x2 * 256 + x3) % 4294967296, 0, 0) := rfl
  have e2 : outL 4 [x0, x1, x2, x3] = if 255 < x0 then (0, 0, 202) else if 255 < x1 then (0, 1, 202) else if 255 < x2 then (0, 2, 202) else if 256 ≤ x3 then (0, 3, 202) else (x3 + x2 * 256 + x1 * 65536 + x0 * 16777216, 0, 0) := by
    simp only [outL, firstBig]
    (repeat' split) <;> first | rfl | simp_all [sumFrom] | omega
  refine e1.trans (Eq.trans ?_ e2.symm)
  (repeat' split) <;> first | rfl | omega | (congr 1; omega)
/-- The two ways to the sum. -/
theorem resL_parse (P : List (List UInt8)) (hP1 : 1 ≤ P.length) (hP : P.length ≤ 4) : (match firstErr P 0 with | some j => (0, j, 200) | none => resL P.length (P.map fun p => (numberV p).1) 0 0) = parseP P := by
  unfold parseP
  rw [if_neg (by omega)]
  cases firstErr P 0 with
  | some j => rfl
  | none =>
    match P, hP1, hP with
    | [p0], _, _ =>
      have h0 := numberV_le p0
      exact sum1 _ h0.1 h0.2
    | [p0, p1], _, _ =>
      have h0 := numberV_le p0
      have h1 := numberV_le p1
      exact sum2 _ _ h0.1 h0.2 h1.1 h1.2
    | [p0, p1, p2], _, _ =>
      have h0 := numberV_le p0
      have h1 := numberV_le p1
      have h2 := numberV_le p2
      exact sum3 _ _ _ h0.1 h0.2 h1.1 h1.2 h2.1 h2.2
    | [p0, p1, p2, p3], _, _ =>
      have h0 := numberV_le p0
      have h1 := numberV_le p1
      have h2 := numberV_le p2
      have h3 := numberV_le p3
      exact sum4 _ _ _ _ h0.1 h0.2 h1.1 h1.2 h2.1 h2.2 h3.1 h3.2
theorem ref_parse (s : ByteArray) (hs : s.size ≤ 4294967280) : Ev (fun f => posternref20_Parse.f f s) (parseV s.data.toList) := by
  have hz := size_len s
  have hpos : 0 < (partsV s.data.toList).length := List.length_pos_iff.2 (partsV_ne _)
  unfold parseV
  refine Ev.bind (ref_parts s (by omega)) ?_
  have hpart := partsV_part s.data.toList
  generalize partsV s.data.toList = P at *
  simp only [List.length_map]
  by_cases h4 : 4 < P.length
  · rw [show parseP P = (0, 4, 201) from if_pos h4]
    simp only [if_pos (show (P.length : Int) > 4 by omega)]
    exact Ev.now _
  · simp only [if_neg (show ¬ (P.length : Int) > 4 by omega)]
    rw [← resL_parse P hpos (by omega)]
    have := ref_l0 P hpos (by omega) (fun p hp => by have := hpart p hp; omega) _ 0 (Nat.zero_add _)
    rw [List.drop_zero] at this
    exact this
end Go.Proofs.YtgnahagnmodpdaaDoor
