/- LineFields, plainly: what the program reads of a field is what the document reads of it. -/
import Derived.Test.YtllhdekhgbbibaaDoorBytes
import Derived.Test.YtllhdekhgbbibaaDoorX1
import Derived.Test.YtllhdekhgbbibaaDoorX2
import Derived.Test.YtllhdekhgbbibaaDoorX3
namespace Go.Proofs.YtllhdekhgbbibaaDoor
open Go.RowKit Go.Proofs.YtllhdekhgbbibaaDoorW.PrintWords Go.Proofs.YtllhdekhgbbibaaDoor.X Go.IntWalk
set_option linter.unusedVariables false
set_option linter.unusedSimpArgs false

/-! ### a code point -/
def endP : Option Int → Int × Int
  | none => (0, 90)
  | some n => if 1114111 < n then (0, 90) else (n, 0)
def pointV (l : List UInt8) : Int × Int := if l.length < 4 ∨ 6 < l.length then (0, 90) else endP (digL 16 l 0)
theorem pointV_short {l : List UInt8} (h : l.length < 4 ∨ 6 < l.length) : pointV l = (0, 90) := if_pos h
theorem pointV_of {l : List UInt8} (h : ¬ (l.length < 4 ∨ 6 < l.length)) : pointV l = endP (digL 16 l 0) := if_neg h
theorem digL_bad {base : Int} {c : UInt8} (hc : digV (c.toNat : Int) base < 0) : ∀ (l : List UInt8) (n : Int), c ∈ l → digL base l n = none
  | b :: l, n, h => by
    unfold digL
    by_cases hb : digV (b.toNat : Int) base < 0
    · rw [if_pos hb]
    · rw [if_neg hb]
      rcases List.mem_cons.1 h with rfl | h
      · exact absurd hc hb
      · exact digL_bad hc l _ h
theorem pointV_bad {l : List UInt8} {c : UInt8} (hc : digV (c.toNat : Int) 16 < 0) (h : c ∈ l) : pointV l = (0, 90) := by
  unfold pointV
  split
  · rfl
  · rw [digL_bad hc l 0 h]; rfl

theorem line_point (s : ByteArray) (hs : s.size ≤ 9223372036854775807) : line_Point.f s = some (pointV s.data.toList) := by
  unfold line_Point.f octet_Number.f
  rw [if_pos hs]
  simp only [Option.bind_some]
  rw [size_len] at *
  generalize s.data.toList = l at *
  by_cases h : l.length < 4 ∨ 6 < l.length
  · rw [pointV_short h]
    rcases h with h | h
    · rw [if_pos (by omega)]
    · rw [if_neg (by omega), if_pos (by omega)]
  · rw [pointV_of h, if_neg (by omega), if_neg (by omega)]
    have hne : l ≠ [] := by rintro rfl; simp at h
    have hv : numV l 16 = numL 16 l 0 0 := by unfold numV; rw [if_neg (by omega), if_neg hne]
    rw [hv]
    rcases numL_digL 16 l 0 0 with ⟨h1, j, h2⟩ | ⟨N, h1, h2⟩
    · rw [h1, h2, if_neg (by simp)]; rfl
    · obtain ⟨b0, b1⟩ := digL_bound (by decide) l 0 N h1 (Int.le_refl 0)
      have hp : (16 : Int) ^ l.length ≤ 16777216 := by
        have : l.length = 4 ∨ l.length = 5 ∨ l.length = 6 := by omega
        rcases this with h | h | h <;> rw [h] <;> decide
      have b2 : N + 1 ≤ 16 ^ l.length := by simpa using b1
      have b3 : ¬ 18446744073709551616 ≤ N := by omega
      rw [h1, h2, if_neg b3, if_pos rfl]
      unfold endP
      by_cases hN : 1114111 < N
      · rw [if_pos hN]; simp only; rw [if_pos hN]
      · rw [if_neg (by simpa using hN)]
        simp only
        rw [if_neg hN, wrap32_in N (by omega)]

theorem hex_tab : ∀ (j : Fin 16) (b : Fin 256), (decide (bt (⟨#[48, 49, 50, 51, 52, 53, 54, 55, 56, 57, 97, 98, 99, 100, 101, 102]⟩ : ByteArray) (j.val : Int) = (b.val : Int)) || decide (bt (⟨#[48, 49, 50, 51, 52, 53, 54, 55, 56, 57, 65, 66, 67, 68, 69, 70]⟩ : ByteArray) (j.val : Int) = (b.val : Int))) = decide (digV (b.val : Int) 16 = (j.val : Int)) := by decide +kernel
theorem hex_at (j : Nat) (hj : j < 16) (b : UInt8) : (bt (⟨#[48, 49, 50, 51, 52, 53, 54, 55, 56, 57, 97, 98, 99, 100, 101, 102]⟩ : ByteArray) (j : Int) = (b.toNat : Int) ∨ bt (⟨#[48, 49, 50, 51, 52, 53, 54, 55, 56, 57, 65, 66, 67, 68, 69, 70]⟩ : ByteArray) (j : Int) = (b.toNat : Int)) ↔ digV (b.toNat : Int) 16 = (j : Int) := by
  have := hex_tab ⟨j, hj⟩ ⟨b.toNat, b.toNat_lt⟩
  rw [Bool.eq_iff_iff] at this
  simpa using this

theorem ref_digit (s : ByteArray) (i : Nat) (hi : i < s.data.toList.length) (x4 : Int) (r : Int × Int) : ∀ (m j : Nat) (x6 : Int), j + m = 16 →
    Ev (fun k => if (if (j : Int) ≤ digV ((s.data.toList[i]'hi).toNat : Int) 16 then digV ((s.data.toList[i]'hi).toNat : Int) 16 else x6) < 0 then (some (0, 90)) else
      (posternref09_Point.l0 k s (wrap32 ((wrap32 (16 * x4)) + (if (j : Int) ≤ digV ((s.data.toList[i]'hi).toNat : Int) 16 then digV ((s.data.toList[i]'hi).toNat : Int) 16 else x6))) (wrap64 ((i : Int) + 1)))) r →
    Ev (fun k => posternref09_Point.l1 k s x4 (i : Int) x6 (j : Int)) r
  | 0, j, x6, hj, h => by
    obtain rfl : j = 16 := by omega
    have hd := digV_lt (b := ((s.data.toList[i]'hi).toNat : Int)) (base := 16) (by decide)
    rw [if_neg (by omega)] at h
    refine Ev.step (fun k => ?_) h
    simp only [posternref09_Point.l1]
    rw [if_neg (by omega)]
  | m + 1, j, x6, hj, h => by
    have hd := digV_lt (b := ((s.data.toList[i]'hi).toNat : Int)) (base := 16) (by decide)
    have ht := hex_at j (by omega) (s.data.toList[i]'hi)
    have hw : wrap32 ((j : Int) + 1) = ((j + 1 : Nat) : Int) := by rw [wrap32_in _ (by omega)]; omega
    have ih := ref_digit s i hi x4 r m (j + 1)
    have hlen : (i : Int) < (s.size : Int) := by rw [size_len]; omega
    by_cases hm : digV ((s.data.toList[i]'hi).toNat : Int) 16 = (j : Int)
    · refine Ev.step (f := fun k => posternref09_Point.l1 k s x4 (i : Int) (j : Int) ((j + 1 : Nat) : Int)) (fun k => ?_) (ih j (by omega) ?_)
      · simp only [posternref09_Point.l1]
        rw [if_pos (by omega), if_pos (by omega), if_pos (by omega), if_pos hlen, bt_get s i hi, hw]
        rcases ht.2 hm with h1 | h1
        · rw [if_pos h1]
        · by_cases h2 : bt (⟨#[48, 49, 50, 51, 52, 53, 54, 55, 56, 57, 97, 98, 99, 100, 101, 102]⟩ : ByteArray) (j : Int) = ((s.data.toList[i]'hi).toNat : Int)
          · rw [if_pos h2]
          · rw [if_neg h2, if_pos h1]
      · rw [if_pos (by omega), hm] at h
        rw [if_neg (by omega)]
        exact h
    · have hn := mt ht.1 hm
      refine Ev.step (f := fun k => posternref09_Point.l1 k s x4 (i : Int) x6 ((j + 1 : Nat) : Int)) (fun k => ?_) (ih x6 (by omega) ?_)
      · simp only [posternref09_Point.l1]
        rw [if_pos (by omega), if_pos (by omega), if_pos (by omega), if_pos hlen, bt_get s i hi, hw, if_neg (fun e => hn (.inl e)), if_neg (fun e => hn (.inr e))]
      · have e : (((j + 1 : Nat) : Int) ≤ digV ((s.data.toList[i]'hi).toNat : Int) 16) ↔ ((j : Int) ≤ digV ((s.data.toList[i]'hi).toNat : Int) 16) := by omega
        simp only [e]
        exact h
theorem ref_point_loop (s : ByteArray) (hs : s.data.toList.length ≤ 6) : ∀ (m i : Nat) (n : Int), i + m = s.data.toList.length → 0 ≤ n → n + 1 ≤ 16 ^ i →
    Ev (fun k => posternref09_Point.l0 k s n (i : Int)) (endP (digL 16 (s.data.toList.drop i) n))
  | 0, i, n, hm, h0, hn => by
    rw [List.drop_of_length_le (by omega)]
    refine Ev.step (f := fun k => some (endP (digL 16 [] n))) (fun k => ?_) (Ev.now _)
    simp only [posternref09_Point.l0, digL, endP]
    rw [if_neg (by rw [size_len]; omega)]
    by_cases h : 1114111 < n
    · rw [if_pos h, if_pos h]
    · rw [if_neg h, if_neg h]
  | m + 1, i, n, hm, h0, hn => by
    have hi : i < s.data.toList.length := by omega
    have hp : (16 : Int) ^ i ≤ 1048576 := by
      have : i = 0 ∨ i = 1 ∨ i = 2 ∨ i = 3 ∨ i = 4 ∨ i = 5 := by omega
      rcases this with h | h | h | h | h | h <;> rw [h] <;> decide
    refine Ev.step (f := fun k => posternref09_Point.l1 k s n (i : Int) (-1) ((0 : Nat) : Int)) (fun k => ?_) ?_
    · simp only [posternref09_Point.l0]
      rw [if_pos (by rw [size_len]; omega)]
      rfl
    refine ref_digit s i hi n _ 16 0 (-1) rfl ?_
    have hd := digV_lt (b := ((s.data.toList[i]'hi).toNat : Int)) (base := 16) (by decide)
    have hl := digV_lo ((s.data.toList[i]'hi).toNat : Int) 16
    have ih := ref_point_loop s hs m (i + 1) (n * 16 + digV ((s.data.toList[i]'hi).toNat : Int) 16) (by omega)
    rw [List.drop_eq_getElem_cons hi]
    rw [show digL 16 (s.data.toList[i] :: s.data.toList.drop (i + 1)) n = if digV ((s.data.toList[i]'hi).toNat : Int) 16 < 0 then none else digL 16 (s.data.toList.drop (i + 1)) (n * 16 + digV ((s.data.toList[i]'hi).toNat : Int) 16) from rfl]
    generalize digV ((s.data.toList[i]'hi).toNat : Int) 16 = d at *
    by_cases hneg : d < 0
    · have hz : ¬ ((0 : Nat) : Int) ≤ d := by omega
      simp only [if_neg hz, if_pos hneg, if_pos (show (-1 : Int) < 0 by decide)]
      exact Ev.now _
    · have hz : ((0 : Nat) : Int) ≤ d := by omega
      simp only [if_pos hz, if_neg hneg]
      rw [wrap32_in (16 * n) (by omega), wrap32_in _ (by omega), wrap64_in _ (by omega)]
      have e := ih (by omega) (by rw [Int.pow_succ]; omega)
      rw [show n * 16 + d = 16 * n + d by omega] at e ⊢
      exact e
theorem ref_point (s : ByteArray) : Ev (fun k => posternref09_Point.f k s) (pointV s.data.toList) := by
  have hsz := size_len s
  by_cases h4 : s.data.toList.length < 4
  · rw [pointV_short (.inl h4)]
    refine Ev.congr (f := fun k => posternref09_Point.j0 k s true) (fun k => by simp only [posternref09_Point.f]; rw [if_pos (by omega)]) ?_
    exact Ev.step (f := fun k => some (0, 90)) (fun k => by simp only [posternref09_Point.j0, if_true]) (Ev.now _)
  by_cases h6 : 6 < s.data.toList.length
  · rw [pointV_short (.inr h6)]
    refine Ev.congr (f := fun k => posternref09_Point.j0 k s true) (fun k => by simp only [posternref09_Point.f]; rw [if_neg (by omega), decide_eq_true (by omega)]) ?_
    exact Ev.step (f := fun k => some (0, 90)) (fun k => by simp only [posternref09_Point.j0, if_true]) (Ev.now _)
  · rw [pointV_of (by omega)]
    refine Ev.congr (f := fun k => posternref09_Point.j0 k s false) (fun k => by simp only [posternref09_Point.f]; rw [if_neg (by omega), decide_eq_false (by omega)]) ?_
    refine Ev.step (f := fun k => posternref09_Point.l0 k s 0 ((0 : Nat) : Int)) (fun k => by simp only [posternref09_Point.j0, Bool.false_eq_true, if_false]; rfl) ?_
    exact ref_point_loop s (by omega) _ 0 0 (Nat.zero_add _) (Int.le_refl 0) (by decide)
theorem awake_true : posternlaw09_awake.f = some true := by
  unfold posternlaw09_awake.f
  rw [line_point _ (by decide)]
  rw [show pointV (⟨#[48, 48, 52, 49]⟩ : ByteArray).data.toList = (65, 0) by decide +kernel]
  rfl

/-! ### a span -/
def rangeV (l : List UInt8) : Int × Int × Int :=
  if (pointV (Lib.cut l [46, 46]).1).2 = 0 then
    if (Lib.cut l [46, 46]).2.2 = true then
      if (pointV (Lib.cut l [46, 46]).2.1).2 = 0 then
        if (pointV (Lib.cut l [46, 46]).2.1).1 < (pointV (Lib.cut l [46, 46]).1).1 then (0, 0, 91) else ((pointV (Lib.cut l [46, 46]).1).1, (pointV (Lib.cut l [46, 46]).2.1).1, 0)
      else (0, 0, 91)
    else ((pointV (Lib.cut l [46, 46]).1).1, (pointV (Lib.cut l [46, 46]).1).1, 0)
  else (0, 0, 91)
theorem cut_le (l sep : List UInt8) : (Lib.cut l sep).1.length ≤ l.length ∧ (Lib.cut l sep).2.1.length ≤ l.length := by
  unfold Lib.cut
  split <;> simp <;> omega
theorem line_range (s : ByteArray) (hs : s.size < 4294967281) : line_Range.f s = some (rangeV s.data.toList) := by
  have h1 := (cut_le s.data.toList [46, 46]).1
  have h2 := (cut_le s.data.toList [46, 46]).2
  rw [size_len] at hs
  unfold line_Range.f strings_Cut.f rangeV
  rw [if_pos (by rw [size_len]; exact hs)]
  simp only [Option.bind_some]
  rw [show (⟨(Lib.cut s.data.toList [46, 46]).1.toArray⟩ : ByteArray) = BA (Lib.cut s.data.toList [46, 46]).1 from rfl, show (⟨(Lib.cut s.data.toList [46, 46]).2.1.toArray⟩ : ByteArray) = BA (Lib.cut s.data.toList [46, 46]).2.1 from rfl]
  rw [line_point _ (by rw [ba_size]; omega)]
  simp only [Option.bind_some, ba_list]
  by_cases h : (pointV (Lib.cut s.data.toList [46, 46]).1).2 = 0
  · rw [if_pos h, if_pos h]
    by_cases ht : (Lib.cut s.data.toList [46, 46]).2.2 = true
    · rw [if_pos ht, if_pos ht, line_point _ (by rw [ba_size]; omega)]
      simp only [Option.bind_some, ba_list]
      by_cases h' : (pointV (Lib.cut s.data.toList [46, 46]).2.1).2 = 0
      · rw [if_pos h', if_pos h']
        split <;> rfl
      · rw [if_neg h', if_neg h']
    · rw [if_neg ht, if_neg ht]
  · rw [if_neg h, if_neg h]
theorem occ_iff (l : List UInt8) (i : Nat) : Lib.occAt l [46, 46] i = true ↔ (l.drop i).take 2 = [46, 46] := by
  unfold Lib.occAt
  rw [List.isPrefixOf_iff_prefix, List.prefix_iff_eq_take]
  simp only [List.length_cons, List.length_nil]
  exact ⟨fun h => h.symm, fun h => h.symm⟩
theorem dot_bad : digV ((46 : UInt8).toNat : Int) 16 < 0 := by decide
/-- What the document's loop does at a place. -/
theorem ref_range_at (s : ByteArray) (hs : s.size ≤ 1048576) (i : Nat) (hi : i + 1 < s.data.toList.length) (r : Int × Int × Int)
    (h : Ev (fun k => if (s.data.toList.drop i).take 2 = [46, 46] then
      (if (pointV (s.data.toList.take i)).2 = 0 then (if (pointV (s.data.toList.drop (i + 2))).2 = 0 then (if (pointV (s.data.toList.take i)).1 ≤ (pointV (s.data.toList.drop (i + 2))).1 then (some ((pointV (s.data.toList.take i)).1, (pointV (s.data.toList.drop (i + 2))).1, 0)) else (posternref09_Range.l0 k s ((i + 1 : Nat) : Int))) else (posternref09_Range.l0 k s ((i + 1 : Nat) : Int))) else (posternref09_Range.l0 k s ((i + 1 : Nat) : Int)))
      else (posternref09_Range.l0 k s ((i + 1 : Nat) : Int))) r) : Ev (fun k => posternref09_Range.l0 k s (i : Int)) r := by
  have hz := size_len s
  have w1 : wrap64 ((i : Int) + 1) = ((i + 1 : Nat) : Int) := by rw [wrap64_in _ (by omega)]; omega
  have w2 : wrap64 ((i : Int) + 2) = ((i + 2 : Nat) : Int) := by rw [wrap64_in _ (by omega)]; omega
  have key : ∀ k, posternref09_Range.l0 (k + 1) s (i : Int) = if (s.data.toList.drop i).take 2 = [46, 46] then ((posternref09_Point.f k (BA (s.data.toList.take i))).bind fun bt114 => ((posternref09_Point.f k (BA (s.data.toList.drop (i + 2)))).bind fun bt116 => (if bt114.2 = 0 then (if bt116.2 = 0 then (if bt114.1 ≤ bt116.1 then (some (bt114.1, bt116.1, 0)) else (posternref09_Range.l0 k s ((i + 1 : Nat) : Int))) else (posternref09_Range.l0 k s ((i + 1 : Nat) : Int))) else (posternref09_Range.l0 k s ((i + 1 : Nat) : Int))))) else (posternref09_Range.l0 k s ((i + 1 : Nat) : Int)) := by
    intro k
    simp only [posternref09_Range.l0]
    rw [w1, w2, if_pos (by omega), if_pos (by omega), if_pos (by omega), if_pos (by omega)]
    simp only [if_pos (show (i : Int) ≤ (s.size : Int) by omega), if_pos (show (0 : Int) ≤ ((i + 2 : Nat) : Int) by omega)]
    simp only [Int.toNat_natCast]
    rw [toList_data, extract_ba, ba_list, extract_head, extract_tail, show i + 2 - i = 2 by omega]
  refine Ev.step key ?_
  by_cases hd : (s.data.toList.drop i).take 2 = [46, 46]
  · simp only [if_pos hd] at h ⊢
    exact Ev.bind (ref_point _) (Ev.bind (ref_point _) h)
  · simp only [if_neg hd] at h ⊢
    exact h
theorem ref_range_end (s : ByteArray) (i : Nat) (hi : ¬ i + 1 < s.data.toList.length) (hs : s.size ≤ 1048576) (hb : i ≤ 1048577) : Ev (fun k => posternref09_Range.l0 k s (i : Int)) (0, 0, 91) := by
  have hz := size_len s
  have w1 : wrap64 ((i : Int) + 1) = ((i + 1 : Nat) : Int) := by rw [wrap64_in _ (by omega)]; omega
  refine Ev.step (f := fun k => some (0, 0, 91)) (fun k => ?_) (Ev.now _)
  simp only [posternref09_Range.l0]
  rw [w1, if_neg (by omega)]
/-- From a place on at which a stop lies behind: nothing is found. -/
theorem ref_range_late (s : ByteArray) (hs : s.size ≤ 1048576) (j : Nat) (hj : s.data.toList[j]? = some 46) : ∀ (m i : Nat), i + m = s.data.toList.length → j < i → Ev (fun k => posternref09_Range.l0 k s (i : Int)) (0, 0, 91)
  | 0, i, hm, hji => ref_range_end s i (by omega) hs (by have := size_len s; omega)
  | m + 1, i, hm, hji => by
    by_cases hi : i + 1 < s.data.toList.length
    · refine ref_range_at s hs i hi _ ?_
      have hp : pointV (s.data.toList.take i) = (0, 90) := by
        refine pointV_bad dot_bad (c := 46) ?_
        rw [List.mem_iff_getElem?]
        exact ⟨j, by rw [List.getElem?_take, if_pos hji]; exact hj⟩
      have ih := ref_range_late s hs j hj m (i + 1) (by omega) (by omega)
      rw [hp]
      simp only [show ¬ (90 : Int) = 0 by decide, if_false, ite_self]
      exact ih
    · exact ref_range_end s i hi hs (by have := size_len s; omega)
theorem ref_range (s : ByteArray) (hs : s.size ≤ 1048576) : Ev (fun k => posternref09_Range.f k s) (rangeV s.data.toList) := by
  have hz := size_len s
  have start : ∀ r : Int × Int × Int, Ev (fun k => if (pointV s.data.toList).2 = 0 then (some ((pointV s.data.toList).1, (pointV s.data.toList).1, 0)) else (posternref09_Range.l0 k s ((0 : Nat) : Int))) r → Ev (fun k => posternref09_Range.f k s) r := by
    intro r h
    exact Ev.congr (f := fun k => (posternref09_Point.f k s).bind fun bt112 => (if bt112.2 = 0 then (some (bt112.1, bt112.1, 0)) else (posternref09_Range.l0 k s ((0 : Nat) : Int)))) (fun k => rfl) (Ev.bind (ref_point s) h)
  rcases Lib.index_spec s.data.toList [46, 46] with ⟨h1, h2⟩ | ⟨i, h1, hi, h2, h3⟩
  · have hc : Lib.cut s.data.toList [46, 46] = (s.data.toList, [], false) := by unfold Lib.cut; rw [h1]; rfl
    have none : ∀ (m i : Nat), i + m = s.data.toList.length → Ev (fun k => posternref09_Range.l0 k s (i : Int)) (0, 0, 91) := by
      intro m
      induction m with
      | zero => intro i hm; exact ref_range_end s i (by omega) hs (by omega)
      | succ m ih =>
        intro i hm
        by_cases hi : i + 1 < s.data.toList.length
        · refine ref_range_at s hs i hi _ ?_
          have hn : ¬ (s.data.toList.drop i).take 2 = [46, 46] := by
            rw [← occ_iff, h2 i (by omega)]
            decide
          simp only [if_neg hn]
          exact ih (i + 1) (by omega)
        · exact ref_range_end s i hi hs (by omega)
    refine start _ ?_
    unfold rangeV
    rw [hc]
    by_cases hp : (pointV s.data.toList).2 = 0
    · simp only [if_pos hp, Bool.false_eq_true, if_false]
      exact Ev.now _
    · simp only [if_neg hp]
      exact none s.data.toList.length 0 (by omega)
  · have hroom := Lib.index_room s.data.toList [46, 46] (by omega)
    have hocc := (occ_iff s.data.toList i).1 h2
    have h46 : s.data.toList[i]? = some 46 := by
      have : ((s.data.toList.drop i).take 2)[0]? = some 46 := by rw [hocc]; rfl
      simpa [List.getElem?_take] using this
    have hbad : pointV s.data.toList = (0, 90) := pointV_bad dot_bad (c := 46) (List.mem_iff_getElem?.2 ⟨i, h46⟩)
    have hlen : i + 1 < s.data.toList.length := by simp at hroom; omega
    have hc : Lib.cut s.data.toList [46, 46] = (s.data.toList.take i, s.data.toList.drop (i + 2), true) := by
      unfold Lib.cut
      rw [h1, if_pos (by omega)]
      rfl
    have at_i : Ev (fun k => posternref09_Range.l0 k s (i : Int)) (rangeV s.data.toList) := by
      refine ref_range_at s hs i hlen _ ?_
      have late := ref_range_late s hs i h46 (s.data.toList.length - (i + 1)) (i + 1) (by omega) (by omega)
      unfold rangeV
      rw [hc]
      simp only [if_pos hocc, if_true]
      generalize pointV (s.data.toList.take i) = p at *
      generalize pointV (s.data.toList.drop (i + 2)) = q at *
      by_cases a : p.2 = 0
      · by_cases b : q.2 = 0
        · by_cases c : q.1 < p.1
          · have c' : ¬ p.1 ≤ q.1 := by omega
            simp only [if_pos a, if_pos b, if_pos c, if_neg c']
            exact late
          · have c' : p.1 ≤ q.1 := by omega
            simp only [if_pos a, if_pos b, if_neg c, if_pos c']
            exact Ev.now _
        · simp only [if_pos a, if_neg b]
          exact late
      · simp only [if_neg a]
        exact late
    have before : ∀ (m j : Nat), j + m = i → Ev (fun k => posternref09_Range.l0 k s (j : Int)) (rangeV s.data.toList) := by
      intro m
      induction m with
      | zero => intro j hm; obtain rfl : j = i := by omega
                exact at_i
      | succ m ih =>
        intro j hm
        refine ref_range_at s hs j (by omega) _ ?_
        have hn : ¬ (s.data.toList.drop j).take 2 = [46, 46] := by
          rw [← occ_iff, h3 j (by omega)]
          decide
        simp only [if_neg hn]
        exact ih (j + 1) (by omega)
    refine start _ ?_
    rw [hbad]
    simp only [show ¬ (90 : Int) = 0 by decide, if_false]
    exact before i 0 (by omega)

/-! ### the document's cut -/
theorem ref_cut_loop (s : ByteArray) (c : UInt8) (hs : s.size ≤ 1048576) : ∀ (m i j : Nat) (acc : List ByteArray), i + m = s.data.toList.length → j ≤ i → acc.length ≤ i →
    Ev (fun k => posternref09_cut.l0 k s (c.toNat : Int) acc (j : Int) (i : Int)) (acc ++ (ahead1 ((s.data.toList.drop j).take (i - j)) (splitC c (s.data.toList.drop i))).map BA)
  | 0, i, j, acc, hm, hj, ha => by
    have hz := size_len s
    refine Ev.step (f := fun k => some (acc ++ (ahead1 ((s.data.toList.drop j).take (i - j)) (splitC c (s.data.toList.drop i))).map BA)) (fun k => ?_) (Ev.now _)
    simp only [posternref09_cut.l0]
    rw [if_neg (by omega), if_pos (by omega), if_pos (by omega), if_pos (by omega), List.drop_of_length_le (i := i) (by omega)]
    simp only [splitC, ahead1, List.map_cons, List.map_nil, List.append_nil, Int.toNat_natCast]
    rw [extract_tail, List.take_of_length_le (by simp; omega)]
  | m + 1, i, j, acc, hm, hj, ha => by
    have hz := size_len s
    have hi : i < s.data.toList.length := by omega
    have w1 : wrap64 ((i : Int) + 1) = ((i + 1 : Nat) : Int) := by rw [wrap64_in _ (by omega)]; omega
    have hdrop := List.drop_eq_getElem_cons hi
    have ih := ref_cut_loop s c hs m (i + 1)
    by_cases hc : s.data.toList[i] = c
    · refine Ev.step (f := fun k => posternref09_cut.l0 k s (c.toNat : Int) (acc ++ [BA ((s.data.toList.drop j).take (i - j))]) ((i + 1 : Nat) : Int) ((i + 1 : Nat) : Int)) (fun k => ?_) ?_
      · simp only [posternref09_cut.l0]
        rw [w1, if_pos (by omega), if_pos (by omega), bt_get s i hi, if_pos ((byte_eq _ _).2 hc), if_pos (by omega), if_pos (by omega), if_pos (by omega), if_pos (by omega)]
        simp only [Int.toNat_natCast]
        rw [extract_ba]
      · have e := ih (i + 1) (acc ++ [BA ((s.data.toList.drop j).take (i - j))]) (by omega) (Nat.le_refl _) (by simp; omega)
        rw [Nat.sub_self, List.take_zero, ahead1_nil (splitC_ne _ _)] at e
        rw [hdrop, hc, splitC_eq]
        simpa [ahead1] using e
    · refine Ev.step (f := fun k => posternref09_cut.l0 k s (c.toNat : Int) acc (j : Int) ((i + 1 : Nat) : Int)) (fun k => ?_) ?_
      · simp only [posternref09_cut.l0]
        rw [w1, if_pos (by omega), if_pos (by omega), bt_get s i hi, if_neg (mt (byte_eq _ _).1 hc)]
      · have e := ih j acc (by omega) (by omega) (by omega)
        rw [hdrop, splitC_cons hc, ahead1_ahead1]
        have hp : (s.data.toList.drop j).take (i - j) ++ [s.data.toList[i]] = (s.data.toList.drop j).take (i + 1 - j) := by
          rw [show i + 1 - j = (i - j) + 1 by omega, List.take_succ_eq_append_getElem (by simp; omega)]
          congr 2
          simp [show j + (i - j) = i by omega]
        rw [hp]
        exact e
theorem ref_cut (s : ByteArray) (c : UInt8) (hs : s.size ≤ 1048576) : Ev (fun k => posternref09_cut.f k s (c.toNat : Int)) ((splitC c s.data.toList).map BA) := by
  have := ref_cut_loop s c hs s.data.toList.length 0 0 [] (by omega) (Nat.le_refl _) (Nat.le_refl _)
  simp only [List.nil_append, List.drop_zero, Nat.sub_self, List.take_zero] at this
  rw [ahead1_nil (splitC_ne _ _)] at this
  exact this

/-! ### a sequence -/
def seqL : List (List UInt8) → List Int → Int → List Int × Int × Int
  | [], acc, _ => (acc, 0, 0)
  | w :: ws, acc, n => if (pointV w).2 = 0 then seqL ws (acc ++ [(pointV w).1]) (n + 1) else ([], n, 90)
def some_ (w : List UInt8) : Bool := !w.isEmpty
def seqV (l : List UInt8) : List Int × Int × Int := seqL ((splitC 32 l).filter some_) [] 0
theorem filter_ba (L : List (List UInt8)) : (L.map BA).filter (fun x => !emptyB x) = (L.filter some_).map BA := by
  rw [List.filter_map]
  congr 1
  apply List.filter_congr
  intro w _
  simp only [Function.comp_apply, some_, emptyB, toList_data, ba_list]
  cases w <;> rfl
theorem rd_map (L : List (List UInt8)) (i : Nat) (hi : i < L.length) : rdOf ByteArray.empty (L.map BA) (i : Int) = BA L[i] := by
  unfold rdOf
  rw [Int.toNat_natCast, List.getD_eq_getElem?_getD, List.getElem?_map, List.getElem?_eq_getElem hi]
  rfl
theorem splitC_part (c : UInt8) (l : List UInt8) : ∀ w ∈ splitC c l, w.length ≤ l.length := by
  induction l with
  | nil => intro w hw; simp [splitC] at hw; simp [hw]
  | cons b l ih =>
    intro w hw
    by_cases hb : b = c
    · subst hb
      rw [splitC_eq] at hw
      rcases List.mem_cons.1 hw with rfl | hw
      · simp
      · have := ih w hw; simp; omega
    · rw [splitC_cons hb] at hw
      cases hL : splitC c l with
      | nil => exact absurd hL (splitC_ne c l)
      | cons p ps =>
        rw [hL] at hw ih
        simp only [ahead1] at hw
        rcases List.mem_cons.1 hw with rfl | hw
        · have := ih p (by simp); simp at *; omega
        · have := ih w (by simp [hw]); simp; omega
theorem line_seq_loop (L : List (List UInt8)) (hL : L.length ≤ 1048577) (hw : ∀ w ∈ L, w.length ≤ 1048576) : ∀ (m i : Nat) (acc : List Int), i + m = L.length → acc.length = i →
    Ev (fun k => line_Sequence.l0 k acc (L.map BA) (L.length : Int) (i : Int)) (seqL (L.drop i) acc (i : Int))
  | 0, i, acc, hm, ha => by
    rw [List.drop_of_length_le (by omega)]
    refine Ev.step (f := fun k => some (acc, 0, 0)) (fun k => ?_) (Ev.now _)
    simp only [line_Sequence.l0]
    rw [if_neg (by omega)]
  | m + 1, i, acc, hm, ha => by
    have hi : i < L.length := by omega
    have w1 : wrap64 ((i : Int) + 1) = ((i + 1 : Nat) : Int) := by rw [wrap64_in _ (by omega)]; omega
    have hsz : (BA L[i]).size ≤ 9223372036854775807 := by rw [ba_size]; have := hw _ (List.getElem_mem hi); omega
    rw [List.drop_eq_getElem_cons hi]
    have ih := line_seq_loop L hL hw m (i + 1) (acc ++ [(pointV L[i]).1]) (by omega) (by simp; omega)
    rw [seqL]
    have key : ∀ k, line_Sequence.l0 (k + 1) acc (L.map BA) (L.length : Int) (i : Int) = if (pointV L[i]).2 = 0 then line_Sequence.l0 k (acc ++ [(pointV L[i]).1]) (L.map BA) (L.length : Int) ((i + 1 : Nat) : Int) else some (([] : List Int), (i : Int), 90) := by
      intro k
      simp only [line_Sequence.l0]
      rw [w1, if_pos (by omega), if_pos (by omega), if_pos (by simp; omega), rd_map L i hi, line_point _ hsz]
      simp only [Option.bind_some, ba_list]
      rw [if_pos (show acc.length < 35184372088832 by omega)]
    refine Ev.step key ?_
    by_cases hp : (pointV L[i]).2 = 0
    · simp only [if_pos hp]
      exact ih
    · simp only [if_neg hp]
      exact Ev.now _
theorem line_seq (s : ByteArray) (hs : s.size ≤ 1048576) : Ev (fun k => line_Sequence.f k s) (seqV s.data.toList) := by
  have hz := size_len s
  have h1 := splitC_len 32 s.data.toList
  have h2 := List.length_filter_le some_ (splitC 32 s.data.toList)
  have e := line_seq_loop ((splitC 32 s.data.toList).filter some_) (by omega) (fun w hw => by have := splitC_part 32 s.data.toList w (List.mem_filter.1 hw).1; omega) _ 0 [] (Nat.zero_add _) rfl
  refine Ev.congr (fun k => ?_) e
  unfold line_Sequence.f line_words.f
  rw [if_pos (by omega)]
  rw [show (⟨#[32]⟩ : ByteArray) = BA [32] from rfl, splitB_one, filter_ba]
  simp only [Option.bind_some, List.length_map]
  rfl
theorem ref_seq_loop (L : List (List UInt8)) (hL : L.length ≤ 1048577) : ∀ (m i : Nat) (n : Nat) (acc : List Int), i + m = L.length → acc.length ≤ i → n ≤ i →
    Ev (fun k => posternref09_Sequence.l0 k acc (L.map BA) (n : Int) (i : Int)) (seqL ((L.drop i).filter some_) acc (n : Int))
  | 0, i, n, acc, hm, ha, hn => by
    rw [List.drop_of_length_le (by omega)]
    refine Ev.step (f := fun k => some (acc, 0, 0)) (fun k => ?_) (Ev.now _)
    simp only [posternref09_Sequence.l0]
    rw [if_neg (by simp; omega)]
  | m + 1, i, n, acc, hm, ha, hn => by
    have hi : i < L.length := by omega
    have w1 : wrap64 ((i : Int) + 1) = ((i + 1 : Nat) : Int) := by rw [wrap64_in _ (by omega)]; omega
    have w2 : wrap64 ((n : Int) + 1) = ((n + 1 : Nat) : Int) := by rw [wrap64_in _ (by omega)]; omega
    rw [List.drop_eq_getElem_cons hi]
    by_cases he : L[i] = []
    · rw [List.filter_cons_of_neg (by simp [some_, he])]
      refine Ev.step (f := fun k => posternref09_Sequence.l0 k acc (L.map BA) (n : Int) ((i + 1 : Nat) : Int)) (fun k => ?_) (ref_seq_loop L hL m (i + 1) n acc (by omega) (by omega) (by omega))
      simp only [posternref09_Sequence.l0]
      rw [w1, if_pos (by simp; omega), if_pos (by omega), rd_map L i hi, toList_data, ba_list, if_pos he]
    · rw [List.filter_cons_of_pos (by simp [some_, he]), seqL]
      have key : ∀ k, posternref09_Sequence.l0 (k + 1) acc (L.map BA) (n : Int) (i : Int) = (posternref09_Point.f k (BA L[i])).bind fun p => if p.2 = 0 then posternref09_Sequence.l0 k (acc ++ [p.1]) (L.map BA) ((n + 1 : Nat) : Int) ((i + 1 : Nat) : Int) else some (([] : List Int), (n : Int), 90) := by
        intro k
        simp only [posternref09_Sequence.l0]
        rw [w1, w2, if_pos (by simp; omega), if_pos (by omega), rd_map L i hi, toList_data, ba_list, if_neg he]
        simp only [if_pos (show acc.length < 35184372088832 by omega)]
      refine Ev.step key (Ev.bind (ref_point _) ?_)
      rw [ba_list]
      by_cases hp : (pointV L[i]).2 = 0
      · simp only [if_pos hp]
        exact ref_seq_loop L hL m (i + 1) (n + 1) (acc ++ [(pointV L[i]).1]) (by omega) (by simp; omega) (by omega)
      · simp only [if_neg hp]
        exact Ev.now _
theorem ref_seq (s : ByteArray) (hs : s.size ≤ 1048576) : Ev (fun k => posternref09_Sequence.f k s) (seqV s.data.toList) := by
  have hz := size_len s
  have h1 := splitC_len 32 s.data.toList
  have e := ref_seq_loop (splitC 32 s.data.toList) (by omega) _ 0 0 [] (Nat.zero_add _) (Nat.le_refl _) (Nat.le_refl _)
  exact Ev.bind (ref_cut s 32 hs) e

/-! ### a number -/
def wholeT (l : List UInt8) : List UInt8 := if l.head? = some 45 then l.tail else l
def wholeN (t : List UInt8) : Option Int := if t.length < 1 ∨ 9 < t.length then none else digL 10 t 0
def wholeV (l : List UInt8) : Int × Int := match wholeN (wholeT l) with
  | none => (0, 92)
  | some n => if wholeT l = l then (n, 0) else (-n, 0)
theorem wholeN_some {t : List UInt8} (h : ¬ (t.length < 1 ∨ 9 < t.length)) : wholeN t = digL 10 t 0 := if_neg h
theorem wholeN_lt {t : List UInt8} {n : Int} (h : wholeN t = some n) : 0 ≤ n ∧ n < 1000000000 := by
  unfold wholeN at h
  by_cases hl : t.length < 1 ∨ 9 < t.length
  · rw [if_pos hl] at h; cases h
  · rw [if_neg hl] at h
    obtain ⟨b0, b1⟩ := digL_bound (by decide) t 0 n h (Int.le_refl 0)
    have hp : (10 : Int) ^ t.length ≤ 1000000000 := by
      have : t.length = 1 ∨ t.length = 2 ∨ t.length = 3 ∨ t.length = 4 ∨ t.length = 5 ∨ t.length = 6 ∨ t.length = 7 ∨ t.length = 8 ∨ t.length = 9 := by omega
      rcases this with h | h | h | h | h | h | h | h | h <;> rw [h] <;> decide
    have b2 : n + 1 ≤ 10 ^ t.length := by simpa using b1
    omega
theorem trim_minus (s : ByteArray) : strings_TrimPrefix.f s (⟨#[45]⟩ : ByteArray) = some (BA (wholeT s.data.toList)) := by
  have hz := size_len s
  have e1 : ((⟨#[45]⟩ : ByteArray).size : Int) = 1 := rfl
  unfold strings_TrimPrefix.f stringslite_TrimPrefix.f stringslite_HasPrefix.f wholeT
  rw [e1]
  by_cases h0 : s.data.toList = []
  · have hz0 : s.size = 0 := by rw [hz, h0]; rfl
    rw [if_neg (by omega)]
    simp [h0]
    rw [← ba_of s, h0]
  · have hl : 0 < s.data.toList.length := List.length_pos_iff.2 h0
    rw [if_pos (by omega), if_pos (by omega), if_pos (by omega)]
    obtain ⟨b, r, hs⟩ := List.exists_cons_of_ne_nil h0
    simp only [Option.bind_some]
    rw [toList_data, extract_head, ba_list, toList_data, extract_tail, hs]
    simp only [show (1 : Int).toNat = 1 from rfl, List.take_succ_cons, List.take_zero, List.head?_cons, List.tail_cons, List.drop_succ_cons, List.drop_zero, Option.some.injEq]
    by_cases hb : b = 45
    · subst hb
      simp
      omega
    · have : ([b] == [45]) = false := by simpa using hb
      rw [this]
      simp [hb]
      rw [← ba_of s, hs]
theorem line_whole (s : ByteArray) (hs : s.size ≤ 1048576) : Ev (fun k => line_Whole.f k s) (wholeV s.data.toList) := by
  have hz := size_len s
  unfold line_Whole.f
  rw [trim_minus]
  simp only [Option.bind_some]
  have hsz : (wholeT s.data.toList).length ≤ s.data.toList.length := by unfold wholeT; split <;> simp
  have hcmp : ((BA (wholeT s.data.toList)).toList = s.toList) ↔ wholeT s.data.toList = s.data.toList := by rw [toList_data, toList_data, ba_list]
  have htrue : Ev (fun k => line_Whole.j0 k s (BA (wholeT s.data.toList)) 0 true) (0, 92) := Ev.step (f := fun k => some (0, 92)) (fun k => by simp only [line_Whole.j0, if_true]) (Ev.now _)
  have htrue' : ∀ n, Ev (fun k => line_Whole.j0 k s (BA (wholeT s.data.toList)) n true) (0, 92) := fun n => Ev.step (f := fun k => some (0, 92)) (fun k => by simp only [line_Whole.j0, if_true]) (Ev.now _)
  unfold octet_Number.f wholeV
  rw [if_pos (by rw [ba_size]; omega)]
  simp only [Option.bind_some, ba_list]
  generalize wholeT s.data.toList = t at *
  by_cases h0 : t = []
  · subst h0
    rw [show numV [] 10 = (0, 0, 12) from rfl]
    simp only [show ¬ (12 : Int) = 0 by decide, if_false]
    rw [show wholeN [] = none from rfl]
    exact htrue
  · have hv : numV t 10 = numL 10 t 0 0 := by unfold numV; rw [if_neg (by omega), if_neg h0]
    rw [hv]
    by_cases h9 : 9 < t.length
    · have h9' : decide (((BA t).size : Int) > 9) = true := decide_eq_true (by rw [ba_size]; omega)
      rw [show wholeN t = none from if_pos (.inr h9)]
      simp only [h9', ite_self]
      exact htrue' _
    · have hl : 0 < t.length := List.length_pos_iff.2 h0
      have h9' : decide (((BA t).size : Int) > 9) = false := decide_eq_false (by rw [ba_size]; omega)
      rw [wholeN_some (by omega)]
      simp only [h9']
      rcases numL_digL 10 t 0 0 with ⟨h1, j, h2⟩ | ⟨N, h1, h2⟩
      · rw [h1, h2]
        simp only [show ¬ (12 : Int) = 0 by decide, if_false]
        exact htrue
      · have hN := wholeN_lt (t := t) (n := N) (by rw [wholeN_some (by omega), h1])
        rw [h1, h2, if_neg (by omega)]
        simp only [if_true]
        refine Ev.step (f := fun k => some (if t = s.data.toList then (N, 0) else (-N, 0))) (fun k => ?_) (Ev.now _)
        simp only [line_Whole.j0, Bool.false_eq_true, if_false]
        by_cases hc : t = s.data.toList
        · rw [if_pos (hcmp.2 hc), if_pos hc, wrap64_in N (by omega)]
        · rw [if_neg (mt hcmp.1 hc), if_neg hc, wrap64_in N (by omega), wrap64_in (-N) (by omega)]
theorem dec_iff (c : UInt8) : (digV (c.toNat : Int) 10 < 0 ↔ (c.toNat : Int) < 48 ∨ (c.toNat : Int) > 57) ∧ (¬ digV (c.toNat : Int) 10 < 0 → digV (c.toNat : Int) 10 = (c.toNat : Int) - 48) := by
  have := c.toNat_lt
  unfold digV digN
  rw [if_neg (by decide)]
  constructor
  · (repeat' split) <;> omega
  · (repeat' split) <;> omega
theorem ref_whole_loop (s : ByteArray) (t : List UInt8) (ht : t.length ≤ 9) : ∀ (m i : Nat) (n : Int), i + m = t.length → 0 ≤ n → n + 1 ≤ 10 ^ i →
    Ev (fun k => posternref09_Whole.l0 k s (BA t) n (i : Int)) (match digL 10 (t.drop i) n with | none => (0, 92) | some n => if t = s.data.toList then (n, 0) else (-n, 0))
  | 0, i, n, hm, h0, hn => by
    have hp : (10 : Int) ^ i ≤ 1000000000 := by
      have : i = 0 ∨ i = 1 ∨ i = 2 ∨ i = 3 ∨ i = 4 ∨ i = 5 ∨ i = 6 ∨ i = 7 ∨ i = 8 ∨ i = 9 := by omega
      rcases this with h | h | h | h | h | h | h | h | h | h <;> rw [h] <;> decide
    have hcmp : ((BA t).toList = s.toList) ↔ t = s.data.toList := by rw [toList_data, toList_data, ba_list]
    rw [List.drop_of_length_le (by omega)]
    refine Ev.step (f := fun k => some (if t = s.data.toList then (n, 0) else (-n, 0))) (fun k => ?_) (Ev.now _)
    simp only [posternref09_Whole.l0]
    rw [if_neg (by rw [ba_size]; omega)]
    by_cases hc : t = s.data.toList
    · rw [if_pos (hcmp.2 hc), if_pos hc]
    · rw [if_neg (mt hcmp.1 hc), if_neg hc, wrap64_in (-n) (by omega)]
  | m + 1, i, n, hm, h0, hn => by
    have hi : i < t.length := by omega
    have hp : (10 : Int) ^ i ≤ 100000000 := by
      have : i = 0 ∨ i = 1 ∨ i = 2 ∨ i = 3 ∨ i = 4 ∨ i = 5 ∨ i = 6 ∨ i = 7 ∨ i = 8 := by omega
      rcases this with h | h | h | h | h | h | h | h | h <;> rw [h] <;> decide
    have w1 : wrap64 ((i : Int) + 1) = ((i + 1 : Nat) : Int) := by rw [wrap64_in _ (by omega)]; omega
    have ih := ref_whole_loop s t ht m (i + 1)
    obtain ⟨d1, d2⟩ := dec_iff t[i]
    have hlt := t[i].toNat_lt
    rw [List.drop_eq_getElem_cons hi]
    rw [show digL 10 (t[i] :: t.drop (i + 1)) n = if digV (t[i].toNat : Int) 10 < 0 then none else digL 10 (t.drop (i + 1)) (n * 10 + digV (t[i].toNat : Int) 10) from rfl]
    by_cases hd : digV (t[i].toNat : Int) 10 < 0
    · rw [if_pos hd]
      refine Ev.step (f := fun k => some (0, 92)) (fun k => ?_) (Ev.now _)
      simp only [posternref09_Whole.l0]
      rw [if_pos (by rw [ba_size]; omega), if_pos (by omega), bt_get (BA t) i hi]
      rcases d1.1 hd with h | h
      · rw [if_pos (by exact h)]
      · by_cases h' : (t[i].toNat : Int) < 48
        · rw [if_pos (by exact h')]
        · rw [if_neg (by exact h'), if_pos (by exact h)]
    · rw [if_neg hd, d2 hd]
      have hr : ¬ ((t[i].toNat : Int) < 48 ∨ (t[i].toNat : Int) > 57) := mt d1.2 hd
      refine Ev.step (f := fun k => posternref09_Whole.l0 k s (BA t) (n * 10 + ((t[i].toNat : Int) - 48)) ((i + 1 : Nat) : Int)) (fun k => ?_) (ih (n * 10 + ((t[i].toNat : Int) - 48)) (by omega) (by omega) (by rw [Int.pow_succ]; omega))
      simp only [posternref09_Whole.l0]
      rw [if_pos (by rw [ba_size]; omega), if_pos (by omega), bt_get (BA t) i hi, w1]
      show (if (t[i].toNat : Int) < 48 then _ else _) = _
      rw [if_neg (by omega)]
      show (if (t[i].toNat : Int) > 57 then _ else _) = _
      rw [if_neg (by omega)]
      show posternref09_Whole.l0 k s (BA t) (wrap64 (wrap64 (10 * n) + ((t[i].toNat : Int) - 48) % 256)) _ = _
      rw [wrap64_in (10 * n) (by omega), wrap64_in _ (by omega)]
      congr 1
      omega
theorem ref_whole (s : ByteArray) (hs : s.size ≤ 1048576) : Ev (fun k => posternref09_Whole.f k s) (wholeV s.data.toList) := by
  have hz := size_len s
  have j1 : Ev (fun k => posternref09_Whole.j1 k s (BA (wholeT s.data.toList))) (wholeV s.data.toList) := by
    unfold wholeV
    generalize wholeT s.data.toList = t
    have htrue : Ev (fun k => posternref09_Whole.j2 k s (BA t) true) (0, 92) := Ev.step (f := fun k => some (0, 92)) (fun k => by simp only [posternref09_Whole.j2, if_true]) (Ev.now _)
    by_cases h1 : t.length < 1
    · rw [show wholeN t = none from if_pos (.inl h1)]
      exact Ev.step (f := fun k => posternref09_Whole.j2 k s (BA t) true) (fun k => by simp only [posternref09_Whole.j1]; rw [if_pos (by rw [ba_size]; omega)]) htrue
    · by_cases h9 : 9 < t.length
      · rw [show wholeN t = none from if_pos (.inr h9)]
        exact Ev.step (f := fun k => posternref09_Whole.j2 k s (BA t) true) (fun k => by simp only [posternref09_Whole.j1]; rw [if_neg (by rw [ba_size]; omega), decide_eq_true (by rw [ba_size]; omega)]) htrue
      · rw [wholeN_some (by omega)]
        refine Ev.step (f := fun k => posternref09_Whole.j2 k s (BA t) false) (fun k => by simp only [posternref09_Whole.j1]; rw [if_neg (by rw [ba_size]; omega), decide_eq_false (by rw [ba_size]; omega)]) ?_
        refine Ev.step (f := fun k => posternref09_Whole.l0 k s (BA t) 0 ((0 : Nat) : Int)) (fun k => by simp only [posternref09_Whole.j2, Bool.false_eq_true, if_false]; rfl) ?_
        exact ref_whole_loop s t (by omega) _ 0 0 (Nat.zero_add _) (Int.le_refl 0) (by decide)
  by_cases h0 : s.data.toList = []
  · have ht : wholeT s.data.toList = s.data.toList := by rw [h0]; rfl
    rw [ht, ba_of] at j1
    have hz0 : s.size = 0 := by rw [hz, h0]; rfl
    refine Ev.congr (f := fun k => posternref09_Whole.j0 k s s false) (fun k => by simp only [posternref09_Whole.f]; rw [if_neg (by omega)]) ?_
    exact Ev.step (f := fun k => posternref09_Whole.j1 k s s) (fun k => by simp only [posternref09_Whole.j0, Bool.false_eq_true, if_false]) j1
  · have hl : 0 < s.data.toList.length := List.length_pos_iff.2 h0
    have hb := bt_get s 0 hl
    obtain ⟨b, r, hs'⟩ := List.exists_cons_of_ne_nil h0
    have hb' : bt s 0 = (b.toNat : Int) := by
      have e : s.data.toList[0] = b := by simp [hs']
      rw [e] at hb
      exact hb
    refine Ev.congr (f := fun k => posternref09_Whole.j0 k s s ((b.toNat : Int) == 45)) (fun k => by simp only [posternref09_Whole.f]; rw [if_pos (by omega), if_pos (by omega), hb']) ?_
    by_cases h45 : b = 45
    · have ht : wholeT s.data.toList = r := by rw [hs', h45]; rfl
      rw [ht] at j1
      refine Ev.step (f := fun k => posternref09_Whole.j1 k s (BA r)) (fun k => ?_) j1
      simp only [posternref09_Whole.j0]
      rw [if_pos (by rw [h45]; rfl), if_pos (by omega), extract_tail, hs']
      rfl
    · have ht : wholeT s.data.toList = s.data.toList := by rw [hs']; unfold wholeT; rw [if_neg (by simpa using h45)]
      rw [ht, ba_of] at j1
      refine Ev.step (f := fun k => posternref09_Whole.j1 k s s) (fun k => ?_) j1
      simp only [posternref09_Whole.j0]
      have hne : ((b.toNat : Int) == 45) = false := by
        rw [beq_eq_false_iff_ne]
        intro e
        exact h45 ((byte_eq b 45).1 e)
      rw [hne]
      simp
end Go.Proofs.YtllhdekhgbbibaaDoor
