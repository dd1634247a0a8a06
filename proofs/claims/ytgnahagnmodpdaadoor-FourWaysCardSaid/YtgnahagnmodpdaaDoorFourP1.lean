/- FourNumbers, plainly: numbers, parts and ends as the program and the document have them. -/
import Derived.Test.YtgnahagnmodpdaaDoorFourV
import Derived.Test.YtgnahagnmodpdaaDoorDec
import Derived.Test.YtgnahagnmodpdaaDoorFourParse
import Derived.Test.YtgnahagnmodpdaaDoorX3
import Derived.Test.YtgnahagnmodpdaaDoorX4
import Derived.Test.YtgnahagnmodpdaaDoorX4
import Derived.Test.YtgnahagnmodpdaaDoorX5
import Derived.Test.YtgnahagnmodpdaaDoorX10
namespace Go.Proofs.YtgnahagnmodpdaaDoor
open Go.RowKit Go.Proofs.YtgnahagnmodpdaaDoorW.PrintWords Go.Proofs.YtgnahagnmodpdaaDoor.X Go.IntWalk
set_option linter.unusedVariables false
set_option linter.unusedSimpArgs false

theorem digV16 {c base : Int} (h2 : 2 ≤ base) (h16 : base ≤ 16) : digV c base = if 48 ≤ c ∧ c ≤ 57 then (if c - 48 < base then c - 48 else -1) else if 65 ≤ c ∧ c ≤ 70 then (if c - 55 < base then c - 55 else -1) else if 97 ≤ c ∧ c ≤ 102 then (if c - 87 < base then c - 87 else -1) else -1 := by
  unfold digV digN
  rw [if_neg (by omega)]
  (repeat' split) <;> omega
theorem ref_digit (c base : Int) (h0 : 0 ≤ c) (h1 : c < 256) (h2 : 2 ≤ base) (h16 : base ≤ 16) : Ev (fun k => posternref20_digit.f k c base) (digV c base) := by
  rw [digV16 h2 h16]
  have j2 : ∀ b : Bool, Ev (fun k => posternref20_digit.j2 k c base (-1) b) (if b = true then (if (c - 65) % 256 + 10 ≥ base then -1 else (c - 65) % 256 + 10) else -1) := by
    intro b
    refine Ev.step (f := fun k => some (if b = true then (if (c - 65) % 256 + 10 ≥ base then -1 else (c - 65) % 256 + 10) else -1)) (fun k => ?_) (Ev.now _)
    simp only [posternref20_digit.j2]
    (repeat' split) <;> first | rfl | omega
  have j1 : ∀ b : Bool, Ev (fun k => posternref20_digit.j1 k c base (-1) b) (if b = true then (if (c - 97) % 256 + 10 ≥ base then -1 else (c - 97) % 256 + 10) else if (decide (65 ≤ c) && decide (c ≤ 70)) = true then (if (c - 65) % 256 + 10 ≥ base then -1 else (c - 65) % 256 + 10) else -1) := by
    intro b
    by_cases hb : b = true
    · rw [if_pos hb]
      refine Ev.step (f := fun k => some (if (c - 97) % 256 + 10 ≥ base then -1 else (c - 97) % 256 + 10)) (fun k => ?_) (Ev.now _)
      simp only [posternref20_digit.j1]
      rw [if_pos hb]
      split <;> rfl
    · rw [if_neg hb]
      refine Ev.step (f := fun k => posternref20_digit.j2 k c base (-1) (decide (65 ≤ c) && decide (c ≤ 70))) (fun k => ?_) (j2 _)
      simp only [posternref20_digit.j1]
      rw [if_neg hb]
      by_cases h : c ≥ 65
      · rw [if_pos h, decide_eq_true (show 65 ≤ c from h), Bool.true_and]
      · rw [if_neg h, decide_eq_false (show ¬ 65 ≤ c from h), Bool.false_and]
  have j0 : ∀ b : Bool, Ev (fun k => posternref20_digit.j0 k c base (-1) b) (if b = true then (if (c - 48) % 256 ≥ base then -1 else (c - 48) % 256) else if (decide (97 ≤ c) && decide (c ≤ 102)) = true then (if (c - 97) % 256 + 10 ≥ base then -1 else (c - 97) % 256 + 10) else if (decide (65 ≤ c) && decide (c ≤ 70)) = true then (if (c - 65) % 256 + 10 ≥ base then -1 else (c - 65) % 256 + 10) else -1) := by
    intro b
    by_cases hb : b = true
    · rw [if_pos hb]
      refine Ev.step (f := fun k => some (if (c - 48) % 256 ≥ base then -1 else (c - 48) % 256)) (fun k => ?_) (Ev.now _)
      simp only [posternref20_digit.j0]
      rw [if_pos hb]
      split <;> rfl
    · rw [if_neg hb]
      refine Ev.step (f := fun k => posternref20_digit.j1 k c base (-1) (decide (97 ≤ c) && decide (c ≤ 102))) (fun k => ?_) (j1 _)
      simp only [posternref20_digit.j0]
      rw [if_neg hb]
      by_cases h : c ≥ 97
      · rw [if_pos h, decide_eq_true (show 97 ≤ c from h), Bool.true_and]
      · rw [if_neg h, decide_eq_false (show ¬ 97 ≤ c from h), Bool.false_and]
  have e := j0 (decide (48 ≤ c) && decide (c ≤ 57))
  refine Ev.congr (f := fun k => posternref20_digit.j0 k c base (-1) (decide (48 ≤ c) && decide (c ≤ 57))) (fun k => ?_) ?_
  · unfold posternref20_digit.f
    by_cases h : c ≥ 48
    · rw [if_pos h, decide_eq_true (show 48 ≤ c from h), Bool.true_and]
    · rw [if_neg h, decide_eq_false (show ¬ 48 ≤ c from h), Bool.false_and]
  · have er : ∀ a b : Int, a = b → Ev (fun k => posternref20_digit.j0 k c base (-1) (decide (48 ≤ c) && decide (c ≤ 57))) a → Ev (fun k => posternref20_digit.j0 k c base (-1) (decide (48 ≤ c) && decide (c ≤ 57))) b := fun a b h => h ▸ id
    refine er _ _ ?_ e
    simp only [Bool.and_eq_true, decide_eq_true_eq]
    (repeat' split) <;> omega

theorem refNumber_loop (base : Int) (hb : base = 16 ∨ base = 8 ∨ base = 10) (s : ByteArray) (hs : s.size ≤ 9223372036854775806) : ∀ (m i : Nat) (n : Int), i + m = s.data.toList.length → 0 ≤ n → n ≤ 4294967296 →
    Ev (fun k => posternref20_Number.l0 k s base n (i : Int)) (match capL base (s.data.toList.drop i) n with | none => (0, 0, 200) | some n => (n, base, 0))
  | 0, i, n, hm, h0, h1 => by
    have hz := size_len s
    rw [List.drop_of_length_le (by omega)]
    refine Ev.step (f := fun k => some (n, base, 0)) (fun k => ?_) (Ev.now _)
    simp only [posternref20_Number.l0]
    rw [if_neg (by omega)]
  | m + 1, i, n, hm, h0, h1 => by
    have hz := size_len s
    have hi : i < s.data.toList.length := by omega
    have w1 : wrap64 ((i : Int) + 1) = ((i + 1 : Nat) : Int) := by rw [wrap64_in _ (by omega)]; omega
    have hlt := s.data.toList[i].toNat_lt
    have hd := ref_digit (s.data.toList[i].toNat : Int) base (by omega) (by omega) (by omega) (by omega)
    have hdl := digV_lt (b := (s.data.toList[i].toNat : Int)) (base := base) (by omega)
    rw [List.drop_eq_getElem_cons hi, capL]
    have ih := refNumber_loop base hb s hs m (i + 1)
    have wu : ∀ x : Int, 0 ≤ x → x < 18446744073709551616 → IntKind.u64.wrap x = x := fun x a b => by simp [IntKind.wrap, IntKind.signed, IntKind.bits]; omega
    have key : ∀ k, posternref20_Number.l0 (k + 1) s base n (i : Int) = (posternref20_digit.f k (s.data.toList[i].toNat : Int) base).bind fun t => if t < 0 then some (0, 0, 200) else if IntKind.u64.wrap (IntKind.u64.wrap (n * IntKind.u64.wrap base) + IntKind.u64.wrap t) > 4294967296 then posternref20_Number.l0 k s base 4294967296 ((i + 1 : Nat) : Int) else posternref20_Number.l0 k s base (IntKind.u64.wrap (IntKind.u64.wrap (n * IntKind.u64.wrap base) + IntKind.u64.wrap t)) ((i + 1 : Nat) : Int) := by
      intro k
      simp only [posternref20_Number.l0]
      rw [if_pos (by omega), if_pos (by omega), bt_get s i hi, w1]
    refine Ev.step key (Ev.bind hd ?_)
    generalize digV (s.data.toList[i].toNat : Int) base = d at *
    by_cases hneg : d < 0
    · simp only [if_pos hneg]
      exact Ev.now _
    · simp only [if_neg hneg]
      have hnb : 0 ≤ n * base := Int.mul_nonneg h0 (by omega)
      have hnb2 : n * base ≤ 4294967296 * 16 := by rcases hb with h | h | h <;> subst h <;> omega
      rw [wu base (by omega) (by omega), wu (n * base) hnb (by omega), wu d (by omega) (by omega), wu _ (by omega) (by omega)]
      by_cases hg : n * base + d > 4294967296
      · simp only [if_pos hg, if_pos (show 4294967296 < n * base + d from hg)]
        exact ih _ (by omega) (by omega) (by omega)
      · simp only [if_neg hg, if_neg (show ¬ 4294967296 < n * base + d from hg)]
        exact ih _ (by omega) (by omega) (by omega)
theorem ref_number (s : ByteArray) (hs : s.size ≤ 9223372036854775806) : Ev (fun k => posternref20_Number.f k s) (numberV s.data.toList) := by
  have hz := size_len s
  have loop : ∀ (base : Int) (l : List UInt8), (base = 16 ∨ base = 8 ∨ base = 10) → l.length ≤ s.data.toList.length → Ev (fun k => posternref20_Number.j1 k (BA l) base) (match capL base l 0 with | none => (0, 0, 200) | some n => (n, base, 0)) := by
    intro base l hb hl
    refine Ev.step (f := fun k => posternref20_Number.l0 k (BA l) base 0 ((0 : Nat) : Int)) (fun k => by simp only [posternref20_Number.j1]; rfl) ?_
    exact refNumber_loop base hb (BA l) (by rw [ba_size]; omega) _ 0 0 (Nat.zero_add _) (Int.le_refl 0) (by decide)
  by_cases h0 : s.data.toList = []
  · rw [show numberV s.data.toList = (0, 0, 200) from if_pos h0]
    refine Ev.congr (f := fun k => some (0, 0, 200)) (fun k => ?_) (Ev.now _)
    unfold posternref20_Number.f
    rw [if_pos (by rw [toList_data]; exact h0)]
  · have hv : numberV s.data.toList = match capL (baseOf s.data.toList).1 (baseOf s.data.toList).2 0 with | none => (0, 0, 200) | some n => (n, (baseOf s.data.toList).1, 0) := if_neg h0
    rw [hv]
    have plain : baseOf s.data.toList = (10, s.data.toList) → Ev (fun k => posternref20_Number.j0 k s 10 false) (match capL (baseOf s.data.toList).1 (baseOf s.data.toList).2 0 with | none => (0, 0, 200) | some n => (n, (baseOf s.data.toList).1, 0)) := by
      intro eb
      rw [eb]
      refine Ev.step (f := fun k => posternref20_Number.j1 k (BA s.data.toList) 10) (fun k => ?_) (loop 10 _ (.inr (.inr rfl)) (Nat.le_refl _))
      simp only [posternref20_Number.j0, Bool.false_eq_true, if_false]
      rw [ba_of]
    obtain ⟨b, r, hs'⟩ := List.exists_cons_of_ne_nil h0
    have hb0 : bt s 0 = (b.toNat : Int) := by
      have hl : 0 < s.data.toList.length := List.length_pos_iff.2 h0
      have e := bt_get s 0 hl
      have e2 : s.data.toList[0] = b := by simp [hs']
      rw [e2] at e
      exact e
    cases r with
    | nil =>
      have eb : baseOf s.data.toList = (10, s.data.toList) := by
        rw [hs']
        unfold baseOf
        split <;> simp_all
      have hl1 : s.data.toList.length = 1 := by rw [hs']; rfl
      refine Ev.congr (f := fun k => posternref20_Number.j0 k s 10 false) (fun k => ?_) (plain eb)
      unfold posternref20_Number.f
      rw [if_neg (by rw [toList_data]; exact h0), if_neg (by omega)]
    | cons c r2 =>
      have hl : s.data.toList.length = r2.length + 2 := by rw [hs']; rfl
      have hb1 : bt s 1 = (c.toNat : Int) := by
        have e := bt_get s 1 (by omega)
        have e2 : s.data.toList[1]'(by omega) = c := by simp [hs']
        rw [e2] at e
        exact e
      refine Ev.congr (f := fun k => posternref20_Number.j0 k s 10 ((b.toNat : Int) == 48)) (fun k => ?_) ?_
      · unfold posternref20_Number.f
        rw [if_neg (by rw [toList_data]; exact h0), if_pos (by omega), if_pos (by omega), hb0]
      by_cases hb : b = 48
      · subst hb
        rw [show (((48 : UInt8).toNat : Int) == 48) = true from rfl]
        by_cases hx : c = 120
        · subst hx
          refine Ev.step (f := fun k => posternref20_Number.j1 k (BA r2) 16) (fun k => ?_) (by rw [hs']; exact loop 16 r2 (.inl rfl) (by omega))
          simp only [posternref20_Number.j0, if_true]
          rw [if_pos (by omega), hb1, if_pos (show (((120 : UInt8).toNat : Nat) : Int) = 120 from rfl), if_pos (by omega), extract_tail, hs']
          rfl
        · have hx' : ¬ ((c.toNat : Int) = 120) := fun e => hx ((byte_eq c 120).1 e)
          by_cases hX : c = 88
          · subst hX
            refine Ev.step (f := fun k => posternref20_Number.j1 k (BA r2) 16) (fun k => ?_) (by rw [hs']; exact loop 16 r2 (.inl rfl) (by omega))
            simp only [posternref20_Number.j0, if_true]
            rw [if_pos (by omega), hb1, if_neg hx', if_pos (show (((88 : UInt8).toNat : Nat) : Int) = 88 from rfl), if_pos (by omega), extract_tail, hs']
            rfl
          · have hX' : ¬ ((c.toNat : Int) = 88) := fun e => hX ((byte_eq c 88).1 e)
            have eb : baseOf s.data.toList = (8, c :: r2) := by
              rw [hs']
              unfold baseOf
              split <;> simp_all
            rw [eb]
            refine Ev.step (f := fun k => posternref20_Number.j1 k (BA (c :: r2)) 8) (fun k => ?_) (loop 8 _ (.inr (.inl rfl)) (by rw [hs']; simp))
            simp only [posternref20_Number.j0, if_true]
            rw [if_pos (by omega), hb1, if_neg hx', if_neg hX', if_pos (by omega), extract_tail, hs']
            rfl
      · have eb : baseOf s.data.toList = (10, s.data.toList) := by
          rw [hs']
          unfold baseOf
          split <;> simp_all
        have hne : ((b.toNat : Int) == 48) = false := by
          rw [beq_eq_false_iff_ne]
          exact fun e => hb ((byte_eq b 48).1 e)
        rw [hne]
        exact plain eb
end Go.Proofs.YtgnahagnmodpdaaDoor
