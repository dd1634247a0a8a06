/- Strict, plainly: the address that is written just so, as the program and the document have it. -/
import Derived.Test.YtgnahagnmodpdaaDoorFourP1
import Derived.Laws.BitsAllLaws
import Derived.Test.YtgnahagnmodpdaaDoorX6
import Derived.Test.YtgnahagnmodpdaaDoorX6
namespace Go.Proofs.YtgnahagnmodpdaaDoor
open Go.RowKit Go.Proofs.YtgnahagnmodpdaaDoorW.PrintWords Go.Proofs.YtgnahagnmodpdaaDoor.X Go.IntWalk
set_option linter.unusedVariables false
set_option linter.unusedSimpArgs false

/-- The address of what is left: the place, the number and the count of the parts behind, the digits and the number of this part. -/
def strictL : List UInt8 → Nat → Int → Nat → Nat → Int → Int × Int × Int
  | [], i, n, part, size, x => if part < 3 ∨ size = 0 then (0, i, 203) else ((256 * n + x) % 4294967296, 0, 0)
  | c :: l, i, n, part, size, x => if 48 ≤ (c.toNat : Int) ∧ (c.toNat : Int) ≤ 57 ∧ (size = 0 ∨ 0 < x) ∧ 10 * x + ((c.toNat : Int) - 48) ≤ 255 then strictL l (i + 1) n part (size + 1) (10 * x + ((c.toNat : Int) - 48))
    else if c = 46 ∧ 0 < size ∧ part < 3 then strictL l (i + 1) ((256 * n + x) % 4294967296) (part + 1) 0 0 else (0, i, 203)
def strictV (l : List UInt8) : Int × Int × Int := strictL l 0 0 0 0 0
theorem or_part (n x : Int) (h0 : 0 ≤ n) (h1 : n < 4294967296) (k0 : 0 ≤ x) (k1 : x ≤ 255) : Go.bits .or .u32 ((n * 256) % 4294967296) (x % 4294967296) = (256 * n + x) % 4294967296 := by
  rw [Int.emod_eq_of_lt k0 (by omega)]
  obtain ⟨a, rfl⟩ := Int.eq_ofNat_of_zero_le h0
  obtain ⟨b, rfl⟩ := Int.eq_ofNat_of_zero_le k0
  rw [u32_or _ _ (by omega) (by omega) (by omega) (by omega)]
  have e : ((a : Int) * 256 % 4294967296).toNat = 2 ^ 8 * (a % 16777216) := by omega
  rw [e, Int.toNat_natCast, ← Nat.two_pow_add_eq_or_of_lt (show b < 2 ^ 8 by omega)]
  omega
theorem wdig (x c : Int) (x0 : 0 ≤ x) (x1 : x ≤ 255) (d0 : 48 ≤ c) (d1 : c ≤ 57) : wrap64 (wrap64 (10 * x) + (c - 48)) = 10 * x + (c - 48) := by
  rw [wrap64_in (10 * x) (by omega), wrap64_in _ (by omega)]
theorem wdigm (x c : Int) (x0 : 0 ≤ x) (x1 : x ≤ 255) (d0 : 48 ≤ c) (d1 : c ≤ 57) : wrap64 (wrap64 (10 * x) + (c - 48) % 256) = 10 * x + (c - 48) := by
  rw [show (c - 48) % 256 = c - 48 by omega, wdig x c x0 x1 d0 d1]
theorem wsucc (j : Nat) (h : j < 1099511627776) : wrap64 ((j : Int) + 1) = ((j + 1 : Nat) : Int) := by rw [wrap64_in _ (by omega)]; omega
theorem strict_l1 (s : ByteArray) (hs : s.size ≤ 4294967280) : ∀ (m i : Nat) (n x : Int) (part start : Nat), i + m = s.data.toList.length → start ≤ i → part ≤ 3 → 0 ≤ x → x ≤ 255 → 0 ≤ n → n < 4294967296 →
    Ev (fun k => four_Strict.l1 k s n (i : Int) (part : Int) x (start : Int) (part : Int)) (strictL (s.data.toList.drop i) i n part (i - start) x) := by
  have hz := size_len s
  intro m
  induction m with
  | zero =>
    intro i n x part start hm hst hp x0 x1 n0 n1
    rw [List.drop_of_length_le (by omega)]
    refine Ev.step (f := fun k => four_Strict.j2 k s n (i : Int) (part : Int) x (start : Int) (part : Int) false) (fun k => ?_) ?_
    · simp only [four_Strict.l1]
      rw [if_neg (by omega)]
    · refine Ev.step (f := fun k => some (strictL [] i n part (i - start) x)) (fun k => ?_) (Ev.now _)
      simp only [four_Strict.j2, strictL]
      rw [if_neg (by simp)]
      by_cases h1 : i = start
      · rw [if_pos (by omega), if_pos (.inr (by omega))]
      · rw [if_neg (by omega)]
        by_cases h3 : part = 3
        · rw [if_pos (by omega), if_neg (by omega), if_neg (by omega), or_part n x n0 n1 x0 x1]
        · rw [if_neg (by omega), if_pos (by omega), if_pos (.inl (by omega))]
  | succ m ih =>
    intro i n x part start hm hst hp x0 x1 n0 n1
    have hi : i < s.data.toList.length := by omega
    have hb := bt_get s i hi
    have hlt := s.data.toList[i].toNat_lt
    rw [List.drop_eq_getElem_cons hi]
    have c46 := byte_eq s.data.toList[i] 46
    rw [show (((46 : UInt8).toNat : Nat) : Int) = 46 from rfl] at c46
    generalize s.data.toList[i] = c at *
    rw [strictL]
    refine Ev.step (f := fun k => four_Strict.j2 k s n (i : Int) (part : Int) x (start : Int) (part : Int) (decide (48 ≤ (c.toNat : Int)) && decide ((c.toNat : Int) ≤ 57))) (fun k => ?_) ?_
    · simp only [four_Strict.l1]
      rw [if_pos (by omega), if_pos (by omega), hb]
      by_cases h : (c.toNat : Int) ≥ 48
      · rw [if_pos h, decide_eq_true (show 48 ≤ (c.toNat : Int) from h), Bool.true_and]
      · rw [if_neg h, decide_eq_false (show ¬ 48 ≤ (c.toNat : Int) from h), Bool.false_and]
    · by_cases hd : 48 ≤ (c.toNat : Int) ∧ (c.toNat : Int) ≤ 57
      · obtain ⟨d0, d1⟩ := hd
        rw [decide_eq_true d0, decide_eq_true d1, Bool.and_true]
        have hc : ¬ c = 46 := fun e => by have := c46.2 e; omega
        by_cases hok : (i - start = 0 ∨ 0 < x) ∧ 10 * x + ((c.toNat : Int) - 48) ≤ 255
        · rw [if_pos ⟨d0, d1, hok⟩]
          have e := ih (i + 1) n (10 * x + ((c.toNat : Int) - 48)) part start (by omega) (by omega) hp (by omega) (by omega) n0 n1
          rw [show i + 1 - start = i - start + 1 by omega] at e
          refine Ev.step (fun k => ?_) e
          simp only [four_Strict.j2]
          rw [if_pos trivial, if_pos (by omega), if_pos (by omega), hb, wdigm x c.toNat x0 x1 d0 d1, if_neg (by omega), wsucc i (by omega)]
          by_cases h2 : (i : Int) > (start : Int)
          · rw [if_pos h2, if_neg (by omega)]
          · rw [if_neg h2]
        · rw [if_neg (fun h => hok h.2.2), if_neg (fun h => hc h.1)]
          refine Ev.step (f := fun k => some (0, (i : Int), 203)) (fun k => ?_) (Ev.now _)
          simp only [four_Strict.j2]
          rw [if_pos trivial, if_pos (by omega), if_pos (by omega), hb, wdigm x c.toNat x0 x1 d0 d1]
          by_cases h2 : 10 * x + ((c.toNat : Int) - 48) > 255
          · rw [if_pos h2]
          · rw [if_neg h2, if_pos (by omega), if_pos (by omega)]
      · rw [if_neg (fun h => hd ⟨h.1, h.2.1⟩)]
        have hf : (decide (48 ≤ (c.toNat : Int)) && decide ((c.toNat : Int) ≤ 57)) = false := by
          rw [Bool.and_eq_false_iff, decide_eq_false_iff_not, decide_eq_false_iff_not]
          omega
        rw [hf]
        by_cases hok : c = 46 ∧ 0 < i - start ∧ part < 3
        · rw [if_pos hok]
          have e := ih (i + 1) ((256 * n + x) % 4294967296) 0 (part + 1) (i + 1) (by omega) (by omega) (by omega) (by omega) (by omega) (by omega) (by omega)
          rw [show i + 1 - (i + 1) = 0 by omega] at e
          refine Ev.step (f := fun k => four_Strict.l0 k s ((256 * n + x) % 4294967296) ((i + 1 : Nat) : Int) ((part + 1 : Nat) : Int)) (fun k => ?_) (Ev.step (fun k => ?_) e)
          · simp only [four_Strict.j2]
            rw [if_neg (by simp), if_neg (by omega), if_neg (by omega), if_neg (by omega), if_pos (by omega), if_pos (by omega), hb, if_pos (c46.2 hok.1), or_part n x n0 n1 x0 x1, wsucc i (by omega), wsucc part (by omega)]
          · simp only [four_Strict.l0]
            rw [if_pos (by omega)]
        · rw [if_neg hok]
          refine Ev.step (f := fun k => some (0, (i : Int), 203)) (fun k => ?_) (Ev.now _)
          simp only [four_Strict.j2]
          rw [if_neg (by simp)]
          by_cases h1 : (i : Int) = (start : Int)
          · rw [if_pos h1]
          · rw [if_neg h1]
            by_cases h3 : (part : Int) = 3
            · rw [if_pos h3, if_pos (by omega)]
            · rw [if_neg h3, if_neg (by omega), if_pos (by omega), if_pos (by omega), hb, if_neg (fun e => hok ⟨c46.1 e, by omega, by omega⟩)]
theorem strict_ev (s : ByteArray) (hs : s.size ≤ 4294967280) : Ev (fun k => four_Strict.f k s) (strictV s.data.toList) := by
  have e := strict_l1 s hs s.data.toList.length 0 0 0 0 0 (by omega) (by omega) (by omega) (by omega) (by omega) (by omega) (by omega)
  refine Ev.congr (f := fun k => four_Strict.l0 k s 0 0 0) (fun k => rfl) (Ev.step (fun k => ?_) e)
  simp only [four_Strict.l0]
  rw [if_pos (by decide)]
  rfl
theorem digV10 (c : Nat) (h : c < 256) : digV (c : Int) 10 = if 48 ≤ (c : Int) ∧ (c : Int) ≤ 57 then (c : Int) - 48 else -1 := by
  rw [digV16 (by decide) (by decide)]
  (repeat' split) <;> omega
theorem refStrict_l0 (s : ByteArray) (hs : s.size ≤ 4294967280) : ∀ (m i : Nat) (n x : Int) (part size : Nat), i + m = s.data.toList.length → size ≤ i → part ≤ 3 → 0 ≤ x → x ≤ 255 → 0 ≤ n → n < 4294967296 →
    Ev (fun k => posternref20_Strict.l0 k s n (part : Int) (size : Int) x (i : Int)) (strictL (s.data.toList.drop i) i n part size x) := by
  have hz := size_len s
  intro m
  induction m with
  | zero =>
    intro i n x part size hm hst hp x0 x1 n0 n1
    rw [List.drop_of_length_le (by omega)]
    refine Ev.step (f := fun k => some (strictL [] i n part size x)) (fun k => ?_) (Ev.now _)
    simp only [posternref20_Strict.l0, strictL]
    rw [if_neg (by omega)]
    by_cases h3 : part < 3
    · rw [if_pos (by omega), if_pos (.inl h3), show (s.size : Int) = (i : Int) by omega]
    · rw [if_neg (by omega)]
      by_cases h1 : size = 0
      · rw [if_pos (by omega), if_pos (.inr h1), show (s.size : Int) = (i : Int) by omega]
      · rw [if_neg (by omega), if_neg (by omega), show (256 * n % 4294967296 + x % 4294967296) % 4294967296 = (256 * n + x) % 4294967296 by omega]
  | succ m ih =>
    intro i n x part size hm hst hp x0 x1 n0 n1
    have hi : i < s.data.toList.length := by omega
    have hb := bt_get s i hi
    have hlt := s.data.toList[i].toNat_lt
    rw [List.drop_eq_getElem_cons hi]
    have c46 := byte_eq s.data.toList[i] 46
    rw [show (((46 : UInt8).toNat : Nat) : Int) = 46 from rfl] at c46
    have hdig := ref_digit (s.data.toList[i].toNat : Int) 10 (by omega) (by omega) (by decide) (by decide)
    rw [digV10 _ hlt] at hdig
    generalize s.data.toList[i] = c at *
    rw [strictL]
    have false_to : ∀ d : Int, Ev (fun k => posternref20_Strict.j1 k s n (part : Int) (size : Int) x (i : Int) d false) (if c = 46 ∧ 0 < size ∧ part < 3 then strictL (s.data.toList.drop (i + 1)) (i + 1) ((256 * n + x) % 4294967296) (part + 1) 0 0 else (0, (i : Int), 203)) := by
      intro d
      by_cases hok : c = 46 ∧ 0 < size ∧ part < 3
      · rw [if_pos hok]
        refine Ev.step (fun k => ?_) (ih (i + 1) ((256 * n + x) % 4294967296) 0 (part + 1) 0 (by omega) (by omega) (by omega) (by omega) (by omega) (by omega) (by omega))
        simp only [posternref20_Strict.j1]
        rw [if_neg (by simp), if_pos (by omega), if_pos (by omega), hb, if_pos (c46.2 hok.1), if_pos (by omega), if_pos (by omega), wsucc i (by omega), wsucc part (by omega), show (256 * n % 4294967296 + x % 4294967296) % 4294967296 = (256 * n + x) % 4294967296 by omega]
        rfl
      · rw [if_neg hok]
        refine Ev.step (f := fun k => some (0, (i : Int), 203)) (fun k => ?_) (Ev.now _)
        simp only [posternref20_Strict.j1]
        rw [if_neg (by simp), if_pos (by omega), if_pos (by omega), hb]
        by_cases h1 : (c.toNat : Int) = 46
        · rw [if_pos h1]
          have hc := c46.1 h1
          by_cases h2 : (size : Int) > 0
          · rw [if_pos h2, if_neg (fun h3 => hok ⟨hc, by omega, by omega⟩)]
          · rw [if_neg h2]
        · rw [if_neg h1]
    by_cases hd : 48 ≤ (c.toNat : Int) ∧ (c.toNat : Int) ≤ 57
    · rw [if_pos hd] at hdig
      obtain ⟨d0, d1⟩ := hd
      refine Ev.step (f := fun k => (posternref20_digit.f k (c.toNat : Int) 10).bind fun t182 => (if t182 ≥ 0 then (if (size : Int) = 0 then (posternref20_Strict.j1 k s n (part : Int) (size : Int) x (i : Int) t182 (decide ((wrap64 ((wrap64 (10 * x)) + t182)) ≤ 255))) else (if x > 0 then (posternref20_Strict.j1 k s n (part : Int) (size : Int) x (i : Int) t182 (decide ((wrap64 ((wrap64 (10 * x)) + t182)) ≤ 255))) else (posternref20_Strict.j1 k s n (part : Int) (size : Int) x (i : Int) t182 false))) else (posternref20_Strict.j1 k s n (part : Int) (size : Int) x (i : Int) t182 false))) (fun k => ?_) (Ev.bind hdig ?_)
      · simp only [posternref20_Strict.l0]
        rw [if_pos (by omega), if_pos (by omega), hb]
      · simp only [if_pos (show (c.toNat : Int) - 48 ≥ 0 by omega), wdig x c.toNat x0 x1 d0 d1]
        by_cases hok : (size = 0 ∨ 0 < x) ∧ 10 * x + ((c.toNat : Int) - 48) ≤ 255
        · rw [if_pos ⟨d0, d1, hok⟩]
          have t : Ev (fun k => posternref20_Strict.j1 k s n (part : Int) (size : Int) x (i : Int) ((c.toNat : Int) - 48) true) (strictL (s.data.toList.drop (i + 1)) (i + 1) n part (size + 1) (10 * x + ((c.toNat : Int) - 48))) := by
            refine Ev.step (fun k => ?_) (ih (i + 1) n (10 * x + ((c.toNat : Int) - 48)) part (size + 1) (by omega) (by omega) hp (by omega) (by omega) n0 n1)
            simp only [posternref20_Strict.j1]
            rw [if_pos trivial, wsucc size (by omega), wdig x c.toNat x0 x1 d0 d1, wsucc i (by omega)]
          simp only [decide_eq_true hok.2]
          refine Ev.congr (fun k => ?_) t
          by_cases h0 : (size : Int) = 0
          · rw [if_pos h0]
          · rw [if_neg h0, if_pos (by omega)]
        · rw [if_neg (fun h => hok h.2.2)]
          refine Ev.congr (fun k => ?_) (false_to ((c.toNat : Int) - 48))
          by_cases h0 : (size : Int) = 0
          · rw [if_pos h0, decide_eq_false (by omega)]
          · rw [if_neg h0]
            by_cases h1 : x > 0
            · rw [if_pos h1, decide_eq_false (by omega)]
            · rw [if_neg h1]
    · rw [if_neg hd] at hdig
      rw [if_neg (fun h => hd ⟨h.1, h.2.1⟩)]
      refine Ev.step (f := fun k => (posternref20_digit.f k (c.toNat : Int) 10).bind fun t182 => (if t182 ≥ 0 then (if (size : Int) = 0 then (posternref20_Strict.j1 k s n (part : Int) (size : Int) x (i : Int) t182 (decide ((wrap64 ((wrap64 (10 * x)) + t182)) ≤ 255))) else (if x > 0 then (posternref20_Strict.j1 k s n (part : Int) (size : Int) x (i : Int) t182 (decide ((wrap64 ((wrap64 (10 * x)) + t182)) ≤ 255))) else (posternref20_Strict.j1 k s n (part : Int) (size : Int) x (i : Int) t182 false))) else (posternref20_Strict.j1 k s n (part : Int) (size : Int) x (i : Int) t182 false))) (fun k => ?_) (Ev.bind hdig ?_)
      · simp only [posternref20_Strict.l0]
        rw [if_pos (by omega), if_pos (by omega), hb]
      · simp only [if_neg (show ¬ (-1 : Int) ≥ 0 by omega)]
        exact false_to (-1)
theorem ref_strict (s : ByteArray) (hs : s.size ≤ 4294967280) : Ev (fun k => posternref20_Strict.f k s) (strictV s.data.toList) := by
  have e := refStrict_l0 s hs s.data.toList.length 0 0 0 0 0 (by omega) (by omega) (by omega) (by omega) (by omega) (by omega) (by omega)
  exact Ev.congr (fun k => rfl) e
end Go.Proofs.YtgnahagnmodpdaaDoor
