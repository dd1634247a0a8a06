/- Several texts in one (wip/gen/merge.py): FourS FourP3 FourParsesP FourG FourBackV FourRefPrint FourBackW FourBack. -/
import Derived.Test.YtgnahagnmodpdaaDoorFourP1
import Derived.Laws.BitsAllLaws
import Derived.Test.YtgnahagnmodpdaaDoorX6
import Derived.Test.YtgnahagnmodpdaaDoorX6
import Derived.Test.YtgnahagnmodpdaaDoorFourP2
import Derived.Test.YtgnahagnmodpdaaDoorX5
import Derived.Test.YtgnahagnmodpdaaDoorX10
import Derived.Test.YtgnahagnmodpdaaDoorFourPrint
import Derived.Test.YtgnahagnmodpdaaDoorFourBits
/- Strict, plainly: the address that is written just so, as the program and the document have it. -/
namespace Go.Proofs.YtgnahagnmodpdaaDoor
open Go.RowKit Go.Proofs.YtgnahagnmodpdaaDoorW.PrintWords Go.Proofs.YtgnahagnmodpdaaDoor.X Go.IntWalk
set_option linter.unusedVariables false
set_option linter.unusedSimpArgs false

/-- The address of what is left: the place, the number and the count of the parts behind, the digits and the number of this part. -/
def strictL : List UInt8 → Nat → Int → Nat → Nat → Int → Int × Int × Int
  | [], i, n, part, size, x => if part < 3 ∨ size = 0 then (0, i, 203) else ((256 * n + x) % 4294967296, 0, 0)
  | c :: l, i, n, part, size, x => if 48 ≤ (c.toNat : Int) ∧ (c.toNat : Int) ≤ 57 ∧ (size = 0 ∨ 0 < x) ∧ 10 * x + ((c.toNat : Int) - 48) ≤ 255 then strictL l (i + 1) n part (size + 1) (10 * x + ((c.toNat : Int) - 48))
    else if c = 46 ∧ 0 < size ∧ part < 3 then strictL l (i + 1) ((256 * n + x) % 4294967296) (part + 1) 0 0 else (0, i, 203)
def strictV (l : List UInt8) : Int × Int × Int := strictL l 0 0 0 0 0
theorem or_part (n x : Int) (h0 : 0 ≤ n) (h1 : n < 4294967296) (k0 : 0 ≤ x) (k1 : x ≤ 255) : Go.bits .or .u32 ((n * 256) % 4294967296) (x % 4294967296) = (256 * n + x) % 4294967296 := by
  rw [Int.emod_eq_of_lt k0 (by omega)]
  obtain ⟨a, rfl⟩ := Int.eq_ofNat_of_zero_le h0
  obtain ⟨b, rfl⟩ := Int.eq_ofNat_of_zero_le k0
  rw [u32_or _ _ (by omega) (by omega) (by omega) (by omega)]
  have e : ((a : Int) * 256 % 4294967296).toNat = 2 ^ 8 * (a % 16777216) := by omega
  rw [e, Int.toNat_natCast, ← Nat.two_pow_add_eq_or_of_lt (show b < 2 ^ 8 by omega)]
  omega
theorem wdig (x c : Int) (x0 : 0 ≤ x) (x1 : x ≤ 255) (d0 : 48 ≤ c) (d1 : c ≤ 57) : wrap64 (wrap64 (10 * x) + (c - 48)) = 10 * x + (c - 48) := by
  rw [wrap64_in (10 * x) (by omega), wrap64_in _ (by omega)]
theorem wdigm (x c : Int) (x0 : 0 ≤ x) (x1 : x ≤ 255) (d0 : 48 ≤ c) (d1 : c ≤ 57) : wrap64 (wrap64 (10 * x) + (c - 48) % 256) = 10 * x + (c - 48) := by
  rw [show (c - 48) % 256 = c - 48 by omega, wdig x c x0 x1 d0 d1]
theorem wsucc (j : Nat) (h : j < 1099511627776) : wrap64 ((j : Int) + 1) = ((j + 1 : Nat) : Int) := by rw [wrap64_in _ (by omega)]; omega
theorem strict_l1 (s : ByteArray) (hs : s.size ≤ 4294967280) : ∀ (m i : Nat) (n x : Int) (part start : Nat), i + m = s.data.toList.length → start ≤ i → part ≤ 3 → 0 ≤ x → x ≤ 255 → 0 ≤ n → n < 4294967296 →
    Ev (fun k => four_Strict.l1 k s n (i : Int) (part : Int) x (start : Int) (part : Int)) (strictL (s.data.toList.drop i) i n part (i - start) x) := by
  have hz := size_len s
  intro m
  induction m with
  | zero =>
    intro i n x part start hm hst hp x0 x1 n0 n1
    rw [List.drop_of_length_le (by omega)]
    refine Ev.step (f := fun k => four_Strict.j2 k s n (i : Int) (part : Int) x (start : Int) (part : Int) false) (fun k => ?_) ?_
    · simp only [four_Strict.l1]
      rw [if_neg (by omega)]
    · refine Ev.step (f := fun k => some (strictL [] i n part (i - start) x)) (fun k => ?_) (Ev.now _)
      simp only [four_Strict.j2, strictL]
      rw [if_neg (by simp)]
      by_cases h1 : i = start
      · rw [if_pos (by omega), if_pos (.inr (by omega))]
      · rw [if_neg (by omega)]
        by_cases h3 : part = 3
        · rw [if_pos (by omega), if_neg (by omega), if_neg (by omega), or_part n x n0 n1 x0 x1]
        · rw [if_neg (by omega), if_pos (by omega), if_pos (.inl (by omega))]
  | succ m ih =>
    intro i n x part start hm hst hp x0 x1 n0 n1
    have hi : i < s.data.toList.length := by omega
    have hb := bt_get s i hi
    have hlt := s.data.toList[i].toNat_lt
    rw [List.drop_eq_getElem_cons hi]
    have c46 := byte_eq s.data.toList[i] 46
    rw [show (((46 : UInt8).toNat : Nat) : Int) = 46 from rfl] at c46
    generalize s.data.toList[i] = c at *
    rw [strictL]
    refine Ev.step (f := fun k => four_Strict.j2 k s n (i : Int) (part : Int) x (start : Int) (part : Int) (decide (48 ≤ (c.toNat : Int)) && decide ((c.toNat : Int) ≤ 57))) (fun k => ?_) ?_
    · simp only [four_Strict.l1]
      rw [if_pos (by omega), if_pos (by omega), hb]
      by_cases h : (c.toNat : Int) ≥ 48
      · rw [if_pos h, decide_eq_true (show 48 ≤ (c.toNat : Int) from h), Bool.true_and]
      · rw [if_neg h, decide_eq_false (show ¬ 48 ≤ (c.toNat : Int) from h), Bool.false_and]
    · by_cases hd : 48 ≤ (c.toNat : Int) ∧ (c.toNat : Int) ≤ 57
      · obtain ⟨d0, d1⟩ := hd
        rw [decide_eq_true d0, decide_eq_true d1, Bool.and_true]
        have hc : ¬ c = 46 := fun e => by have := c46.2 e; omega
        by_cases hok : (i - start = 0 ∨ 0 < x) ∧ 10 * x + ((c.toNat : Int) - 48) ≤ 255
        · rw [if_pos ⟨d0, d1, hok⟩]
          have e := ih (i + 1) n (10 * x + ((c.toNat : Int) - 48)) part start (by omega) (by omega) hp (by omega) (by omega) n0 n1
          rw [show i + 1 - start = i - start + 1 by omega] at e
          refine Ev.step (fun k => ?_) e
          simp only [four_Strict.j2]
          rw [if_pos trivial, if_pos (by omega), if_pos (by omega), hb, wdigm x c.toNat x0 x1 d0 d1, if_neg (by omega), wsucc i (by omega)]
          by_cases h2 : (i : Int) > (start : Int)
          · rw [if_pos h2, if_neg (by omega)]
          · rw [if_neg h2]
        · rw [if_neg (fun h => hok h.2.2), if_neg (fun h => hc h.1)]
          refine Ev.step (f := fun k => some (0, (i : Int), 203)) (fun k => ?_) (Ev.now _)
          simp only [four_Strict.j2]
          rw [if_pos trivial, if_pos (by omega), if_pos (by omega), hb, wdigm x c.toNat x0 x1 d0 d1]
          by_cases h2 : 10 * x + ((c.toNat : Int) - 48) > 255
          · rw [if_pos h2]
          · rw [if_neg h2, if_pos (by omega), if_pos (by omega)]
      · rw [if_neg (fun h => hd ⟨h.1, h.2.1⟩)]
        have hf : (decide (48 ≤ (c.toNat : Int)) && decide ((c.toNat : Int) ≤ 57)) = false := by
          rw [Bool.and_eq_false_iff, decide_eq_false_iff_not, decide_eq_false_iff_not]
          omega
        rw [hf]
        by_cases hok : c = 46 ∧ 0 < i - start ∧ part < 3
        · rw [if_pos hok]
          have e := ih (i + 1) ((256 * n + x) % 4294967296) 0 (part + 1) (i + 1) (by omega) (by omega) (by omega) (by omega) (by omega) (by omega) (by omega)
          rw [show i + 1 - (i + 1) = 0 by omega] at e
          refine Ev.step (f := fun k => four_Strict.l0 k s ((256 * n + x) % 4294967296) ((i + 1 : Nat) : Int) ((part + 1 : Nat) : Int)) (fun k => ?_) (Ev.step (fun k => ?_) e)
          · simp only [four_Strict.j2]
            rw [if_neg (by simp), if_neg (by omega), if_neg (by omega), if_neg (by omega), if_pos (by omega), if_pos (by omega), hb, if_pos (c46.2 hok.1), or_part n x n0 n1 x0 x1, wsucc i (by omega), wsucc part (by omega)]
          · simp only [four_Strict.l0]
            rw [if_pos (by omega)]
        · rw [if_neg hok]
          refine Ev.step (f := fun k => some (0, (i : Int), 203)) (fun k => ?_) (Ev.now _)
          simp only [four_Strict.j2]
          rw [if_neg (by simp)]
          by_cases h1 : (i : Int) = (start : Int)
          · rw [if_pos h1]
          · rw [if_neg h1]
            by_cases h3 : (part : Int) = 3
            · rw [if_pos h3, if_pos (by omega)]
            · rw [if_neg h3, if_neg (by omega), if_pos (by omega), if_pos (by omega), hb, if_neg (fun e => hok ⟨c46.1 e, by omega, by omega⟩)]
theorem strict_ev (s : ByteArray) (hs : s.size ≤ 4294967280) : Ev (fun k => four_Strict.f k s) (strictV s.data.toList) := by
  have e := strict_l1 s hs s.data.toList.length 0 0 0 0 0 (by omega) (by omega) (by omega) (by omega) (by omega) (by omega) (by omega)
  refine Ev.congr (f := fun k => four_Strict.l0 k s 0 0 0) (fun k => rfl) (Ev.step (fun k => ?_) e)
  simp only [four_Strict.l0]
  rw [if_pos (by decide)]
  rfl
theorem digV10 (c : Nat) (h : c < 256) : digV (c : Int) 10 = if 48 ≤ (c : Int) ∧ (c : Int) ≤ 57 then (c : Int) - 48 else -1 := by
  rw [digV16 (by decide) (by decide)]
  (repeat' split) <;> omega
theorem refStrict_l0 (s : ByteArray) (hs : s.size ≤ 4294967280) : ∀ (m i : Nat) (n x : Int) (part size : Nat), i + m = s.data.toList.length → size ≤ i → part ≤ 3 → 0 ≤ x → x ≤ 255 → 0 ≤ n → n < 4294967296 →
    Ev (fun k => posternref20_Strict.l0 k s n (part : Int) (size : Int) x (i : Int)) (strictL (s.data.toList.drop i) i n part size x) := by
  have hz := size_len s
  intro m
  induction m with
  | zero =>
    intro i n x part size hm hst hp x0 x1 n0 n1
    rw [List.drop_of_length_le (by omega)]
    refine Ev.step (f := fun k => some (strictL [] i n part size x)) (fun k => ?_) (Ev.now _)
    simp only [posternref20_Strict.l0, strictL]
    rw [if_neg (by omega)]
    by_cases h3 : part < 3
    · rw [if_pos (by omega), if_pos (.inl h3), show (s.size : Int) = (i : Int) by omega]
    · rw [if_neg (by omega)]
      by_cases h1 : size = 0
      · rw [if_pos (by omega), if_pos (.inr h1), show (s.size : Int) = (i : Int) by omega]
      · rw [if_neg (by omega), if_neg (by omega), show (256 * n % 4294967296 + x % 4294967296) % 4294967296 = (256 * n + x) % 4294967296 by omega]
  | succ m ih =>
    intro i n x part size hm hst hp x0 x1 n0 n1
    have hi : i < s.data.toList.length := by omega
    have hb := bt_get s i hi
    have hlt := s.data.toList[i].toNat_lt
    rw [List.drop_eq_getElem_cons hi]
    have c46 := byte_eq s.data.toList[i] 46
    rw [show (((46 : UInt8).toNat : Nat) : Int) = 46 from rfl] at c46
    have hdig := ref_digit (s.data.toList[i].toNat : Int) 10 (by omega) (by omega) (by decide) (by decide)
    rw [digV10 _ hlt] at hdig
    generalize s.data.toList[i] = c at *
    rw [strictL]
    have false_to : ∀ d : Int, Ev (fun k => posternref20_Strict.j1 k s n (part : Int) (size : Int) x (i : Int) d false) (if c = 46 ∧ 0 < size ∧ part < 3 then strictL (s.data.toList.drop (i + 1)) (i + 1) ((256 * n + x) % 4294967296) (part + 1) 0 0 else (0, (i : Int), 203)) := by
      intro d
      by_cases hok : c = 46 ∧ 0 < size ∧ part < 3
      · rw [if_pos hok]
        refine Ev.step (fun k => ?_) (ih (i + 1) ((256 * n + x) % 4294967296) 0 (part + 1) 0 (by omega) (by omega) (by omega) (by omega) (by omega) (by omega) (by omega))
        simp only [posternref20_Strict.j1]
        rw [if_neg (by simp), if_pos (by omega), if_pos (by omega), hb, if_pos (c46.2 hok.1), if_pos (by omega), if_pos (by omega), wsucc i (by omega), wsucc part (by omega), show (256 * n % 4294967296 + x % 4294967296) % 4294967296 = (256 * n + x) % 4294967296 by omega]
        rfl
      · rw [if_neg hok]
        refine Ev.step (f := fun k => some (0, (i : Int), 203)) (fun k => ?_) (Ev.now _)
        simp only [posternref20_Strict.j1]
        rw [if_neg (by simp), if_pos (by omega), if_pos (by omega), hb]
        by_cases h1 : (c.toNat : Int) = 46
        · rw [if_pos h1]
          have hc := c46.1 h1
          by_cases h2 : (size : Int) > 0
          · rw [if_pos h2, if_neg (fun h3 => hok ⟨hc, by omega, by omega⟩)]
          · rw [if_neg h2]
        · rw [if_neg h1]
    by_cases hd : 48 ≤ (c.toNat : Int) ∧ (c.toNat : Int) ≤ 57
    · rw [if_pos hd] at hdig
      obtain ⟨d0, d1⟩ := hd
      refine Ev.step (f := fun k => (posternref20_digit.f k (c.toNat : Int) 10).bind fun t182 => (if t182 ≥ 0 then (if (size : Int) = 0 then (posternref20_Strict.j1 k s n (part : Int) (size : Int) x (i : Int) t182 (decide ((wrap64 ((wrap64 (10 * x)) + t182)) ≤ 255))) else (if x > 0 then (posternref20_Strict.j1 k s n (part : Int) (size : Int) x (i : Int) t182 (decide ((wrap64 ((wrap64 (10 * x)) + t182)) ≤ 255))) else (posternref20_Strict.j1 k s n (part : Int) (size : Int) x (i : Int) t182 false))) else (posternref20_Strict.j1 k s n (part : Int) (size : Int) x (i : Int) t182 false))) (fun k => ?_) (Ev.bind hdig ?_)
      · simp only [posternref20_Strict.l0]
        rw [if_pos (by omega), if_pos (by omega), hb]
      · simp only [if_pos (show (c.toNat : Int) - 48 ≥ 0 by omega), wdig x c.toNat x0 x1 d0 d1]
        by_cases hok : (size = 0 ∨ 0 < x) ∧ 10 * x + ((c.toNat : Int) - 48) ≤ 255
        · rw [if_pos ⟨d0, d1, hok⟩]
          have t : Ev (fun k => posternref20_Strict.j1 k s n (part : Int) (size : Int) x (i : Int) ((c.toNat : Int) - 48) true) (strictL (s.data.toList.drop (i + 1)) (i + 1) n part (size + 1) (10 * x + ((c.toNat : Int) - 48))) := by
            refine Ev.step (fun k => ?_) (ih (i + 1) n (10 * x + ((c.toNat : Int) - 48)) part (size + 1) (by omega) (by omega) hp (by omega) (by omega) n0 n1)
            simp only [posternref20_Strict.j1]
            rw [if_pos trivial, wsucc size (by omega), wdig x c.toNat x0 x1 d0 d1, wsucc i (by omega)]
          simp only [decide_eq_true hok.2]
          refine Ev.congr (fun k => ?_) t
          by_cases h0 : (size : Int) = 0
          · rw [if_pos h0]
          · rw [if_neg h0, if_pos (by omega)]
        · rw [if_neg (fun h => hok h.2.2)]
          refine Ev.congr (fun k => ?_) (false_to ((c.toNat : Int) - 48))
          by_cases h0 : (size : Int) = 0
          · rw [if_pos h0, decide_eq_false (by omega)]
          · rw [if_neg h0]
            by_cases h1 : x > 0
            · rw [if_pos h1, decide_eq_false (by omega)]
            · rw [if_neg h1]
    · rw [if_neg hd] at hdig
      rw [if_neg (fun h => hd ⟨h.1, h.2.1⟩)]
      refine Ev.step (f := fun k => (posternref20_digit.f k (c.toNat : Int) 10).bind fun t182 => (if t182 ≥ 0 then (if (size : Int) = 0 then (posternref20_Strict.j1 k s n (part : Int) (size : Int) x (i : Int) t182 (decide ((wrap64 ((wrap64 (10 * x)) + t182)) ≤ 255))) else (if x > 0 then (posternref20_Strict.j1 k s n (part : Int) (size : Int) x (i : Int) t182 (decide ((wrap64 ((wrap64 (10 * x)) + t182)) ≤ 255))) else (posternref20_Strict.j1 k s n (part : Int) (size : Int) x (i : Int) t182 false))) else (posternref20_Strict.j1 k s n (part : Int) (size : Int) x (i : Int) t182 false))) (fun k => ?_) (Ev.bind hdig ?_)
      · simp only [posternref20_Strict.l0]
        rw [if_pos (by omega), if_pos (by omega), hb]
      · simp only [if_neg (show ¬ (-1 : Int) ≥ 0 by omega)]
        exact false_to (-1)
theorem ref_strict (s : ByteArray) (hs : s.size ≤ 4294967280) : Ev (fun k => posternref20_Strict.f k s) (strictV s.data.toList) := by
  have e := refStrict_l0 s hs s.data.toList.length 0 0 0 0 0 (by omega) (by omega) (by omega) (by omega) (by omega) (by omega) (by omega)
  exact Ev.congr (fun k => rfl) e
end Go.Proofs.YtgnahagnmodpdaaDoor

/- FourParses, plainly: the address of a text as the program and the document have it. -/
namespace Go.Proofs.YtgnahagnmodpdaaDoor
open Go.RowKit Go.Proofs.YtgnahagnmodpdaaDoorW.PrintWords Go.Proofs.YtgnahagnmodpdaaDoor.X Go.IntWalk
set_option linter.unusedVariables false
set_option linter.unusedSimpArgs false

theorem wu64 (x : Int) (a : 0 ≤ x) (b : x < 18446744073709551616) : IntKind.u64.wrap x = x := by simp [IntKind.wrap, IntKind.signed, IntKind.bits]; omega
theorem one_le_256 (m : Nat) : (1 : Int) ≤ 256 ^ m := Int.pow_pos (by decide)
/-- What the document's second loop tells of the numbers that are left. -/
def resL (k : Nat) : List Int → Nat → Int → Int × Int × Int
  | [], _, sum => (sum % 4294967296, 0, 0)
  | [x], i, sum => if 256 ^ (5 - k) ≤ x then (0, i, 202) else ((sum + x) % 4294967296, 0, 0)
  | x :: y :: r, i, sum => if 256 ≤ x then (0, i, 202) else resL k (y :: r) (i + 1) (sum + x * 256 ^ (3 - i))
theorem ref_l2 (k : Nat) (hk1 : 1 ≤ k) (hk : k ≤ 4) (sum : Int) (i : Int) (n : Int) (L : List ByteArray) (r : Int × Int × Int) : ∀ (m j : Nat) (most : Int), j = k + m → j ≤ 4 → 0 ≤ most → most * 256 ^ m ≤ 4294967296 →
    Ev (fun f => posternref20_Parse.j3 f (k : Int) sum i n (most * 256 ^ m) L (k : Int) i) r → Ev (fun f => posternref20_Parse.l2 f (k : Int) sum i n most (j : Int) L (k : Int) i) r
  | 0, j, most, hj, h4, h0, hb, h => by
    refine Ev.step (f := fun f => posternref20_Parse.j3 f (k : Int) sum i n most L (k : Int) i) (fun f => ?_) (by simpa using h)
    simp only [posternref20_Parse.l2]
    rw [if_neg (by omega)]
  | m + 1, j, most, hj, h4, h0, hb, h => by
    rw [Int.pow_succ', ← Int.mul_assoc] at hb h
    have hp : (1 : Int) ≤ 256 ^ m := one_le_256 m
    have hm : most * 256 ≤ most * 256 * 256 ^ m := by
      have := Int.mul_le_mul_of_nonneg_left hp (show 0 ≤ most * 256 by omega)
      omega
    refine Ev.step (f := fun f => posternref20_Parse.l2 f (k : Int) sum i n (most * 256) ((j - 1 : Nat) : Int) L (k : Int) i) (fun f => ?_) (ref_l2 k hk1 hk sum i n L r m (j - 1) (most * 256) (by omega) (by omega) (by omega) hb h)
    simp only [posternref20_Parse.l2]
    rw [if_pos (by omega), wu64 (most * 256) (by omega) (by omega), wrap64_in _ (by omega)]
    congr 1
    omega
theorem ref_l3 (k : Nat) (hk1 : 1 ≤ k) (hk : k ≤ 4) (sum : Int) (hs0 : 0 ≤ sum) (hs1 : sum ≤ 1099511627776) (i : Nat) (hi : i ≤ 3) (L : List ByteArray) (r : Int × Int × Int) : ∀ (m j : Nat) (n : Int), j + m = 3 - i → 0 ≤ n → n * 256 ^ m ≤ 4294967296 →
    Ev (fun f => posternref20_Parse.l1 f (k : Int) (sum + n * 256 ^ m) L (k : Int) ((i + 1 : Nat) : Int)) r → Ev (fun f => posternref20_Parse.l3 f (k : Int) sum (i : Int) n (j : Int) L (k : Int) (i : Int)) r
  | 0, j, n, hj, h0, hb, h => by
    have hn : n ≤ 4294967296 := by simpa using hb
    refine Ev.step (f := fun f => posternref20_Parse.l1 f (k : Int) (sum + n) L (k : Int) ((i + 1 : Nat) : Int)) (fun f => ?_) (by simpa using h)
    simp only [posternref20_Parse.l3]
    rw [wrap64_in (3 - (i : Int)) (by omega), if_neg (by omega), wu64 (sum + n) (by omega) (by omega), wrap64_in _ (by omega)]
    rfl
  | m + 1, j, n, hj, h0, hb, h => by
    rw [Int.pow_succ', ← Int.mul_assoc] at hb h
    have hp : (1 : Int) ≤ 256 ^ m := one_le_256 m
    have hm : n * 256 ≤ n * 256 * 256 ^ m := by
      have := Int.mul_le_mul_of_nonneg_left hp (show 0 ≤ n * 256 by omega)
      omega
    refine Ev.step (f := fun f => posternref20_Parse.l3 f (k : Int) sum (i : Int) (n * 256) ((j + 1 : Nat) : Int) L (k : Int) (i : Int)) (fun f => ?_) (ref_l3 k hk1 hk sum hs0 hs1 i hi L r m (j + 1) (n * 256) (by omega) (by omega) hb h)
    simp only [posternref20_Parse.l3]
    rw [wrap64_in (3 - (i : Int)) (by omega), if_pos (by omega), wu64 (n * 256) (by omega) (by omega), wrap64_in _ (by omega)]
    congr 1
theorem ref_l1 (P : List (List UInt8)) (hP1 : 1 ≤ P.length) (hP : P.length ≤ 4) (hs : ∀ p ∈ P, p.length ≤ 4294967280) : ∀ (m i : Nat) (sum : Int), i + m = P.length → 0 ≤ sum → sum ≤ (i : Int) * 4294967296 →
    Ev (fun f => posternref20_Parse.l1 f (P.length : Int) sum (P.map BA) (P.length : Int) (i : Int)) (resL P.length ((P.drop i).map fun p => (numberV p).1) i sum) := by
  intro m
  induction m with
  | zero =>
    intro i sum hm h0 h1
    rw [List.drop_of_length_le (by omega)]
    refine Ev.step (f := fun f => some (sum % 4294967296, 0, 0)) (fun f => ?_) (Ev.now _)
    simp only [posternref20_Parse.l1]
    rw [if_neg (by omega)]
  | succ m ref_l1 =>
    intro i sum hm h0 h1
    have hi : i < P.length := by omega
    have hn := ref_number (BA P[i]) (by rw [ba_size]; have := hs _ (List.getElem_mem hi); omega)
    rw [ba_list] at hn
    obtain ⟨b0, b1⟩ := numberV_le P[i]
    rw [List.drop_eq_getElem_cons hi, List.map_cons]
    have w1 : wrap64 ((P.length : Int) - 1) = ((P.length - 1 : Nat) : Int) := by rw [wrap64_in _ (by omega)]; omega
    have w2 : wrap64 ((i : Int) + 1) = ((i + 1 : Nat) : Int) := by rw [wrap64_in _ (by omega)]; omega
    have key : ∀ f, posternref20_Parse.l1 (f + 1) (P.length : Int) sum (P.map BA) (P.length : Int) (i : Int) = (posternref20_Number.f f (BA P[i])).bind fun t => if (i : Int) = ((P.length - 1 : Nat) : Int) then posternref20_Parse.l2 f (P.length : Int) sum (i : Int) t.1 256 4 (P.map BA) (P.length : Int) (i : Int) else posternref20_Parse.j3 f (P.length : Int) sum (i : Int) t.1 256 (P.map BA) (P.length : Int) (i : Int) := by
      intro f
      simp only [posternref20_Parse.l1]
      rw [w1, if_pos (by omega), if_pos (by omega), if_pos (by simp; omega), rd_map P i hi]
    refine Ev.step key (Ev.bind hn ?_)
    generalize (numberV P[i]).1 = x at *
    by_cases hl : i = P.length - 1
    · have hd : P.drop (i + 1) = [] := List.drop_of_length_le (by omega)
      rw [hd, List.map_nil]
      simp only [if_pos (show (i : Int) = ((P.length - 1 : Nat) : Int) by omega)]
      refine ref_l2 P.length hP1 hP sum i x (P.map BA) _ (4 - P.length) 4 256 (by omega) (Nat.le_refl _) (by decide) ?_ ?_
      · have : P.length = 1 ∨ P.length = 2 ∨ P.length = 3 ∨ P.length = 4 := by omega
        rcases this with h | h | h | h <;> rw [h] <;> decide
      · have e : (256 : Int) * 256 ^ (4 - P.length) = 256 ^ (5 - P.length) := by
          rw [← Int.pow_succ', show 4 - P.length + 1 = 5 - P.length by omega]
        rw [e]
        unfold resL
        by_cases hb : 256 ^ (5 - P.length) ≤ x
        · rw [if_pos hb]
          refine Ev.step (f := fun f => some (0, (i : Int), 202)) (fun f => ?_) (Ev.now _)
          simp only [posternref20_Parse.j3]
          rw [if_pos hb]
        · rw [if_neg hb]
          refine Ev.step (f := fun f => posternref20_Parse.l1 f (P.length : Int) (sum + x) (P.map BA) (P.length : Int) ((i + 1 : Nat) : Int)) (fun f => ?_) ?_
          · simp only [posternref20_Parse.j3]
            rw [if_neg hb, w1, w2, if_neg (by omega), wu64 (sum + x) (by omega) (by omega)]
          · refine Ev.step (f := fun f => some ((sum + x) % 4294967296, 0, 0)) (fun f => ?_) (Ev.now _)
            simp only [posternref20_Parse.l1]
            rw [if_neg (by omega)]
    · simp only [if_neg (show ¬ (i : Int) = ((P.length - 1 : Nat) : Int) by omega)]
      have hi2 : i + 1 < P.length := by omega
      have e : ((P.drop (i + 1)).map fun p => (numberV p).1) = (numberV P[i + 1]).1 :: ((P.drop (i + 2)).map fun p => (numberV p).1) := by
        rw [List.drop_eq_getElem_cons hi2, List.map_cons]
      have ih := ref_l1 (i + 1) (sum + x * 256 ^ (3 - i)) (by omega)
      rw [e] at ih ⊢
      rw [resL]
      by_cases hb : 256 ≤ x
      · rw [if_pos hb]
        refine Ev.step (f := fun f => some (0, (i : Int), 202)) (fun f => ?_) (Ev.now _)
        simp only [posternref20_Parse.j3]
        rw [if_pos hb]
      · rw [if_neg hb]
        have hx : x * 256 ^ (3 - i) ≤ 4294967296 ∧ 0 ≤ x * 256 ^ (3 - i) := by
          have : i = 0 ∨ i = 1 ∨ i = 2 := by omega
          rcases this with h | h | h <;> subst h <;> simp <;> omega
        refine Ev.step (f := fun f => posternref20_Parse.l3 f (P.length : Int) sum (i : Int) x ((0 : Nat) : Int) (P.map BA) (P.length : Int) (i : Int)) (fun f => ?_) (ref_l3 P.length hP1 hP sum h0 (by omega) i (by omega) (P.map BA) _ (3 - i) 0 x (by omega) b0 hx.1 (ih (by omega) (by omega)))
        simp only [posternref20_Parse.j3]
        rw [if_neg hb, w1, if_pos (by omega)]
        rfl
theorem ref_l0 (P : List (List UInt8)) (hP1 : 1 ≤ P.length) (hP : P.length ≤ 4) (hs : ∀ p ∈ P, p.length ≤ 4294967280) : ∀ (m i : Nat), i + m = P.length →
    Ev (fun f => posternref20_Parse.l0 f (P.map BA) (P.length : Int) (P.map BA) (P.length : Int) (i : Int)) (match firstErr (P.drop i) i with | some j => (0, j, 200) | none => resL P.length (P.map fun p => (numberV p).1) 0 0)
  | 0, i, hm => by
    rw [List.drop_of_length_le (by omega)]
    refine Ev.step (f := fun f => posternref20_Parse.l1 f (P.length : Int) 0 (P.map BA) (P.length : Int) ((0 : Nat) : Int)) (fun f => ?_) ?_
    · simp only [posternref20_Parse.l0]
      rw [if_neg (by omega), List.length_map]
      rfl
    · have := ref_l1 P hP1 hP hs _ 0 0 (Nat.zero_add _) (Int.le_refl 0) (by omega)
      rw [List.drop_zero] at this
      exact this
  | m + 1, i, hm => by
    have hi : i < P.length := by omega
    have hn := ref_number (BA P[i]) (by rw [ba_size]; have := hs _ (List.getElem_mem hi); omega)
    rw [ba_list] at hn
    have w2 : wrap64 ((i : Int) + 1) = ((i + 1 : Nat) : Int) := by rw [wrap64_in _ (by omega)]; omega
    rw [List.drop_eq_getElem_cons hi, firstErr]
    have key : ∀ f, posternref20_Parse.l0 (f + 1) (P.map BA) (P.length : Int) (P.map BA) (P.length : Int) (i : Int) = (posternref20_Number.f f (BA P[i])).bind fun t => if t.2.2 = 0 then posternref20_Parse.l0 f (P.map BA) (P.length : Int) (P.map BA) (P.length : Int) ((i + 1 : Nat) : Int) else some (0, (i : Int), 200) := by
      intro f
      simp only [posternref20_Parse.l0]
      rw [w2, if_pos (by omega), if_pos (by omega), if_pos (by simp; omega), rd_map P i hi]
    refine Ev.step key (Ev.bind hn ?_)
    by_cases he : (numberV P[i]).2.2 = 0
    · simp only [if_pos he]
      exact ref_l0 P hP1 hP hs m (i + 1) (by omega)
    · simp only [if_neg he]
      exact Ev.now _
/-- What the program's parts say of the numbers. -/
def outL (k : Nat) (L : List Int) : Int × Int × Int := match firstBig L 0 with | some i => (0, i, 202) | none => if 256 ^ (5 - k) ≤ L.getLastD 0 then (0, (k : Int) - 1, 202) else (sumFrom L 0, 0, 0)
theorem sum1 (x0 : Int) (a0 : 0 ≤ x0) (b0 : x0 ≤ 4294967296) : resL 1 [x0] 0 0 = outL 1 [x0] := by
  have e1 : resL 1 [x0] 0 0 = if 4294967296 ≤ x0 then (0, 0, 202) else ((0 + x0) % 4294967296, 0, 0) := rfl
  have e2 : outL 1 [x0] = if 4294967296 ≤ x0 then (0, 0, 202) else (x0, 0, 0) := by
    simp only [outL, firstBig]
    (repeat' split) <;> first | rfl | simp_all [sumFrom] | omega
  refine e1.trans (Eq.trans ?_ e2.symm)
  (repeat' split) <;> first | rfl | omega | (congr 1; omega)
theorem sum2 (x0 x1 : Int) (a0 : 0 ≤ x0) (b0 : x0 ≤ 4294967296) (a1 : 0 ≤ x1) (b1 : x1 ≤ 4294967296) : resL 2 [x0, x1] 0 0 = outL 2 [x0, x1] := by
  have e1 : resL 2 [x0, x1] 0 0 = if 256 ≤ x0 then (0, 0, 202) else if 16777216 ≤ x1 then (0, 1, 202) else ((0 + x0 * 16777216 + x1) % 4294967296, 0, 0) := rfl
  have e2 : outL 2 [x0, x1] = if 255 < x0 then (0, 0, 202) else if 16777216 ≤ x1 then (0, 1, 202) else (x1 + x0 * 16777216, 0, 0) := by
    simp only [outL, firstBig]
    (repeat' split) <;> first | rfl | simp_all [sumFrom] | omega
  refine e1.trans (Eq.trans ?_ e2.symm)
  (repeat' split) <;> first | rfl | omega | (congr 1; omega)
theorem sum3 (x0 x1 x2 : Int) (a0 : 0 ≤ x0) (b0 : x0 ≤ 4294967296) (a1 : 0 ≤ x1) (b1 : x1 ≤ 4294967296) (a2 : 0 ≤ x2) (b2 : x2 ≤ 4294967296) : resL 3 [x0, x1, x2] 0 0 = outL 3 [x0, x1, x2] := by
  have e1 : resL 3 [x0, x1, x2] 0 0 = if 256 ≤ x0 then (0, 0, 202) else if 256 ≤ x1 then (0, 1, 202) else if 65536 ≤ x2 then (0, 2, 202) else ((0 + x0 * 16777216 + x1 * 65536 + x2) % 4294967296, 0, 0) := rfl
  have e2 : outL 3 [x0, x1, x2] = if 255 < x0 then (0, 0, 202) else if 255 < x1 then (0, 1, 202) else if 65536 ≤ x2 then (0, 2, 202) else (x2 + x1 * 65536 + x0 * 16777216, 0, 0) := by
    simp only [outL, firstBig]
    (repeat' split) <;> first | rfl | simp_all [sumFrom] | omega
  refine e1.trans (Eq.trans ?_ e2.symm)
  (repeat' split) <;> first | rfl | omega | (congr 1; omega)
theorem sum4 (x0 x1 x2 x3 : Int) (a0 : 0 ≤ x0) (b0 : x0 ≤ 4294967296) (a1 : 0 ≤ x1) (b1 : x1 ≤ 4294967296) (a2 : 0 ≤ x2) (b2 : x2 ≤ 4294967296) (a3 : 0 ≤ x3) (b3 : x3 ≤ 4294967296) : resL 4 [x0, x1, x2, x3] 0 0 = outL 4 [x0, x1, x2, x3] := by
  have e1 : resL 4 [x0, x1, x2, x3] 0 0 = if 256 ≤ x0 then (0, 0, 202) else if 256 ≤ x1 then (0, 1, 202) else if 256 ≤ x2 then (0, 2, 202) else if 256 ≤ x3 then (0, 3, 202) else ((0 + x0 * 16777216 + x1 * 65536 + x2 * 256 + x3) % 4294967296, 0, 0) := rfl
  have e2 : outL 4 [x0, x1, x2, x3] = if 255 < x0 then (0, 0, 202) else if 255 < x1 then (0, 1, 202) else if 255 < x2 then (0, 2, 202) else if 256 ≤ x3 then (0, 3, 202) else (x3 + x2 * 256 + x1 * 65536 + x0 * 16777216, 0, 0) := by
    simp only [outL, firstBig]
    (repeat' split) <;> first | rfl | simp_all [sumFrom] | omega
  refine e1.trans (Eq.trans ?_ e2.symm)
  (repeat' split) <;> first | rfl | omega | (congr 1; omega)
/-- The two ways to the sum. -/
theorem resL_parse (P : List (List UInt8)) (hP1 : 1 ≤ P.length) (hP : P.length ≤ 4) : (match firstErr P 0 with | some j => (0, j, 200) | none => resL P.length (P.map fun p => (numberV p).1) 0 0) = parseP P := by
  unfold parseP
  rw [if_neg (by omega)]
  cases firstErr P 0 with
  | some j => rfl
  | none =>
    match P, hP1, hP with
    | [p0], _, _ =>
      have h0 := numberV_le p0
      exact sum1 _ h0.1 h0.2
    | [p0, p1], _, _ =>
      have h0 := numberV_le p0
      have h1 := numberV_le p1
      exact sum2 _ _ h0.1 h0.2 h1.1 h1.2
    | [p0, p1, p2], _, _ =>
      have h0 := numberV_le p0
      have h1 := numberV_le p1
      have h2 := numberV_le p2
      exact sum3 _ _ _ h0.1 h0.2 h1.1 h1.2 h2.1 h2.2
    | [p0, p1, p2, p3], _, _ =>
      have h0 := numberV_le p0
      have h1 := numberV_le p1
      have h2 := numberV_le p2
      have h3 := numberV_le p3
      exact sum4 _ _ _ _ h0.1 h0.2 h1.1 h1.2 h2.1 h2.2 h3.1 h3.2
theorem ref_parse (s : ByteArray) (hs : s.size ≤ 4294967280) : Ev (fun f => posternref20_Parse.f f s) (parseV s.data.toList) := by
  have hz := size_len s
  have hpos : 0 < (partsV s.data.toList).length := List.length_pos_iff.2 (partsV_ne _)
  unfold parseV
  refine Ev.bind (ref_parts s (by omega)) ?_
  have hpart := partsV_part s.data.toList
  generalize partsV s.data.toList = P at *
  simp only [List.length_map]
  by_cases h4 : 4 < P.length
  · rw [show parseP P = (0, 4, 201) from if_pos h4]
    simp only [if_pos (show (P.length : Int) > 4 by omega)]
    exact Ev.now _
  · simp only [if_neg (show ¬ (P.length : Int) > 4 by omega)]
    rw [← resL_parse P hpos (by omega)]
    have := ref_l0 P hpos (by omega) (fun p hp => by have := hpart p hp; omega) _ 0 (Nat.zero_add _)
    rw [List.drop_zero] at this
    exact this
end Go.Proofs.YtgnahagnmodpdaaDoor

/- FourParses, plainly. -/
namespace Go.Proofs.YtgnahagnmodpdaaDoor
open Go.RowKit Go.Proofs.YtgnahagnmodpdaaDoorW.PrintWords Go.Proofs.YtgnahagnmodpdaaDoor.X Go.IntWalk
set_option linter.unusedVariables false
set_option linter.unusedSimpArgs false

theorem parse_ev (s : ByteArray) (hs : s.size ≤ 4294967280) : Ev (fun k => four_Parse.f s) (parseV s.data.toList) := by
  refine Ev.congr (f := fun k => some (parseV s.data.toList)) (fun k => ?_) (Ev.now _)
  unfold four_Parse.f
  rw [if_pos hs]
theorem parses_true (s : ByteArray) (hs : s.size ≤ 4294967280) : Ev (fun k => posternlaw20_FourParses.f k s) true := by
  refine Ev.bind awake_ev ?_
  simp only [if_true]
  refine Ev.bind (parse_ev s hs) (Ev.bind (ref_parse s hs) ?_)
  simp only [if_true, bne_self_eq_false]
  refine Ev.step (f := fun k => (four_Strict.f k s).bind fun bt190 => ((posternref20_Strict.f k s).bind fun bt193 => (if bt190.1 = bt193.1 then (if bt190.2.1 = bt193.2.1 then (some (bt190.2.2 == bt193.2.2)) else (some false)) else (some false)))) (fun k => ?_) (Ev.bind (strict_ev s hs) (Ev.bind (ref_strict s hs) ?_))
  · simp only [posternlaw20_FourParses.j0]
    rw [if_neg (by simp)]
  · simp only [if_true, beq_self_eq_true]
    exact Ev.now _
theorem parses_walk (s : ByteArray) (hs : s.size ≤ 4294967280) (w : World) (hG : GW w) :
    Calls Tryd.prog 5 #[.string s] w fun e w' => e = .returned (.bool true) ∧ Below w.heap.size w w' := by
  obtain ⟨k, h⟩ := (parses_true s hs).rounds
  exact posternlaw20_FourParses.calls k s true w hG h
end Go.Proofs.YtgnahagnmodpdaaDoor

/- Plain laws of addresses in text: what is read ends in a number; what Strict takes Parse takes; a stop behind. No program in sight. -/
namespace Go.Proofs.YtgnahagnmodpdaaDoor
open Go.RowKit Go.Proofs.YtgnahagnmodpdaaDoorW.PrintWords
set_option linter.unusedVariables false
set_option linter.unusedSimpArgs false

theorem firstErr_none : ∀ {P : List (List UInt8)} {i : Int}, firstErr P i = none → ∀ p ∈ P, (numberV p).2.2 = 0
  | [], i, h => fun p hp => absurd hp (by simp)
  | q :: P, i, h => by
    intro p hp
    rw [firstErr] at h
    by_cases hq : (numberV q).2.2 = 0
    · rw [if_pos hq] at h
      rcases List.mem_cons.1 hp with rfl | hp
      · exact hq
      · exact firstErr_none h p hp
    · rw [if_neg hq] at h
      exact absurd h (by simp)
theorem firstErr_ok : ∀ {P : List (List UInt8)} {i : Int}, (∀ p ∈ P, (numberV p).2.2 = 0) → firstErr P i = none
  | [], i, h => rfl
  | q :: P, i, h => by
    rw [firstErr, if_pos (h q (by simp))]
    exact firstErr_ok fun p hp => h p (by simp [hp])
theorem parseP_ok {P : List (List UInt8)} (h : (parseP P).2.2 = 0) : P.length ≤ 4 ∧ ∀ p ∈ P, (numberV p).2.2 = 0 := by
  unfold parseP at h
  by_cases h4 : 4 < P.length
  · rw [if_pos h4] at h
    exact absurd h (by decide)
  · rw [if_neg h4] at h
    refine ⟨by omega, ?_⟩
    cases he : firstErr P 0 with
    | some i =>
      rw [he] at h
      exact absurd (show (200 : Int) = 0 from h) (by decide)
    | none => exact firstErr_none he
theorem parseP_err {P : List (List UInt8)} (h : (parseP P).2.2 ≠ 0) : (parseP P).1 = 0 := by
  unfold parseP at h ⊢
  by_cases h4 : 4 < P.length
  · rw [if_pos h4]
  · rw [if_neg h4] at h ⊢
    cases he : firstErr P 0 with
    | some i => rfl
    | none =>
      rw [he] at h
      simp only at h ⊢
      cases hb : firstBig (P.map fun p => (numberV p).1) 0 with
      | some i => rfl
      | none =>
        rw [hb] at h
        simp only at h ⊢
        by_cases hm : 256 ^ (5 - P.length) ≤ ((P.map fun p => (numberV p).1).getLastD 0)
        · rw [if_pos hm]
        · rw [if_neg hm] at h
          exact absurd rfl h
theorem ends_of_number {l : List UInt8} (h : (numberV (lastV l)).2.2 = 0) : endsV l = true := by
  have hne : lastV l ≠ [] := by
    intro e
    rw [e] at h
    exact absurd h (by decide)
  unfold endsV
  rw [if_neg hne, h]
  split <;> rfl
theorem parse_ends {l : List UInt8} (h : (parseV l).2.2 = 0) : endsV l = true := by
  refine ends_of_number ((parseP_ok h).2 _ ?_)
  unfold lastV
  rw [List.getLastD_eq_getLast?]
  cases hg : (partsV l).getLast? with
  | none => exact absurd (List.getLast?_eq_none_iff.1 hg) (partsV_ne l)
  | some x => exact List.mem_of_getLast? hg
/-- What is left of a part that Strict takes. -/
def good : Nat → Int → List UInt8 → Prop
  | size, x, [] => 0 < size
  | size, x, c :: p => (48 ≤ (c.toNat : Int) ∧ (c.toNat : Int) ≤ 57) ∧ (size = 0 ∨ 0 < x) ∧ 10 * x + ((c.toNat : Int) - 48) ≤ 255 ∧ good (size + 1) (10 * x + ((c.toNat : Int) - 48)) p
theorem strict_good : ∀ (l : List UInt8) (i : Nat) (n : Int) (part size : Nat) (x : Int), part ≤ 3 → (strictL l i n part size x).2.2 = 0 → ∃ p rest, splitC 46 l = p :: rest ∧ good size x p ∧ rest.length + part = 3 ∧ ∀ q ∈ rest, good 0 0 q
  | [], i, n, part, size, x, hp, h => by
    rw [strictL] at h
    by_cases hc : part < 3 ∨ size = 0
    · rw [if_pos hc] at h
      exact absurd (show (203 : Int) = 0 from h) (by decide)
    · exact ⟨[], [], rfl, (by show 0 < size; omega), by simp; omega, fun q hq => absurd hq (by simp)⟩
  | c :: l, i, n, part, size, x, hp, h => by
    rw [strictL] at h
    by_cases hd : 48 ≤ (c.toNat : Int) ∧ (c.toNat : Int) ≤ 57 ∧ (size = 0 ∨ 0 < x) ∧ 10 * x + ((c.toNat : Int) - 48) ≤ 255
    · rw [if_pos hd] at h
      obtain ⟨p, rest, e, g, hl, hr⟩ := strict_good l _ _ _ _ _ hp h
      have hc : c ≠ 46 := by
        intro e
        subst e
        exact absurd hd.1 (by decide)
      refine ⟨c :: p, rest, ?_, ⟨⟨hd.1, hd.2.1⟩, hd.2.2.1, hd.2.2.2, g⟩, hl, hr⟩
      rw [splitC_cons hc, e]
      rfl
    · rw [if_neg hd] at h
      by_cases hs : c = 46 ∧ 0 < size ∧ part < 3
      · rw [if_pos hs] at h
        obtain ⟨p, rest, e, g, hl, hr⟩ := strict_good l _ _ _ _ _ (show part + 1 ≤ 3 by omega) h
        rw [hs.1, splitC_eq, e]
        refine ⟨[], p :: rest, rfl, hs.2.1, by simp; omega, fun q hq => ?_⟩
        rcases List.mem_cons.1 hq with rfl | hq
        · exact g
        · exact hr q hq
      · rw [if_neg hs] at h
        exact absurd (show (203 : Int) = 0 from h) (by decide)
theorem good_cap : ∀ (p : List UInt8) (size : Nat) (x : Int), 0 ≤ x → x ≤ 255 → good size x p → ∃ v, capL 10 p x = some v ∧ 0 ≤ v ∧ v ≤ 255
  | [], size, x, h0, h1, g => ⟨x, rfl, h0, h1⟩
  | c :: p, size, x, h0, h1, g => by
    obtain ⟨⟨d0, d1⟩, _, hb, g⟩ := g
    obtain ⟨v, hv, b⟩ := good_cap p _ _ (by omega) hb g
    refine ⟨v, ?_, b⟩
    have hd : digV (c.toNat : Int) 10 = (c.toNat : Int) - 48 := by rw [digV10 _ c.toNat_lt, if_pos ⟨d0, d1⟩]
    rw [capL, hd, if_neg (by omega), if_neg (by omega), show x * 10 + ((c.toNat : Int) - 48) = 10 * x + ((c.toNat : Int) - 48) by omega]
    exact hv
theorem good_number {p : List UInt8} (g : good 0 0 p) : (numberV p).2.2 = 0 ∧ 0 ≤ (numberV p).1 ∧ (numberV p).1 ≤ 255 := by
  obtain ⟨v, hv, b0, b1⟩ := good_cap p 0 0 (by decide) (by decide) g
  cases p with
  | nil => exact absurd g (Nat.lt_irrefl 0)
  | cons c p =>
    have eb : baseOf (c :: p) = (10, c :: p) := by
      by_cases h48 : c = 48
      · subst h48
        have g2 := g.2.2.2
        cases p with
        | nil => rfl
        | cons d p =>
          have := g2.2.1
          exact absurd this (by decide)
      · unfold baseOf
        split <;> simp_all
    have e : numberV (c :: p) = (v, 10, 0) := by
      unfold numberV
      rw [if_neg (by simp), eb, hv]
    rw [e]
    exact ⟨rfl, b0, b1⟩
theorem strict_parse {l : List UInt8} (h : (strictV l).2.2 = 0) : (parseV l).2.2 = 0 := by
  obtain ⟨p, rest, e, g, hl, hr⟩ := strict_good l 0 0 0 0 0 (by decide) h
  obtain ⟨q, r, t, rfl⟩ : ∃ q r t, rest = [q, r, t] := by
    match rest, hl with
    | [q, r, t], _ => exact ⟨q, r, t, rfl⟩
  have gq := hr q (by simp)
  have gr := hr r (by simp)
  have gt := hr t (by simp)
  have ht : t ≠ [] := by
    rintro rfl
    exact absurd gt (Nat.lt_irrefl 0)
  have hP : partsV l = [p, q, r, t] := by
    unfold partsV partsL
    rw [e, if_neg]
    intro h
    exact ht (by simpa using h.2)
  have n0 := good_number g
  have n1 := good_number gq
  have n2 := good_number gr
  have n3 := good_number gt
  unfold parseV
  rw [hP]
  unfold parseP
  rw [if_neg (by simp), firstErr_ok (by simp [n0.1, n1.1, n2.1, n3.1])]
  have hb : firstBig ([p, q, r, t].map fun p => (numberV p).1) 0 = none := by
    simp only [List.map_cons, List.map_nil, firstBig]
    rw [if_neg (by omega), if_neg (by omega), if_neg (by omega)]
  rw [hb]
  show (if (256 : Int) ^ (5 - 4) ≤ (numberV t).1 then _ else _ : Int × Int × Int).2.2 = 0
  rw [if_neg (by omega)]
theorem splitC_stop (l : List UInt8) : splitC 46 (l ++ [46]) = splitC 46 l ++ [[]] := by
  induction l with
  | nil => rfl
  | cons b l ih =>
    by_cases hb : b = 46
    · subst hb
      rw [List.cons_append, splitC_eq, splitC_eq, ih]
      rfl
    · rw [List.cons_append, splitC_cons hb, splitC_cons hb, ih]
      have := splitC_ne 46 l
      cases h : splitC 46 l with
      | nil => exact absurd h this
      | cons p ps => rfl
theorem splitC_last (l : List UInt8) (h : l ≠ []) (h2 : l.getLast? ≠ some 46) : (splitC 46 l).getLast? ≠ some [] := by
  induction l with
  | nil => exact absurd rfl h
  | cons b l ih =>
    by_cases hl : l = []
    · subst hl
      have hb : b ≠ 46 := fun e => h2 (by rw [e]; rfl)
      rw [splitC_cons hb]
      simp [splitC, ahead1]
    · have i2 := ih hl (by
        intro e
        apply h2
        rw [List.getLast?_cons, e]
        rfl)
      by_cases hb : b = 46
      · subst hb
        rw [splitC_eq, List.getLast?_cons]
        cases hg : (splitC 46 l).getLast? with
        | none => exact absurd (List.getLast?_eq_none_iff.1 hg) (splitC_ne 46 l)
        | some x =>
          rw [hg] at i2
          exact i2
      · rw [splitC_cons hb]
        cases hs : splitC 46 l with
        | nil => exact absurd hs (splitC_ne 46 l)
        | cons p ps =>
          cases ps with
          | nil => simp [ahead1]
          | cons q qs =>
            rw [hs] at i2
            simp only [ahead1]
            rw [List.getLast?_cons_cons] at i2 ⊢
            exact i2
theorem partsV_stop (l : List UInt8) (h : l ≠ []) (h2 : l.getLast? ≠ some 46) : partsV (l ++ [46]) = partsV l := by
  have hne := splitC_ne 46 l
  have hpos : 0 < (splitC 46 l).length := List.length_pos_iff.2 hne
  unfold partsV partsL
  rw [splitC_stop, if_pos ⟨by simp; omega, by simp⟩, if_neg (fun h3 => splitC_last l h h2 h3.2)]
  simp
theorem endsV_stop (l : List UInt8) (h : l ≠ []) (h2 : l.getLast? ≠ some 46) : endsV (l ++ [46]) = endsV l := by
  unfold endsV lastV
  rw [partsV_stop l h h2]
theorem parseV_stop (l : List UInt8) (h : l ≠ []) (h2 : l.getLast? ≠ some 46) : parseV (l ++ [46]) = parseV l := by
  unfold parseV
  rw [partsV_stop l h h2]
end Go.Proofs.YtgnahagnmodpdaaDoor

/- Plain laws: an address that is printed is read back. No program in sight. -/
namespace Go.Proofs.YtgnahagnmodpdaaDoor
open Go.RowKit Go.Proofs.YtgnahagnmodpdaaDoorW.PrintWords
set_option linter.unusedVariables false
set_option linter.unusedSimpArgs false

theorem dec_tab : ∀ v : Fin 256, numberV (dec3 v.val) = ((v.val : Int), 10, 0) ∧ (∀ c ∈ dec3 v.val, c ≠ 46) ∧ (dec3 v.val).all isDec = true := by decide +kernel
theorem printV_dec (n : Int) (h0 : 0 ≤ n) (h1 : n ≤ 4294967295) : printV n = dec3 (n / 16777216).toNat ++ 46 :: (dec3 (n / 65536 % 256).toNat ++ 46 :: (dec3 (n / 256 % 256).toNat ++ 46 :: dec3 (n % 256).toNat)) := by
  unfold printV oct4
  simp only [List.map_cons, List.map_nil, join4]
  rw [itoa_small (by omega) (by omega), itoa_small (by omega) (by omega), itoa_small (by omega) (by omega), itoa_small (by omega) (by omega)]
theorem splitC_no {p : List UInt8} (h : ∀ c ∈ p, c ≠ 46) : splitC 46 p = [p] := by
  induction p with
  | nil => rfl
  | cons b p ih =>
    rw [splitC_cons (h b (by simp)), ih (fun c hc => h c (by simp [hc]))]
    rfl
theorem splitC_at {p : List UInt8} (h : ∀ c ∈ p, c ≠ 46) (t : List UInt8) : splitC 46 (p ++ 46 :: t) = p :: splitC 46 t := by
  induction p with
  | nil => exact splitC_eq 46 t
  | cons b p ih =>
    rw [List.cons_append, splitC_cons (h b (by simp)), ih (fun c hc => h c (by simp [hc]))]
    rfl
theorem split_print (n : Int) (h0 : 0 ≤ n) (h1 : n ≤ 4294967295) : splitC 46 (printV n) = [dec3 (n / 16777216).toNat, dec3 (n / 65536 % 256).toNat, dec3 (n / 256 % 256).toNat, dec3 (n % 256).toNat] := by
  rw [printV_dec n h0 h1, splitC_at (dec_tab ⟨(n / 16777216).toNat, by omega⟩).2.1, splitC_at (dec_tab ⟨(n / 65536 % 256).toNat, by omega⟩).2.1, splitC_at (dec_tab ⟨(n / 256 % 256).toNat, by omega⟩).2.1, splitC_no (dec_tab ⟨(n % 256).toNat, by omega⟩).2.1]
theorem dec3_ne (v : Nat) : dec3 v ≠ [] := fun e => by
  have := (dec3_len v).1
  rw [e] at this
  exact absurd this (by decide)
theorem parts_print (n : Int) (h0 : 0 ≤ n) (h1 : n ≤ 4294967295) : partsV (printV n) = [dec3 (n / 16777216).toNat, dec3 (n / 65536 % 256).toNat, dec3 (n / 256 % 256).toNat, dec3 (n % 256).toNat] := by
  unfold partsV partsL
  rw [split_print n h0 h1, if_neg]
  intro h
  exact dec3_ne _ (by simpa using h.2)
theorem parts_print_stop (n : Int) (h0 : 0 ≤ n) (h1 : n ≤ 4294967295) : partsV (printV n ++ [46]) = [dec3 (n / 16777216).toNat, dec3 (n / 65536 % 256).toNat, dec3 (n / 256 % 256).toNat, dec3 (n % 256).toNat] := by
  unfold partsV partsL
  rw [splitC_stop, split_print n h0 h1, if_pos ⟨by simp, by simp⟩]
  simp
theorem parse_four (n : Int) (h0 : 0 ≤ n) (h1 : n ≤ 4294967295) : parseP [dec3 (n / 16777216).toNat, dec3 (n / 65536 % 256).toNat, dec3 (n / 256 % 256).toNat, dec3 (n % 256).toNat] = (n, 0, 0) := by
  have t0 := (dec_tab ⟨(n / 16777216).toNat, by omega⟩).1
  have t1 := (dec_tab ⟨(n / 65536 % 256).toNat, by omega⟩).1
  have t2 := (dec_tab ⟨(n / 256 % 256).toNat, by omega⟩).1
  have t3 := (dec_tab ⟨(n % 256).toNat, by omega⟩).1
  simp only at t0 t1 t2 t3
  unfold parseP
  rw [if_neg (by simp), firstErr_ok (by simp [t0, t1, t2, t3])]
  simp only [List.map_cons, List.map_nil, t0, t1, t2, t3, firstBig]
  rw [if_neg (by omega), if_neg (by omega), if_neg (by omega)]
  show (if (256 : Int) ^ (5 - 4) ≤ ((n % 256).toNat : Int) then _ else _ : Int × Int × Int) = _
  rw [if_neg (by omega)]
  refine congrArg (fun x => (x, (0 : Int), (0 : Int))) ?_
  simp only [sumFrom]
  omega
theorem print_parse (n : Int) (h0 : 0 ≤ n) (h1 : n ≤ 4294967295) : parseV (printV n) = (n, 0, 0) := by
  unfold parseV
  rw [parts_print n h0 h1, parse_four n h0 h1]
theorem print_parse_stop (n : Int) (h0 : 0 ≤ n) (h1 : n ≤ 4294967295) : parseV (printV n ++ [46]) = (n, 0, 0) := by
  unfold parseV
  rw [parts_print_stop n h0 h1, parse_four n h0 h1]
theorem print_ends (n : Int) (h0 : 0 ≤ n) (h1 : n ≤ 4294967295) : endsV (printV n) = true := parse_ends (by rw [print_parse n h0 h1])
theorem print_ends_stop (n : Int) (h0 : 0 ≤ n) (h1 : n ≤ 4294967295) : endsV (printV n ++ [46]) = true := parse_ends (by rw [print_parse_stop n h0 h1])
theorem strict_dig (x : Nat) (hx : x < 10) (l : List UInt8) (i : Nat) (n : Int) (part size : Nat) (X : Int) (h : size = 0 ∨ 0 < X) (hb : 10 * X + (x : Int) ≤ 255) : strictL (dgt x :: l) i n part size X = strictL l (i + 1) n part (size + 1) (10 * X + (x : Int)) := by
  have hd : ((dgt x).toNat : Int) = 48 + (x : Int) := by rw [dgt_toNat hx]; omega
  rw [strictL, hd, if_pos ⟨by omega, by omega, h, by omega⟩, show 10 * X + (48 + (x : Int) - 48) = 10 * X + (x : Int) by omega]
theorem strict_dec (v : Nat) (hv : v < 256) (l : List UInt8) (i : Nat) (n : Int) (part : Nat) : ∃ s, 0 < s ∧ strictL (dec3 v ++ l) i n part 0 0 = strictL l (i + s) n part s (v : Int) := by
  unfold dec3
  by_cases h100 : 100 ≤ v
  · refine ⟨3, by decide, ?_⟩
    rw [if_pos h100, if_pos (by omega)]
    show strictL (dgt (v / 100) :: dgt (v / 10 % 10) :: dgt (v % 10) :: l) i n part 0 0 = _
    rw [strict_dig _ (by omega) _ _ _ _ _ _ (.inl rfl) (by omega), strict_dig _ (by omega) _ _ _ _ _ _ (.inr (by omega)) (by omega), strict_dig _ (by omega) _ _ _ _ _ _ (.inr (by omega)) (by omega)]
    rw [show 10 * (10 * (10 * (0 : Int) + ((v / 100 : Nat) : Int)) + ((v / 10 % 10 : Nat) : Int)) + ((v % 10 : Nat) : Int) = (v : Int) by omega]
  · by_cases h10 : 10 ≤ v
    · refine ⟨2, by decide, ?_⟩
      rw [if_neg h100, if_pos h10]
      show strictL (dgt (v / 10 % 10) :: dgt (v % 10) :: l) i n part 0 0 = _
      rw [strict_dig _ (by omega) _ _ _ _ _ _ (.inl rfl) (by omega), strict_dig _ (by omega) _ _ _ _ _ _ (.inr (by omega)) (by omega)]
      rw [show 10 * (10 * (0 : Int) + ((v / 10 % 10 : Nat) : Int)) + ((v % 10 : Nat) : Int) = (v : Int) by omega]
    · refine ⟨1, by decide, ?_⟩
      rw [if_neg h100, if_neg h10]
      show strictL (dgt (v % 10) :: l) i n part 0 0 = _
      rw [strict_dig _ (by omega) _ _ _ _ _ _ (.inl rfl) (by omega)]
      rw [show 10 * (0 : Int) + ((v % 10 : Nat) : Int) = (v : Int) by omega]
theorem strict_dot (l : List UInt8) (i : Nat) (n : Int) (part size : Nat) (X : Int) (hs : 0 < size) (hp : part < 3) : strictL (46 :: l) i n part size X = strictL l (i + 1) ((256 * n + X) % 4294967296) (part + 1) 0 0 := by
  rw [strictL, if_neg (fun h => absurd h.1 (by decide)), if_pos ⟨rfl, hs, hp⟩]
theorem print_strict (n : Int) (h0 : 0 ≤ n) (h1 : n ≤ 4294967295) : strictV (printV n) = (n, 0, 0) := by
  unfold strictV
  rw [printV_dec n h0 h1]
  obtain ⟨s0, p0, e0⟩ := strict_dec (n / 16777216).toNat (by omega) (46 :: (dec3 (n / 65536 % 256).toNat ++ 46 :: (dec3 (n / 256 % 256).toNat ++ 46 :: dec3 (n % 256).toNat))) 0 0 0
  rw [e0, strict_dot _ _ _ _ _ _ p0 (by decide)]
  obtain ⟨s1, p1, e1⟩ := strict_dec (n / 65536 % 256).toNat (by omega) (46 :: (dec3 (n / 256 % 256).toNat ++ 46 :: dec3 (n % 256).toNat)) (0 + s0 + 1) ((256 * 0 + ((n / 16777216).toNat : Int)) % 4294967296) (0 + 1)
  rw [e1, strict_dot _ _ _ _ _ _ p1 (by decide)]
  obtain ⟨s2, p2, e2⟩ := strict_dec (n / 256 % 256).toNat (by omega) (46 :: dec3 (n % 256).toNat) (0 + s0 + 1 + s1 + 1) ((256 * ((256 * 0 + ((n / 16777216).toNat : Int)) % 4294967296) + ((n / 65536 % 256).toNat : Int)) % 4294967296) (0 + 1 + 1)
  rw [e2, strict_dot _ _ _ _ _ _ p2 (by decide)]
  obtain ⟨s3, p3, e3⟩ := strict_dec (n % 256).toNat (by omega) [] (0 + s0 + 1 + s1 + 1 + s2 + 1) ((256 * ((256 * ((256 * 0 + ((n / 16777216).toNat : Int)) % 4294967296) + ((n / 65536 % 256).toNat : Int)) % 4294967296) + ((n / 256 % 256).toNat : Int)) % 4294967296) (0 + 1 + 1 + 1)
  rw [List.append_nil] at e3
  rw [e3, strictL, if_neg (by omega)]
  refine congrArg (fun x => (x, (0 : Int), (0 : Int))) ?_
  have k1 : (256 * 0 + ((n / 16777216).toNat : Int)) % 4294967296 = n / 16777216 := by omega
  have k2 : (256 * (n / 16777216) + ((n / 65536 % 256).toNat : Int)) % 4294967296 = n / 65536 := by omega
  have k3 : (256 * (n / 65536) + ((n / 256 % 256).toNat : Int)) % 4294967296 = n / 256 := by omega
  rw [k1, k2, k3]
  omega
end Go.Proofs.YtgnahagnmodpdaaDoor

/- The document's Print, plainly. -/
namespace Go.Proofs.YtgnahagnmodpdaaDoor
open Go.RowKit Go.Proofs.YtgnahagnmodpdaaDoorW.PrintWords Go.Proofs.YtgnahagnmodpdaaDoor.X Go.IntWalk
set_option linter.unusedVariables false
set_option linter.unusedSimpArgs false

theorem str_one (x : Int) (h0 : 0 ≤ x) (h1 : x < 10) : strOfNums [(wrap64 (48 + x)) % 256] = BA [dgt x.toNat] := by
  unfold strOfNums BA dgt
  rw [wrap64_in _ (by omega)]
  simp only [List.map_cons, List.map_nil]
  rw [show ((48 + x) % 256).toNat = 48 + x.toNat by omega]
theorem ba_append (a b : List UInt8) : BA a ++ BA b = BA (a ++ b) := ba_ext (by simp [BA])
theorem rp_j1 (n v : Int) (i : Nat) (out : List UInt8) (ho : out.length ≤ 100) (hi : i ≤ 3) (v0 : 0 ≤ v) (v1 : v ≤ 255) (r : ByteArray) (h : Ev (fun k => posternref20_Print.l0 k n (BA (out ++ dec3 v.toNat)) ((i + 1 : Nat) : Int)) r) :
    Ev (fun k => posternref20_Print.j1 k n (BA out) (i : Int) v) r := by
  refine Ev.step (fun k => ?_) h
  have d1 : Int.tdiv v 100 = v / 100 := Int.tdiv_eq_ediv_of_nonneg v0
  have d2 : Int.tdiv v 10 = v / 10 := Int.tdiv_eq_ediv_of_nonneg v0
  have d3 : Int.tmod v 10 = v % 10 := Int.tmod_eq_emod_of_nonneg v0
  have d4 : Int.tmod (v / 10) 10 = v / 10 % 10 := Int.tmod_eq_emod_of_nonneg (by omega)
  have hd : dec3 v.toNat = (if 100 ≤ v.toNat then [dgt (v.toNat / 100)] else []) ++ (if 10 ≤ v.toNat then [dgt (v.toNat / 10 % 10)] else []) ++ [dgt (v.toNat % 10)] := rfl
  simp only [posternref20_Print.j1, Option.bind_some]
  rw [d1, d2, d3, wrap64_in (v / 100) (by omega), wrap64_in (v / 10) (by omega), d4, str_one (v / 100) (by omega) (by omega), str_one (v / 10 % 10) (by omega) (by omega), str_one (v % 10) (by omega) (by omega)]
  rw [show (v / 100).toNat = v.toNat / 100 by omega, show (v / 10 % 10).toNat = v.toNat / 10 % 10 by omega, show (v % 10).toNat = v.toNat % 10 by omega, wrap64_in ((i : Int) + 1) (by omega), show (i : Int) + 1 = ((i + 1 : Nat) : Int) by omega]
  simp only [ba_append, ba_size, List.length_append, List.length_cons, List.length_nil]
  by_cases h100 : v ≥ 100
  · rw [if_pos h100, if_pos (by omega), if_pos (by omega), if_pos (by omega), if_pos (by omega)]
    rw [hd, if_pos (by omega), if_pos (by omega)]
    simp only [List.append_assoc]
  · rw [if_neg h100]
    by_cases h10 : v ≥ 10
    · rw [if_pos h10, if_pos (by omega), if_pos (by omega)]
      rw [hd, if_neg (by omega), if_pos (by omega)]
      simp only [List.append_assoc, List.nil_append]
    · rw [if_neg h10, if_pos (by omega)]
      rw [hd, if_neg (by omega), if_neg (by omega)]
      simp only [List.nil_append]
theorem rp_byte (n : Int) (h0 : 0 ≤ n) (h1 : n ≤ 4294967295) : (shr .u32 n (IntKind.u64.wrap (wrap64 (24 - wrap64 (8 * 0)))) = n / 16777216) ∧ (shr .u32 n (IntKind.u64.wrap (wrap64 (24 - wrap64 (8 * 1)))) = n / 65536) ∧ (shr .u32 n (IntKind.u64.wrap (wrap64 (24 - wrap64 (8 * 2)))) = n / 256) ∧ (shr .u32 n (IntKind.u64.wrap (wrap64 (24 - wrap64 (8 * 3)))) = n) := by
  have e0 : IntKind.u64.wrap (wrap64 (24 - wrap64 (8 * 0))) = 24 := by decide +kernel
  have e1 : IntKind.u64.wrap (wrap64 (24 - wrap64 (8 * 1))) = 16 := by decide +kernel
  have e2 : IntKind.u64.wrap (wrap64 (24 - wrap64 (8 * 2))) = 8 := by decide +kernel
  have e3 : IntKind.u64.wrap (wrap64 (24 - wrap64 (8 * 3))) = 0 := by decide +kernel
  rw [e0, e1, e2, e3]
  refine ⟨?_, ?_, ?_, ?_⟩
  · show n / 2 ^ 24 = _
    rfl
  · show n / 2 ^ 16 = _
    rfl
  · show n / 2 ^ 8 = _
    rfl
  · show n / 2 ^ 0 = _
    simp
theorem and_255 (x : Int) (h0 : 0 ≤ x) (h1 : x ≤ 4294967295) : wrap64 (Go.bits .and .u32 x 255) = x % 256 := by
  obtain ⟨N, rfl⟩ := Int.eq_ofNat_of_zero_le h0
  rw [show (255 : Int) = ((255 : Nat) : Int) from rfl, u32_and_nat _ _ (by omega) (by decide), nat_and_255, wrap64_in _ (by omega)]
  omega
theorem rp_end (n : Int) (out : List UInt8) : Ev (fun k => posternref20_Print.l0 k n (BA out) ((3 + 1 : Nat) : Int)) (BA out) := by
  refine Ev.step (f := fun k => some (BA out)) (fun k => ?_) (Ev.now _)
  simp only [posternref20_Print.l0]
  rw [if_neg (by decide)]
theorem rp_step (n b : Int) (i : Nat) (hi : i ≤ 3) (out : List UInt8) (ho : out.length ≤ 99) (r : ByteArray) (b0 : 0 ≤ b) (b1 : b ≤ 4294967295) (hb : shr .u32 n (IntKind.u64.wrap (wrap64 (24 - wrap64 (8 * (i : Int))))) = b)
    (h : Ev (fun k => posternref20_Print.l0 k n (BA ((if i = 0 then out else out ++ [46]) ++ dec3 (b % 256).toNat)) ((i + 1 : Nat) : Int)) r) : Ev (fun k => posternref20_Print.l0 k n (BA out) (i : Int)) r := by
  have hl : (if i = 0 then out else out ++ [46]).length ≤ 100 := by split <;> first | omega | (simp; omega)
  refine Ev.step (fun k => ?_) (rp_j1 n (b % 256) i _ hl hi (by omega) (by omega) r h)
  have hw : ∀ j : Fin 4, 0 ≤ IntKind.u64.wrap (wrap64 (24 - wrap64 (8 * (j.val : Int)))) := by decide +kernel
  simp only [posternref20_Print.l0]
  rw [if_pos (by omega), if_pos (hw ⟨i, by omega⟩), hb, and_255 b b0 b1]
  by_cases h0 : i = 0
  · rw [if_neg (by omega), if_pos h0]
  · rw [if_pos (by omega), if_neg h0, if_pos (by rw [ba_size]; omega), ← ba_append]
    rfl
theorem ref_print (n : Int) (h0 : 0 ≤ n) (h1 : n ≤ 4294967295) : Ev (fun k => posternref20_Print.f k n) (BA (printV n)) := by
  obtain ⟨s0, s1, s2, s3⟩ := rp_byte n h0 h1
  have e0 := dec3_len (n / 16777216 % 256).toNat
  have e1 := dec3_len (n / 65536 % 256).toNat
  have e2 := dec3_len (n / 256 % 256).toNat
  have e : printV n = (((dec3 (n / 16777216 % 256).toNat ++ [46] ++ dec3 (n / 65536 % 256).toNat) ++ [46] ++ dec3 (n / 256 % 256).toNat) ++ [46] ++ dec3 (n % 256).toNat) := by
    unfold printV oct4
    simp only [List.map_cons, List.map_nil, join4]
    rw [itoa_small (by omega) (by omega), itoa_small (by omega) (by omega), itoa_small (by omega) (by omega), itoa_small (by omega) (by omega), show n / 16777216 % 256 = n / 16777216 by omega]
    simp
  rw [e]
  refine Ev.congr (f := fun k => posternref20_Print.l0 k n (BA []) ((0 : Nat) : Int)) (fun k => rfl) ?_
  refine rp_step n (n / 16777216) 0 (by decide) [] (by decide) _ (by omega) (by omega) s0 ?_
  refine rp_step n (n / 65536) 1 (by decide) _ (by simp; omega) _ (by omega) (by omega) s1 ?_
  refine rp_step n (n / 256) 2 (by decide) _ (by simp; omega) _ (by omega) (by omega) s2 ?_
  refine rp_step n n 3 (by decide) _ (by simp; omega) _ (by omega) (by omega) s3 ?_
  exact rp_end n _
end Go.Proofs.YtgnahagnmodpdaaDoor

/- FourBack: the walk. -/
namespace Go.Proofs.YtgnahagnmodpdaaDoor
open Go.RowKit Go.Proofs.YtgnahagnmodpdaaDoorW.PrintWords Go.Proofs.YtgnahagnmodpdaaDoor.X Go.IntWalk
set_option linter.unusedVariables false
set_option linter.unusedSimpArgs false

theorem c_awake (w : World) (hG : GW w) : Calls Tryd.prog 11 #[] w fun e w' => e = .returned (.bool true) ∧ Below w.heap.size w w' := by
  obtain ⟨k, h⟩ := awake_ev.rounds
  exact posternlaw20_awake.calls k true w hG h
theorem c_parse (s : ByteArray) (hs : s.size ≤ 4294967280) (w : World) (hG : GW w) : Calls Tryd.prog 13 #[.string s] w fun e w' => e = .returned (.tuple #[.int .u32 (parseV s.data.toList).1, .int .i64 (parseV s.data.toList).2.1, .int .i64 (parseV s.data.toList).2.2]) ∧ Below w.heap.size w w' :=
  four_Parse.calls s _ _ _ w hG (if_pos hs)
theorem c_print (n : Int) (h0 : 0 ≤ n) (h1 : n ≤ 4294967295) (w : World) (hG : GW w) : Calls Tryd.prog 23 #[.int .u32 n] w fun e w' => e = .returned (.string (BA (printV n))) ∧ Below w.heap.size w w' := print_walk n h0 h1 w hG
theorem c_ends (s : ByteArray) (hs : s.size ≤ 4294967280) (w : World) (hG : GW w) : Calls Tryd.prog 14 #[.string s] w fun e w' => e = .returned (.bool (endsV s.data.toList)) ∧ Below w.heap.size w w' := by
  obtain ⟨k, h⟩ := (four_ends s hs).rounds
  exact four_Ends.calls k s _ w hG h
theorem c_strict (s : ByteArray) (hs : s.size ≤ 4294967280) (w : World) : Calls Tryd.prog 21 #[.string s] w fun e w' => e = .returned (.tuple #[.int .u32 (strictV s.data.toList).1, .int .i64 (strictV s.data.toList).2.1, .int .i64 (strictV s.data.toList).2.2]) ∧ Drawn0 w w' := by
  obtain ⟨k, h⟩ := (strict_ev s hs).rounds
  exact four_Strict.calls k s _ _ _ w h
theorem c_refprint (n : Int) (h0 : 0 ≤ n) (h1 : n ≤ 4294967295) (w : World) : Calls Tryd.prog 25 #[.int .u32 n] w fun e w' => e = .returned (.string (BA (printV n))) ∧ Below w.heap.size w w' := by
  obtain ⟨k, h⟩ := (ref_print n h0 h1).rounds
  exact posternref20_Print.calls k n _ w h
end Go.Proofs.YtgnahagnmodpdaaDoor

/- FourBack: the walk. -/
namespace Go.Proofs.YtgnahagnmodpdaaDoor
open Go.RowKit Go.Proofs.YtgnahagnmodpdaaDoorW.PrintWords Go.Proofs.YtgnahagnmodpdaaDoor.X Go.IntWalk
set_option linter.unusedVariables false
set_option linter.unusedSimpArgs false

theorem or_four (b0 b1 b2 b3 : Int) (p0 : 0 ≤ b0) (q0 : b0 ≤ 255) (p1 : 0 ≤ b1) (q1 : b1 ≤ 255) (p2 : 0 ≤ b2) (q2 : b2 ≤ 255) (p3 : 0 ≤ b3) (q3 : b3 ≤ 255) :
    bits .or .u32 (bits .or .u32 (bits .or .u32 (b0 * 16777216) (b1 * 65536)) (b2 * 256)) b3 = b0 * 16777216 + b1 * 65536 + b2 * 256 + b3 := by
  obtain ⟨a, rfl⟩ := Int.eq_ofNat_of_zero_le p0
  obtain ⟨b, rfl⟩ := Int.eq_ofNat_of_zero_le p1
  obtain ⟨c, rfl⟩ := Int.eq_ofNat_of_zero_le p2
  obtain ⟨d, rfl⟩ := Int.eq_ofNat_of_zero_le p3
  rw [show (a : Int) * 16777216 = ((a * 16777216 : Nat) : Int) by omega, show (b : Int) * 65536 = ((b * 65536 : Nat) : Int) by omega, show (c : Int) * 256 = ((c * 256 : Nat) : Int) by omega]
  rw [u32_or_nat _ _ (by omega) (by omega), nat_or24 _ _ (by omega), u32_or_nat _ _ (by omega) (by omega), show a * 16777216 + b * 65536 = (a * 256 + b) * 65536 by omega, nat_or16 _ _ (by omega), u32_or_nat _ _ (by omega) (by omega), show (a * 256 + b) * 65536 + c * 256 = (a * 65536 + b * 256 + c) * 256 by omega, nat_or8 _ _ (by omega)]
  omega
theorem printV_short (n : Int) (h0 : 0 ≤ n) (h1 : n ≤ 4294967295) : (printV n).length ≤ 15 := by
  rw [printV_dec n h0 h1]
  have a := dec3_len (n / 16777216).toNat
  have b := dec3_len (n / 65536 % 256).toNat
  have c := dec3_len (n / 256 % 256).toNat
  have d := dec3_len (n % 256).toNat
  simp only [List.length_append, List.length_cons]
  omega
set_option maxHeartbeats 4000000 in
set_option maxRecDepth 100000 in
theorem back_walk (n : Int) (h0 : 0 ≤ n) (h1 : n ≤ 4294967295) (w : World) (hG : GW w) :
    Calls Tryd.prog 6 #[.int .u32 n] w fun e w' => e = .returned (.bool true) ∧ Below w.heap.size w w' := by
  obtain ⟨s, hs⟩ : ∃ s, s = printV n := ⟨_, rfl⟩
  obtain ⟨b0, e0⟩ : ∃ b, b = n / 16777216 := ⟨_, rfl⟩
  obtain ⟨b1, e1⟩ : ∃ b, b = n / 65536 % 256 := ⟨_, rfl⟩
  obtain ⟨b2, e2⟩ : ∃ b, b = n / 256 % 256 := ⟨_, rfl⟩
  obtain ⟨b3, e3⟩ : ∃ b, b = n % 256 := ⟨_, rfl⟩
  have HG := Aside0.mk hG
  have HA := Aside0.mk c_awake
  have HP := Aside0.mk (c_print n h0 h1)
  have HR := Aside0.mk (c_refprint n h0 h1)
  have HO := Aside0.mk (octets_walk n h0 h1)
  have hz : (BA s).size ≤ 15 := by rw [ba_size, hs]; exact printV_short n h0 h1
  have hz2 : (BA s ++ (⟨#[46]⟩ : ByteArray)).size ≤ 16 := by rw [ByteArray.size_append]; exact Nat.add_le_add hz (Nat.le_refl 1)
  have hq : (BA s ++ (⟨#[46]⟩ : ByteArray)).data.toList = s ++ [46] := by simp [BA]
  have HP1 := Aside0.mk (c_parse (BA s) (by omega))
  have HP2 := Aside0.mk (c_parse (BA s ++ (⟨#[46]⟩ : ByteArray)) (by omega))
  have HE1 := Aside0.mk (c_ends (BA s) (by omega))
  have HE2 := Aside0.mk (c_ends (BA s ++ (⟨#[46]⟩ : ByteArray)) (by omega))
  have HT := Aside0.mk (c_strict (BA s) (by omega))
  rw [ba_list, hs, print_parse n h0 h1, ← hs] at HP1
  rw [hq, hs, print_parse_stop n h0 h1, ← hs] at HP2
  rw [ba_list, hs, print_ends n h0 h1, ← hs] at HE1
  rw [hq, hs, print_ends_stop n h0 h1, ← hs] at HE2
  rw [ba_list, hs, print_strict n h0 h1, ← hs] at HT
  rw [← hs] at HP HR
  rw [← e0, ← e1, ← e2, ← e3] at HO
  have HS := Aside0.mk hs
  have a0 : 0 ≤ b0 ∧ b0 ≤ 255 := by omega
  have a1 : 0 ≤ b1 ∧ b1 ≤ 255 := by omega
  have a2 : 0 ≤ b2 ∧ b2 ≤ 255 := by omega
  have a3 : 0 ≤ b3 ∧ b3 ≤ 255 := by omega
  have hor : bits .or .u32 (bits .or .u32 (bits .or .u32 (b0 * 16777216) (b1 * 65536)) (b2 * 256)) b3 = n := by
    rw [or_four b0 b1 b2 b3 a0.1 a0.2 a1.1 a1.2 a2.1 a2.2 a3.1 a3.2]
    omega
  have hne : (bits .or .u32 (bits .or .u32 (bits .or .u32 (b0 * 16777216) (b1 * 65536)) (b2 * 256)) b3 != n) = false := by rw [hor]; simp
  have hlen : (9223372036854775807 < (BA s).size + 1) = False := eq_false (by omega)
  clear hG hs e0 e1 e2 e3
  go_enter Tryd.func6, Tryd.ntmps6
  go_wp2_with fail
  refine (HA.out _ HG.out).mono ?_
  rintro e w1 ⟨rfl, hb1⟩
  go_wp2_with fail
  refine (HP.out _ (HG.out.keep hb1)).mono ?_
  rintro e w2 ⟨rfl, hb2⟩
  have B2 := below_step hb1 hb2
  clear hb1 hb2
  go_wp2_with fail
  refine (HO.out _).mono ?_
  rintro e w3 ⟨rfl, hb3⟩
  have B3 := below_step B2 hb3
  clear B2 hb3
  go_wp2_with fail
  have BK := blk_new w3 (.cells #[.int .u8 b0, .int .u8 b1, .int .u8 b2, .int .u8 b3] 44)
  refine (HR.out _).mono ?_
  rintro e w4 ⟨rfl, hb4⟩
  have B4 := below_step (Below.alloc B3 B3.size _) hb4
  have K4 := blk_below BK hb4
  clear BK hb4 B3
  generalize w3.heap.size = g at *
  have c0 := (blk_cell K4 0).trans rfl
  have c1 := (blk_cell K4 1).trans rfl
  have c2 := (blk_cell K4 2).trans rfl
  have c3 := (blk_cell K4 3).trans rfl
  go_wp2_with fail
  have BL := blk_new w4 (.cells #[.string (BA s), .string (BA s ++ (⟨#[46]⟩ : ByteArray))] 9)
  have B5 := Below.alloc B4 B4.size (.cells #[.string (BA s), .string (BA s ++ (⟨#[46]⟩ : ByteArray))] 9)
  generalize w4.heap.size = g2 at *
  generalize w4.alloc (.cells #[.string (BA s), .string (BA s ++ (⟨#[46]⟩ : ByteArray))] 9) = w5 at *
  clear c0 c1 c2 c3 K4 B4
  have d0 := (blk_cell BL 0).trans rfl
  refine wp_loop_rounds 3 ?_
  rw [rounds_succ]
  go_wp2_with fail
  refine (HP1.out _ (HG.out.keep B5)).mono ?_
  rintro e w6 ⟨rfl, hb6⟩
  have B6 := below_step B5 hb6
  have BL6 := blk_below BL hb6
  clear d0 BL B5 hb6
  go_wp2_with fail
  refine (HE1.out _ (HG.out.keep B6)).mono ?_
  rintro e w7 ⟨rfl, hb7⟩
  have B7 := below_step B6 hb7
  have BL7 := blk_below BL6 hb7
  clear B6 BL6 hb7
  go_wp2_with fail
  rw [rounds_succ]
  have d1 := (blk_cell BL7 1).trans rfl
  go_wp2_with fail
  refine (HP2.out _ (HG.out.keep B7)).mono ?_
  rintro e w8 ⟨rfl, hb8⟩
  have B8 := below_step B7 hb8
  clear d1 BL7 B7 hb8
  go_wp2_with fail
  refine (HE2.out _ (HG.out.keep B8)).mono ?_
  rintro e w9 ⟨rfl, hb9⟩
  have B9 := below_step B8 hb9
  clear B8 hb9
  go_wp2_with fail
  rw [rounds_succ]
  go_wp2_with fail
  refine (HT.out _).mono ?_
  rintro e wa ⟨rfl, hba⟩
  have Ba := below_step B9 hba.below
  clear B9 hba
  go_wp2_with fail
  go_ret
  exact ⟨rfl, Ba⟩
end Go.Proofs.YtgnahagnmodpdaaDoor

