/- Several texts in one (wip/gen/merge.py): FourS FourP3 FourParsesP FourG FourBackV FourC FourWaysV FourWays FourWays1 FourWays2 FourWays3 FourWays4 FourWaysAll. -/
import Derived.Test.YtgnahagnmodpdaaDoorFourP1
import Derived.Laws.BitsAllLaws
import Derived.Test.YtgnahagnmodpdaaDoorX6
import Derived.Test.YtgnahagnmodpdaaDoorX6
import Derived.Test.YtgnahagnmodpdaaDoorFourP2
import Derived.Test.YtgnahagnmodpdaaDoorX5
import Derived.Test.YtgnahagnmodpdaaDoorX10
import Derived.Test.YtgnahagnmodpdaaDoorFourPrint
import Derived.Test.YtgnahagnmodpdaaDoorX3
/- Strict, plainly: the address that is written just so, as the program and the document have it. -/
namespace Go.Proofs.YtgnahagnmodpdaaDoor
open Go.RowKit Go.Proofs.YtgnahagnmodpdaaDoorW.PrintWords Go.Proofs.YtgnahagnmodpdaaDoor.X Go.IntWalk
set_option linter.unusedVariables false
set_option linter.unusedSimpArgs false

/-- The address of what is left: the place, the number and the count of the parts behind, the digits and the number of this part. -/
def strictL : List UInt8 → Nat → Int → Nat → Nat → Int → Int × Int × Int
  | [], i, n, part, size, x => if part < 3 ∨ size = 0 then (0, i, 203) else ((256 * n + x) % 4294967296, 0, 0)
  | c :: l, i, n, part, size, x => if 48 ≤ (c.toNat : Int) ∧ (c.toNat : Int) ≤ 57 ∧ (size = 0 ∨ 0 < x) ∧ 10 * x + ((c.toNat : Int) - 48) ≤ 255 then strictL l (i + 1) n part (size + 1) (10 * x + ((c.toNat : Int) - 48))
    else if c = 46 ∧ 0 < size ∧ part < 3 then strictL l (i + 1) ((256 * n + x) % 4294967296) (part + 1) 0 0 else (0, i, 203)
def strictV (l : List UInt8) : Int × Int × Int := strictL l 0 0 0 0 0
theorem or_part (n x : Int) (h0 : 0 ≤ n) (h1 : n < 4294967296) (k0 : 0 ≤ x) (k1 : x ≤ 255) : Go.bits .or .u32 ((n * 256) % 4294967296) (x % 4294967296) = (256 * n + x) % 4294967296 := by
  rw [Int.emod_eq_of_lt k0 (by omega)]
  obtain ⟨a, rfl⟩ := Int.eq_ofNat_of_zero_le h0
  obtain ⟨b, rfl⟩ := Int.eq_ofNat_of_zero_le k0
  rw [u32_or _ _ (by omega) (by omega) (by omega) (by omega)]
  have e : ((a : Int) * 256 % 4294967296).toNat = 2 ^ 8 * (a % 16777216) := by omega
  rw [e, Int.toNat_natCast, ← Nat.two_pow_add_eq_or_of_lt (show b < 2 ^ 8 by omega)]
  omega
theorem wdig (x c : Int) (x0 : 0 ≤ x) (x1 : x ≤ 255) (d0 : 48 ≤ c) (d1 : c ≤ 57) : wrap64 (wrap64 (10 * x) + (c - 48)) = 10 * x + (c - 48) := by
  rw [wrap64_in (10 * x) (by omega), wrap64_in _ (by omega)]
theorem wdigm (x c : Int) (x0 : 0 ≤ x) (x1 : x ≤ 255) (d0 : 48 ≤ c) (d1 : c ≤ 57) : wrap64 (wrap64 (10 * x) + (c - 48) % 256) = 10 * x + (c - 48) := by
  rw [show (c - 48) % 256 = c - 48 by omega, wdig x c x0 x1 d0 d1]
theorem wsucc (j : Nat) (h : j < 1099511627776) : wrap64 ((j : Int) + 1) = ((j + 1 : Nat) : Int) := by rw [wrap64_in _ (by omega)]; omega
theorem strict_l1 (s : ByteArray) (hs : s.size ≤ 4294967280) : ∀ (m i : Nat) (n x : Int) (part start : Nat), i + m = s.data.toList.length → start ≤ i → part ≤ 3 → 0 ≤ x → x ≤ 255 → 0 ≤ n → n < 4294967296 →
    Ev (fun k => four_Strict.l1 k s n (i : Int) (part : Int) x (start : Int) (part : Int)) (strictL (s.data.toList.drop i) i n part (i - start) x) := by
  have hz := size_len s
  intro m
  induction m with
  | zero =>
    intro i n x part start hm hst hp x0 x1 n0 n1
    rw [List.drop_of_length_le (by omega)]
    refine Ev.step (f := fun k => four_Strict.j2 k s n (i : Int) (part : Int) x (start : Int) (part : Int) false) (fun k => ?_) ?_
    · simp only [four_Strict.l1]
      rw [if_neg (by omega)]
    · refine Ev.step (f := fun k => some (strictL [] i n part (i - start) x)) (fun k => ?_) (Ev.now _)
      simp only [four_Strict.j2, strictL]
      rw [if_neg (by simp)]
      by_cases h1 : i = start
      · rw [if_pos (by omega), if_pos (.inr (by omega))]
      · rw [if_neg (by omega)]
        by_cases h3 : part = 3
        · rw [if_pos (by omega), if_neg (by omega), if_neg (by omega), or_part n x n0 n1 x0 x1]
        · rw [if_neg (by omega), if_pos (by omega), if_pos (.inl (by omega))]
  | succ m ih =>
    intro i n x part start hm hst hp x0 x1 n0 n1
    have hi : i < s.data.toList.length := by omega
    have hb := bt_get s i hi
    have hlt := s.data.toList[i].toNat_lt
    rw [List.drop_eq_getElem_cons hi]
    have c46 := byte_eq s.data.toList[i] 46
    rw [show (((46 : UInt8).toNat : Nat) : Int) = 46 from rfl] at c46
    generalize s.data.toList[i] = c at *
    rw [strictL]
    refine Ev.step (f := fun k => four_Strict.j2 k s n (i : Int) (part : Int) x (start : Int) (part : Int) (decide (48 ≤ (c.toNat : Int)) && decide ((c.toNat : Int) ≤ 57))) (fun k => ?_) ?_
    · simp only [four_Strict.l1]
      rw [if_pos (by omega), if_pos (by omega), hb]
      by_cases h : (c.toNat : Int) ≥ 48
      · rw [if_pos h, decide_eq_true (show 48 ≤ (c.toNat : Int) from h), Bool.true_and]
      · rw [if_neg h, decide_eq_false (show ¬ 48 ≤ (c.toNat : Int) from h), Bool.false_and]
    · by_cases hd : 48 ≤ (c.toNat : Int) ∧ (c.toNat : Int) ≤ 57
      · obtain ⟨d0, d1⟩ := hd
        rw [decide_eq_true d0, decide_eq_true d1, Bool.and_true]
        have hc : ¬ c = 46 := fun e => by have := c46.2 e; omega
        by_cases hok : (i - start = 0 ∨ 0 < x) ∧ 10 * x + ((c.toNat : Int) - 48) ≤ 255
        · rw [if_pos ⟨d0, d1, hok⟩]
          have e := ih (i + 1) n (10 * x + ((c.toNat : Int) - 48)) part start (by omega) (by omega) hp (by omega) (by omega) n0 n1
          rw [show i + 1 - start = i - start + 1 by omega] at e
          refine Ev.step (fun k => ?_) e
          simp only [four_Strict.j2]
          rw [if_pos trivial, if_pos (by omega), if_pos (by omega), hb, wdigm x c.toNat x0 x1 d0 d1, if_neg (by omega), wsucc i (by omega)]
          by_cases h2 : (i : Int) > (start : Int)
          · rw [if_pos h2, if_neg (by omega)]
          · rw [if_neg h2]
        · rw [if_neg (fun h => hok h.2.2), if_neg (fun h => hc h.1)]
          refine Ev.step (f := fun k => some (0, (i : Int), 203)) (fun k => ?_) (Ev.now _)
          simp only [four_Strict.j2]
          rw [if_pos trivial, if_pos (by omega), if_pos (by omega), hb, wdigm x c.toNat x0 x1 d0 d1]
          by_cases h2 : 10 * x + ((c.toNat : Int) - 48) > 255
          · rw [if_pos h2]
          · rw [if_neg h2, if_pos (by omega), if_pos (by omega)]
      · rw [if_neg (fun h => hd ⟨h.1, h.2.1⟩)]
        have hf : (decide (48 ≤ (c.toNat : Int)) && decide ((c.toNat : Int) ≤ 57)) = false := by
          rw [Bool.and_eq_false_iff, decide_eq_false_iff_not, decide_eq_false_iff_not]
          omega
        rw [hf]
        by_cases hok : c = 46 ∧ 0 < i - start ∧ part < 3
        · rw [if_pos hok]
          have e := ih (i + 1) ((256 * n + x) % 4294967296) 0 (part + 1) (i + 1) (by omega) (by omega) (by omega) (by omega) (by omega) (by omega) (by omega)
          rw [show i + 1 - (i + 1) = 0 by omega] at e
          refine Ev.step (f := fun k => four_Strict.l0 k s ((256 * n + x) % 4294967296) ((i + 1 : Nat) : Int) ((part + 1 : Nat) : Int)) (fun k => ?_) (Ev.step (fun k => ?_) e)
          · simp only [four_Strict.j2]
            rw [if_neg (by simp), if_neg (by omega), if_neg (by omega), if_neg (by omega), if_pos (by omega), if_pos (by omega), hb, if_pos (c46.2 hok.1), or_part n x n0 n1 x0 x1, wsucc i (by omega), wsucc part (by omega)]
          · simp only [four_Strict.l0]
            rw [if_pos (by omega)]
        · rw [if_neg hok]
          refine Ev.step (f := fun k => some (0, (i : Int), 203)) (fun k => ?_) (Ev.now _)
          simp only [four_Strict.j2]
          rw [if_neg (by simp)]
          by_cases h1 : (i : Int) = (start : Int)
          · rw [if_pos h1]
          · rw [if_neg h1]
            by_cases h3 : (part : Int) = 3
            · rw [if_pos h3, if_pos (by omega)]
            · rw [if_neg h3, if_neg (by omega), if_pos (by omega), if_pos (by omega), hb, if_neg (fun e => hok ⟨c46.1 e, by omega, by omega⟩)]
theorem strict_ev (s : ByteArray) (hs : s.size ≤ 4294967280) : Ev (fun k => four_Strict.f k s) (strictV s.data.toList) := by
  have e := strict_l1 s hs s.data.toList.length 0 0 0 0 0 (by omega) (by omega) (by omega) (by omega) (by omega) (by omega) (by omega)
  refine Ev.congr (f := fun k => four_Strict.l0 k s 0 0 0) (fun k => rfl) (Ev.step (fun k => ?_) e)
  simp only [four_Strict.l0]
  rw [if_pos (by decide)]
  rfl
theorem digV10 (c : Nat) (h : c < 256) : digV (c : Int) 10 = if 48 ≤ (c : Int) ∧ (c : Int) ≤ 57 then (c : Int) - 48 else -1 := by
  rw [digV16 (by decide) (by decide)]
  (repeat' split) <;> omega
theorem refStrict_l0 (s : ByteArray) (hs : s.size ≤ 4294967280) : ∀ (m i : Nat) (n x : Int) (part size : Nat), i + m = s.data.toList.length → size ≤ i → part ≤ 3 → 0 ≤ x → x ≤ 255 → 0 ≤ n → n < 4294967296 →
    Ev (fun k => posternref20_Strict.l0 k s n (part : Int) (size : Int) x (i : Int)) (strictL (s.data.toList.drop i) i n part size x) := by
  have hz := size_len s
  intro m
  induction m with
  | zero =>
    intro i n x part size hm hst hp x0 x1 n0 n1
    rw [List.drop_of_length_le (by omega)]
    refine Ev.step (f := fun k => some (strictL [] i n part size x)) (fun k => ?_) (Ev.now _)
    simp only [posternref20_Strict.l0, strictL]
    rw [if_neg (by omega)]
    by_cases h3 : part < 3
    · rw [if_pos (by omega), if_pos (.inl h3), show (s.size : Int) = (i : Int) by omega]
    · rw [if_neg (by omega)]
      by_cases h1 : size = 0
      · rw [if_pos (by omega), if_pos (.inr h1), show (s.size : Int) = (i : Int) by omega]
      · rw [if_neg (by omega), if_neg (by omega), show (256 * n % 4294967296 + x % 4294967296) % 4294967296 = (256 * n + x) % 4294967296 by omega]
  | succ m ih =>
    intro i n x part size hm hst hp x0 x1 n0 n1
    have hi : i < s.data.toList.length := by omega
    have hb := bt_get s i hi
    have hlt := s.data.toList[i].toNat_lt
    rw [List.drop_eq_getElem_cons hi]
    have c46 := byte_eq s.data.toList[i] 46
    rw [show (((46 : UInt8).toNat : Nat) : Int) = 46 from rfl] at c46
    have hdig := ref_digit (s.data.toList[i].toNat : Int) 10 (by omega) (by omega) (by decide) (by decide)
    rw [digV10 _ hlt] at hdig
    generalize s.data.toList[i] = c at *
    rw [strictL]
    have false_to : ∀ d : Int, Ev (fun k => posternref20_Strict.j1 k s n (part : Int) (size : Int) x (i : Int) d false) (if c = 46 ∧ 0 < size ∧ part < 3 then strictL (s.data.toList.drop (i + 1)) (i + 1) ((256 * n + x) % 4294967296) (part + 1) 0 0 else (0, (i : Int), 203)) := by
      intro d
      by_cases hok : c = 46 ∧ 0 < size ∧ part < 3
      · rw [if_pos hok]
        refine Ev.step (fun k => ?_) (ih (i + 1) ((256 * n + x) % 4294967296) 0 (part + 1) 0 (by omega) (by omega) (by omega) (by omega) (by omega) (by omega) (by omega))
        simp only [posternref20_Strict.j1]
        rw [if_neg (by simp), if_pos (by omega), if_pos (by omega), hb, if_pos (c46.2 hok.1), if_pos (by omega), if_pos (by omega), wsucc i (by omega), wsucc part (by omega), show (256 * n % 4294967296 + x % 4294967296) % 4294967296 = (256 * n + x) % 4294967296 by omega]
        rfl
      · rw [if_neg hok]
        refine Ev.step (f := fun k => some (0, (i : Int), 203)) (fun k => ?_) (Ev.now _)
        simp only [posternref20_Strict.j1]
        rw [if_neg (by simp), if_pos (by omega), if_pos (by omega), hb]
        by_cases h1 : (c.toNat : Int) = 46
        · rw [if_pos h1]
          have hc := c46.1 h1
          by_cases h2 : (size : Int) > 0
          · rw [if_pos h2, if_neg (fun h3 => hok ⟨hc, by omega, by omega⟩)]
          · rw [if_neg h2]
        · rw [if_neg h1]
    by_cases hd : 48 ≤ (c.toNat : Int) ∧ (c.toNat : Int) ≤ 57
    · rw [if_pos hd] at hdig
      obtain ⟨d0, d1⟩ := hd
      refine Ev.step (f := fun k => (posternref20_digit.f k (c.toNat : Int) 10).bind fun t182 => (if t182 ≥ 0 then (if (size : Int) = 0 then (posternref20_Strict.j1 k s n (part : Int) (size : Int) x (i : Int) t182 (decide ((wrap64 ((wrap64 (10 * x)) + t182)) ≤ 255))) else (if x > 0 then (posternref20_Strict.j1 k s n (part : Int) (size : Int) x (i : Int) t182 (decide ((wrap64 ((wrap64 (10 * x)) + t182)) ≤ 255))) else (posternref20_Strict.j1 k s n (part : Int) (size : Int) x (i : Int) t182 false))) else (posternref20_Strict.j1 k s n (part : Int) (size : Int) x (i : Int) t182 false))) (fun k => ?_) (Ev.bind hdig ?_)
      · simp only [posternref20_Strict.l0]
        rw [if_pos (by omega), if_pos (by omega), hb]
      · simp only [if_pos (show (c.toNat : Int) - 48 ≥ 0 by omega), wdig x c.toNat x0 x1 d0 d1]
        by_cases hok : (size = 0 ∨ 0 < x) ∧ 10 * x + ((c.toNat : Int) - 48) ≤ 255
        · rw [if_pos ⟨d0, d1, hok⟩]
          have t : Ev (fun k => posternref20_Strict.j1 k s n (part : Int) (size : Int) x (i : Int) ((c.toNat : Int) - 48) true) (strictL (s.data.toList.drop (i + 1)) (i + 1) n part (size + 1) (10 * x + ((c.toNat : Int) - 48))) := by
            refine Ev.step (fun k => ?_) (ih (i + 1) n (10 * x + ((c.toNat : Int) - 48)) part (size + 1) (by omega) (by omega) hp (by omega) (by omega) n0 n1)
            simp only [posternref20_Strict.j1]
            rw [if_pos trivial, wsucc size (by omega), wdig x c.toNat x0 x1 d0 d1, wsucc i (by omega)]
          simp only [decide_eq_true hok.2]
          refine Ev.congr (fun k => ?_) t
          by_cases h0 : (size : Int) = 0
          · rw [if_pos h0]
          · rw [if_neg h0, if_pos (by omega)]
        · rw [if_neg (fun h => hok h.2.2)]
          refine Ev.congr (fun k => ?_) (false_to ((c.toNat : Int) - 48))
          by_cases h0 : (size : Int) = 0
          · rw [if_pos h0, decide_eq_false (by omega)]
          · rw [if_neg h0]
            by_cases h1 : x > 0
            · rw [if_pos h1, decide_eq_false (by omega)]
            · rw [if_neg h1]
    · rw [if_neg hd] at hdig
      rw [if_neg (fun h => hd ⟨h.1, h.2.1⟩)]
      refine Ev.step (f := fun k => (posternref20_digit.f k (c.toNat : Int) 10).bind fun t182 => (if t182 ≥ 0 then (if (size : Int) = 0 then (posternref20_Strict.j1 k s n (part : Int) (size : Int) x (i : Int) t182 (decide ((wrap64 ((wrap64 (10 * x)) + t182)) ≤ 255))) else (if x > 0 then (posternref20_Strict.j1 k s n (part : Int) (size : Int) x (i : Int) t182 (decide ((wrap64 ((wrap64 (10 * x)) + t182)) ≤ 255))) else (posternref20_Strict.j1 k s n (part : Int) (size : Int) x (i : Int) t182 false))) else (posternref20_Strict.j1 k s n (part : Int) (size : Int) x (i : Int) t182 false))) (fun k => ?_) (Ev.bind hdig ?_)
      · simp only [posternref20_Strict.l0]
        rw [if_pos (by omega), if_pos (by omega), hb]
      · simp only [if_neg (show ¬ (-1 : Int) ≥ 0 by omega)]
        exact false_to (-1)
theorem ref_strict (s : ByteArray) (hs : s.size ≤ 4294967280) : Ev (fun k => posternref20_Strict.f k s) (strictV s.data.toList) := by
  have e := refStrict_l0 s hs s.data.toList.length 0 0 0 0 0 (by omega) (by omega) (by omega) (by omega) (by omega) (by omega) (by omega)
  exact Ev.congr (fun k => rfl) e
end Go.Proofs.YtgnahagnmodpdaaDoor

/- FourParses, plainly: the address of a text as the program and the document have it. -/
namespace Go.Proofs.YtgnahagnmodpdaaDoor
open Go.RowKit Go.Proofs.YtgnahagnmodpdaaDoorW.PrintWords Go.Proofs.YtgnahagnmodpdaaDoor.X Go.IntWalk
set_option linter.unusedVariables false
set_option linter.unusedSimpArgs false

theorem wu64 (x : Int) (a : 0 ≤ x) (b : x < 18446744073709551616) : IntKind.u64.wrap x = x := by simp [IntKind.wrap, IntKind.signed, IntKind.bits]; omega
theorem one_le_256 (m : Nat) : (1 : Int) ≤ 256 ^ m := Int.pow_pos (by decide)
/-- What the document's second loop tells of the numbers that are left. -/
def resL (k : Nat) : List Int → Nat → Int → Int × Int × Int
  | [], _, sum => (sum % 4294967296, 0, 0)
  | [x], i, sum => if 256 ^ (5 - k) ≤ x then (0, i, 202) else ((sum + x) % 4294967296, 0, 0)
  | x :: y :: r, i, sum => if 256 ≤ x then (0, i, 202) else resL k (y :: r) (i + 1) (sum + x * 256 ^ (3 - i))
theorem ref_l2 (k : Nat) (hk1 : 1 ≤ k) (hk : k ≤ 4) (sum : Int) (i : Int) (n : Int) (L : List ByteArray) (r : Int × Int × Int) : ∀ (m j : Nat) (most : Int), j = k + m → j ≤ 4 → 0 ≤ most → most * 256 ^ m ≤ 4294967296 →
    Ev (fun f => posternref20_Parse.j3 f (k : Int) sum i n (most * 256 ^ m) L (k : Int) i) r → Ev (fun f => posternref20_Parse.l2 f (k : Int) sum i n most (j : Int) L (k : Int) i) r
  | 0, j, most, hj, h4, h0, hb, h => by
    refine Ev.step (f := fun f => posternref20_Parse.j3 f (k : Int) sum i n most L (k : Int) i) (fun f => ?_) (by simpa using h)
    simp only [posternref20_Parse.l2]
    rw [if_neg (by omega)]
  | m + 1, j, most, hj, h4, h0, hb, h => by
    rw [Int.pow_succ', ← Int.mul_assoc] at hb h
    have hp : (1 : Int) ≤ 256 ^ m := one_le_256 m
    have hm : most * 256 ≤ most * 256 * 256 ^ m := by
      have := Int.mul_le_mul_of_nonneg_left hp (show 0 ≤ most * 256 by omega)
      omega
    refine Ev.step (f := fun f => posternref20_Parse.l2 f (k : Int) sum i n (most * 256) ((j - 1 : Nat) : Int) L (k : Int) i) (fun f => ?_) (ref_l2 k hk1 hk sum i n L r m (j - 1) (most * 256) (by omega) (by omega) (by omega) hb h)
    simp only [posternref20_Parse.l2]
    rw [if_pos (by omega), wu64 (most * 256) (by omega) (by omega), wrap64_in _ (by omega)]
    congr 1
    omega
theorem ref_l3 (k : Nat) (hk1 : 1 ≤ k) (hk : k ≤ 4) (sum : Int) (hs0 : 0 ≤ sum) (hs1 : sum ≤ 1099511627776) (i : Nat) (hi : i ≤ 3) (L : List ByteArray) (r : Int × Int × Int) : ∀ (m j : Nat) (n : Int), j + m = 3 - i → 0 ≤ n → n * 256 ^ m ≤ 4294967296 →
    Ev (fun f => posternref20_Parse.l1 f (k : Int) (sum + n * 256 ^ m) L (k : Int) ((i + 1 : Nat) : Int)) r → Ev (fun f => posternref20_Parse.l3 f (k : Int) sum (i : Int) n (j : Int) L (k : Int) (i : Int)) r
  | 0, j, n, hj, h0, hb, h => by
    have hn : n ≤ 4294967296 := by simpa using hb
    refine Ev.step (f := fun f => posternref20_Parse.l1 f (k : Int) (sum + n) L (k : Int) ((i + 1 : Nat) : Int)) (fun f => ?_) (by simpa using h)
    simp only [posternref20_Parse.l3]
    rw [wrap64_in (3 - (i : Int)) (by omega), if_neg (by omega), wu64 (sum + n) (by omega) (by omega), wrap64_in _ (by omega)]
    rfl
  | m + 1, j, n, hj, h0, hb, h => by
    rw [Int.pow_succ', ← Int.mul_assoc] at hb h
    have hp : (1 : Int) ≤ 256 ^ m := one_le_256 m
    have hm : n * 256 ≤ n * 256 * 256 ^ m := by
      have := Int.mul_le_mul_of_nonneg_left hp (show 0 ≤ n * 256 by omega)
      omega
    refine Ev.step (f := fun f => posternref20_Parse.l3 f (k : Int) sum (i : Int) (n * 256) ((j + 1 : Nat) : Int) L (k : Int) (i : Int)) (fun f => ?_) (ref_l3 k hk1 hk sum hs0 hs1 i hi L r m (j + 1) (n * 256) (by omega) (by omega) hb h)
    simp only [posternref20_Parse.l3]
    rw [wrap64_in (3 - (i : Int)) (by omega), if_pos (by omega), wu64 (n * 256) (by omega) (by omega), wrap64_in _ (by omega)]
    congr 1
theorem ref_l1 (P : List (List UInt8)) (hP1 : 1 ≤ P.length) (hP : P.length ≤ 4) (hs : ∀ p ∈ P, p.length ≤ 4294967280) : ∀ (m i : Nat) (sum : Int), i + m = P.length → 0 ≤ sum → sum ≤ (i : Int) * 4294967296 →
    Ev (fun f => posternref20_Parse.l1 f (P.length : Int) sum (P.map BA) (P.length : Int) (i : Int)) (resL P.length ((P.drop i).map fun p => (numberV p).1) i sum) := by
  intro m
  induction m with
  | zero =>
    intro i sum hm h0 h1
    rw [List.drop_of_length_le (by omega)]
    refine Ev.step (f := fun f => some (sum % 4294967296, 0, 0)) (fun f => ?_) (Ev.now _)
    simp only [posternref20_Parse.l1]
    rw [if_neg (by omega)]
  | succ m ref_l1 =>
    intro i sum hm h0 h1
    have hi : i < P.length := by omega
    have hn := ref_number (BA P[i]) (by rw [ba_size]; have := hs _ (List.getElem_mem hi); omega)
    rw [ba_list] at hn
    obtain ⟨b0, b1⟩ := numberV_le P[i]
    rw [List.drop_eq_getElem_cons hi, List.map_cons]
    have w1 : wrap64 ((P.length : Int) - 1) = ((P.length - 1 : Nat) : Int) := by rw [wrap64_in _ (by omega)]; omega
    have w2 : wrap64 ((i : Int) + 1) = ((i + 1 : Nat) : Int) := by rw [wrap64_in _ (by omega)]; omega
    have key : ∀ f, posternref20_Parse.l1 (f + 1) (P.length : Int) sum (P.map BA) (P.length : Int) (i : Int) = (posternref20_Number.f f (BA P[i])).bind fun t => if (i : Int) = ((P.length - 1 : Nat) : Int) then posternref20_Parse.l2 f (P.length : Int) sum (i : Int) t.1 256 4 (P.map BA) (P.length : Int) (i : Int) else posternref20_Parse.j3 f (P.length : Int) sum (i : Int) t.1 256 (P.map BA) (P.length : Int) (i : Int) := by
      intro f
      simp only [posternref20_Parse.l1]
      rw [w1, if_pos (by omega), if_pos (by omega), if_pos (by simp; omega), rd_map P i hi]
    refine Ev.step key (Ev.bind hn ?_)
    generalize (numberV P[i]).1 = x at *
    by_cases hl : i = P.length - 1
    · have hd : P.drop (i + 1) = [] := List.drop_of_length_le (by omega)
      rw [hd, List.map_nil]
      simp only [if_pos (show (i : Int) = ((P.length - 1 : Nat) : Int) by omega)]
      refine ref_l2 P.length hP1 hP sum i x (P.map BA) _ (4 - P.length) 4 256 (by omega) (Nat.le_refl _) (by decide) ?_ ?_
      · have : P.length = 1 ∨ P.length = 2 ∨ P.length = 3 ∨ P.length = 4 := by omega
        rcases this with h | h | h | h <;> rw [h] <;> decide
      · have e : (256 : Int) * 256 ^ (4 - P.length) = 256 ^ (5 - P.length) := by
          rw [← Int.pow_succ', show 4 - P.length + 1 = 5 - P.length by omega]
        rw [e]
        unfold resL
        by_cases hb : 256 ^ (5 - P.length) ≤ x
        · rw [if_pos hb]
          refine Ev.step (f := fun f => some (0, (i : Int), 202)) (fun f => ?_) (Ev.now _)
          simp only [posternref20_Parse.j3]
          rw [if_pos hb]
        · rw [if_neg hb]
          refine Ev.step (f := fun f => posternref20_Parse.l1 f (P.length : Int) (sum + x) (P.map BA) (P.length : Int) ((i + 1 : Nat) : Int)) (fun f => ?_) ?_
          · simp only [posternref20_Parse.j3]
            rw [if_neg hb, w1, w2, if_neg (by omega), wu64 (sum + x) (by omega) (by omega)]
          · refine Ev.step (f := fun f => some ((sum + x) % 4294967296, 0, 0)) (fun f => ?_) (Ev.now _)
            simp only [posternref20_Parse.l1]
            rw [if_neg (by omega)]
    · simp only [if_neg (show ¬ (i : Int) = ((P.length - 1 : Nat) : Int) by omega)]
      have hi2 : i + 1 < P.length := by omega
      have e : ((P.drop (i + 1)).map fun p => (numberV p).1) = (numberV P[i + 1]).1 :: ((P.drop (i + 2)).map fun p => (numberV p).1) := by
        rw [List.drop_eq_getElem_cons hi2, List.map_cons]
      have ih := ref_l1 (i + 1) (sum + x * 256 ^ (3 - i)) (by omega)
      rw [e] at ih ⊢
      rw [resL]
      by_cases hb : 256 ≤ x
      · rw [if_pos hb]
        refine Ev.step (f := fun f => some (0, (i : Int), 202)) (fun f => ?_) (Ev.now _)
        simp only [posternref20_Parse.j3]
        rw [if_pos hb]
      · rw [if_neg hb]
        have hx : x * 256 ^ (3 - i) ≤ 4294967296 ∧ 0 ≤ x * 256 ^ (3 - i) := by
          have : i = 0 ∨ i = 1 ∨ i = 2 := by omega
          rcases this with h | h | h <;> subst h <;> simp <;> omega
        refine Ev.step (f := fun f => posternref20_Parse.l3 f (P.length : Int) sum (i : Int) x ((0 : Nat) : Int) (P.map BA) (P.length : Int) (i : Int)) (fun f => ?_) (ref_l3 P.length hP1 hP sum h0 (by omega) i (by omega) (P.map BA) _ (3 - i) 0 x (by omega) b0 hx.1 (ih (by omega) (by omega)))
        simp only [posternref20_Parse.j3]
        rw [if_neg hb, w1, if_pos (by omega)]
        rfl
theorem ref_l0 (P : List (List UInt8)) (hP1 : 1 ≤ P.length) (hP : P.length ≤ 4) (hs : ∀ p ∈ P, p.length ≤ 4294967280) : ∀ (m i : Nat), i + m = P.length →
    Ev (fun f => posternref20_Parse.l0 f (P.map BA) (P.length : Int) (P.map BA) (P.length : Int) (i : Int)) (match firstErr (P.drop i) i with | some j => (0, j, 200) | none => resL P.length (P.map fun p => (numberV p).1) 0 0)
  | 0, i, hm => by
    rw [List.drop_of_length_le (by omega)]
    refine Ev.step (f := fun f => posternref20_Parse.l1 f (P.length : Int) 0 (P.map BA) (P.length : Int) ((0 : Nat) : Int)) (fun f => ?_) ?_
    · simp only [posternref20_Parse.l0]
      rw [if_neg (by omega), List.length_map]
      rfl
    · have := ref_l1 P hP1 hP hs _ 0 0 (Nat.zero_add _) (Int.le_refl 0) (by omega)
      rw [List.drop_zero] at this
      exact this
  | m + 1, i, hm => by
    have hi : i < P.length := by omega
    have hn := ref_number (BA P[i]) (by rw [ba_size]; have := hs _ (List.getElem_mem hi); omega)
    rw [ba_list] at hn
    have w2 : wrap64 ((i : Int) + 1) = ((i + 1 : Nat) : Int) := by rw [wrap64_in _ (by omega)]; omega
    rw [List.drop_eq_getElem_cons hi, firstErr]
    have key : ∀ f, posternref20_Parse.l0 (f + 1) (P.map BA) (P.length : Int) (P.map BA) (P.length : Int) (i : Int) = (posternref20_Number.f f (BA P[i])).bind fun t => if t.2.2 = 0 then posternref20_Parse.l0 f (P.map BA) (P.length : Int) (P.map BA) (P.length : Int) ((i + 1 : Nat) : Int) else some (0, (i : Int), 200) := by
      intro f
      simp only [posternref20_Parse.l0]
      rw [w2, if_pos (by omega), if_pos (by omega), if_pos (by simp; omega), rd_map P i hi]
    refine Ev.step key (Ev.bind hn ?_)
    by_cases he : (numberV P[i]).2.2 = 0
    · simp only [if_pos he]
      exact ref_l0 P hP1 hP hs m (i + 1) (by omega)
    · simp only [if_neg he]
      exact Ev.now _
/-- What the program's parts say of the numbers. -/
def outL (k : Nat) (L : List Int) : Int × Int × Int := match firstBig L 0 with | some i => (0, i, 202) | none => if 256 ^ (5 - k) ≤ L.getLastD 0 then (0, (k : Int) - 1, 202) else (sumFrom L 0, 0, 0)
theorem sum1 (x0 : Int) (a0 : 0 ≤ x0) (b0 : x0 ≤ 4294967296) : resL 1 [x0] 0 0 = outL 1 [x0] := by
  have e1 : resL 1 [x0] 0 0 = if 4294967296 ≤ x0 then (0, 0, 202) else ((0 + x0) % 4294967296, 0, 0) := rfl
  have e2 : outL 1 [x0] = if 4294967296 ≤ x0 then (0, 0, 202) else (x0, 0, 0) := by
    simp only [outL, firstBig]
    (repeat' split) <;> first | rfl | simp_all [sumFrom] | omega
  refine e1.trans (Eq.trans ?_ e2.symm)
  (repeat' split) <;> first | rfl | omega | (congr 1; omega)
theorem sum2 (x0 x1 : Int) (a0 : 0 ≤ x0) (b0 : x0 ≤ 4294967296) (a1 : 0 ≤ x1) (b1 : x1 ≤ 4294967296) : resL 2 [x0, x1] 0 0 = outL 2 [x0, x1] := by
  have e1 : resL 2 [x0, x1] 0 0 = if 256 ≤ x0 then (0, 0, 202) else if 16777216 ≤ x1 then (0, 1, 202) else ((0 + x0 * 16777216 + x1) % 4294967296, 0, 0) := rfl
  have e2 : outL 2 [x0, x1] = if 255 < x0 then (0, 0, 202) else if 16777216 ≤ x1 then (0, 1, 202) else (x1 + x0 * 16777216, 0, 0) := by
    simp only [outL, firstBig]
    (repeat' split) <;> first | rfl | simp_all [sumFrom] | omega
  refine e1.trans (Eq.trans ?_ e2.symm)
  (repeat' split) <;> first | rfl | omega | (congr 1; omega)
theorem sum3 (x0 x1 x2 : Int) (a0 : 0 ≤ x0) (b0 : x0 ≤ 4294967296) (a1 : 0 ≤ x1) (b1 : x1 ≤ 4294967296) (a2 : 0 ≤ x2) (b2 : x2 ≤ 4294967296) : resL 3 [x0, x1, x2] 0 0 = outL 3 [x0, x1, x2] := by
  have e1 : resL 3 [x0, x1, x2] 0 0 = if 256 ≤ x0 then (0, 0, 202) else if 256 ≤ x1 then (0, 1, 202) else if 65536 ≤ x2 then (0, 2, 202) else ((0 + x0 * 16777216 + x1 * 65536 + x2) % 4294967296, 0, 0) := rfl
  have e2 : outL 3 [x0, x1, x2] = if 255 < x0 then (0, 0, 202) else if 255 < x1 then (0, 1, 202) else if 65536 ≤ x2 then (0, 2, 202) else (x2 + x1 * 65536 + x0 * 16777216, 0, 0) := by
    simp only [outL, firstBig]
    (repeat' split) <;> first | rfl | simp_all [sumFrom] | omega
  refine e1.trans (Eq.trans ?_ e2.symm)
  (repeat' split) <;> first | rfl | omega | (congr 1; omega)
theorem sum4 (x0 x1 x2 x3 : Int) (a0 : 0 ≤ x0) (b0 : x0 ≤ 4294967296) (a1 : 0 ≤ x1) (b1 : x1 ≤ 4294967296) (a2 : 0 ≤ x2) (b2 : x2 ≤ 4294967296) (a3 : 0 ≤ x3) (b3 : x3 ≤ 4294967296) : resL 4 [x0, x1, x2, x3] 0 0 = outL 4 [x0, x1, x2, x3] := by
  have e1 : resL 4 [x0, x1, x2, x3] 0 0 = if 256 ≤ x0 then (0, 0, 202) else if 256 ≤ x1 then (0, 1, 202) else if 256 ≤ x2 then (0, 2, 202) else if 256 ≤ x3 then (0, 3, 202) else ((0 + x0 * 16777216 + x1 * 65536 + x2 * 256 + x3) % 4294967296, 0, 0) := rfl
  have e2 : outL 4 [x0, x1, x2, x3] = if 255 < x0 then (0, 0, 202) else if 255 < x1 then (0, 1, 202) else if 255 < x2 then (0, 2, 202) else if 256 ≤ x3 then (0, 3, 202) else (x3 + x2 * 256 + x1 * 65536 + x0 * 16777216, 0, 0) := by
    simp only [outL, firstBig]
    (repeat' split) <;> first | rfl | simp_all [sumFrom] | omega
  refine e1.trans (Eq.trans ?_ e2.symm)
  (repeat' split) <;> first | rfl | omega | (congr 1; omega)
/-- The two ways to the sum. -/
theorem resL_parse (P : List (List UInt8)) (hP1 : 1 ≤ P.length) (hP : P.length ≤ 4) : (match firstErr P 0 with | some j => (0, j, 200) | none => resL P.length (P.map fun p => (numberV p).1) 0 0) = parseP P := by
  unfold parseP
  rw [if_neg (by omega)]
  cases firstErr P 0 with
  | some j => rfl
  | none =>
    match P, hP1, hP with
    | [p0], _, _ =>
      have h0 := numberV_le p0
      exact sum1 _ h0.1 h0.2
    | [p0, p1], _, _ =>
      have h0 := numberV_le p0
      have h1 := numberV_le p1
      exact sum2 _ _ h0.1 h0.2 h1.1 h1.2
    | [p0, p1, p2], _, _ =>
      have h0 := numberV_le p0
      have h1 := numberV_le p1
      have h2 := numberV_le p2
      exact sum3 _ _ _ h0.1 h0.2 h1.1 h1.2 h2.1 h2.2
    | [p0, p1, p2, p3], _, _ =>
      have h0 := numberV_le p0
      have h1 := numberV_le p1
      have h2 := numberV_le p2
      have h3 := numberV_le p3
      exact sum4 _ _ _ _ h0.1 h0.2 h1.1 h1.2 h2.1 h2.2 h3.1 h3.2
theorem ref_parse (s : ByteArray) (hs : s.size ≤ 4294967280) : Ev (fun f => posternref20_Parse.f f s) (parseV s.data.toList) := by
  have hz := size_len s
  have hpos : 0 < (partsV s.data.toList).length := List.length_pos_iff.2 (partsV_ne _)
  unfold parseV
  refine Ev.bind (ref_parts s (by omega)) ?_
  have hpart := partsV_part s.data.toList
  generalize partsV s.data.toList = P at *
  simp only [List.length_map]
  by_cases h4 : 4 < P.length
  · rw [show parseP P = (0, 4, 201) from if_pos h4]
    simp only [if_pos (show (P.length : Int) > 4 by omega)]
    exact Ev.now _
  · simp only [if_neg (show ¬ (P.length : Int) > 4 by omega)]
    rw [← resL_parse P hpos (by omega)]
    have := ref_l0 P hpos (by omega) (fun p hp => by have := hpart p hp; omega) _ 0 (Nat.zero_add _)
    rw [List.drop_zero] at this
    exact this
end Go.Proofs.YtgnahagnmodpdaaDoor

/- FourParses, plainly. -/
namespace Go.Proofs.YtgnahagnmodpdaaDoor
open Go.RowKit Go.Proofs.YtgnahagnmodpdaaDoorW.PrintWords Go.Proofs.YtgnahagnmodpdaaDoor.X Go.IntWalk
set_option linter.unusedVariables false
set_option linter.unusedSimpArgs false

theorem parse_ev (s : ByteArray) (hs : s.size ≤ 4294967280) : Ev (fun k => four_Parse.f s) (parseV s.data.toList) := by
  refine Ev.congr (f := fun k => some (parseV s.data.toList)) (fun k => ?_) (Ev.now _)
  unfold four_Parse.f
  rw [if_pos hs]
theorem parses_true (s : ByteArray) (hs : s.size ≤ 4294967280) : Ev (fun k => posternlaw20_FourParses.f k s) true := by
  refine Ev.bind awake_ev ?_
  simp only [if_true]
  refine Ev.bind (parse_ev s hs) (Ev.bind (ref_parse s hs) ?_)
  simp only [if_true, bne_self_eq_false]
  refine Ev.step (f := fun k => (four_Strict.f k s).bind fun bt190 => ((posternref20_Strict.f k s).bind fun bt193 => (if bt190.1 = bt193.1 then (if bt190.2.1 = bt193.2.1 then (some (bt190.2.2 == bt193.2.2)) else (some false)) else (some false)))) (fun k => ?_) (Ev.bind (strict_ev s hs) (Ev.bind (ref_strict s hs) ?_))
  · simp only [posternlaw20_FourParses.j0]
    rw [if_neg (by simp)]
  · simp only [if_true, beq_self_eq_true]
    exact Ev.now _
theorem parses_walk (s : ByteArray) (hs : s.size ≤ 4294967280) (w : World) (hG : GW w) :
    Calls Tryd.prog 5 #[.string s] w fun e w' => e = .returned (.bool true) ∧ Below w.heap.size w w' := by
  obtain ⟨k, h⟩ := (parses_true s hs).rounds
  exact posternlaw20_FourParses.calls k s true w hG h
end Go.Proofs.YtgnahagnmodpdaaDoor

/- Plain laws of addresses in text: what is read ends in a number; what Strict takes Parse takes; a stop behind. No program in sight. -/
namespace Go.Proofs.YtgnahagnmodpdaaDoor
open Go.RowKit Go.Proofs.YtgnahagnmodpdaaDoorW.PrintWords
set_option linter.unusedVariables false
set_option linter.unusedSimpArgs false

theorem firstErr_none : ∀ {P : List (List UInt8)} {i : Int}, firstErr P i = none → ∀ p ∈ P, (numberV p).2.2 = 0
  | [], i, h => fun p hp => absurd hp (by simp)
  | q :: P, i, h => by
    intro p hp
    rw [firstErr] at h
    by_cases hq : (numberV q).2.2 = 0
    · rw [if_pos hq] at h
      rcases List.mem_cons.1 hp with rfl | hp
      · exact hq
      · exact firstErr_none h p hp
    · rw [if_neg hq] at h
      exact absurd h (by simp)
theorem firstErr_ok : ∀ {P : List (List UInt8)} {i : Int}, (∀ p ∈ P, (numberV p).2.2 = 0) → firstErr P i = none
  | [], i, h => rfl
  | q :: P, i, h => by
    rw [firstErr, if_pos (h q (by simp))]
    exact firstErr_ok fun p hp => h p (by simp [hp])
theorem parseP_ok {P : List (List UInt8)} (h : (parseP P).2.2 = 0) : P.length ≤ 4 ∧ ∀ p ∈ P, (numberV p).2.2 = 0 := by
  unfold parseP at h
  by_cases h4 : 4 < P.length
  · rw [if_pos h4] at h
    exact absurd h (by decide)
  · rw [if_neg h4] at h
    refine ⟨by omega, ?_⟩
    cases he : firstErr P 0 with
    | some i =>
      rw [he] at h
      exact absurd (show (200 : Int) = 0 from h) (by decide)
    | none => exact firstErr_none he
theorem parseP_err {P : List (List UInt8)} (h : (parseP P).2.2 ≠ 0) : (parseP P).1 = 0 := by
  unfold parseP at h ⊢
  by_cases h4 : 4 < P.length
  · rw [if_pos h4]
  · rw [if_neg h4] at h ⊢
    cases he : firstErr P 0 with
    | some i => rfl
    | none =>
      rw [he] at h
      simp only at h ⊢
      cases hb : firstBig (P.map fun p => (numberV p).1) 0 with
      | some i => rfl
      | none =>
        rw [hb] at h
        simp only at h ⊢
        by_cases hm : 256 ^ (5 - P.length) ≤ ((P.map fun p => (numberV p).1).getLastD 0)
        · rw [if_pos hm]
        · rw [if_neg hm] at h
          exact absurd rfl h
theorem ends_of_number {l : List UInt8} (h : (numberV (lastV l)).2.2 = 0) : endsV l = true := by
  have hne : lastV l ≠ [] := by
    intro e
    rw [e] at h
    exact absurd h (by decide)
  unfold endsV
  rw [if_neg hne, h]
  split <;> rfl
theorem parse_ends {l : List UInt8} (h : (parseV l).2.2 = 0) : endsV l = true := by
  refine ends_of_number ((parseP_ok h).2 _ ?_)
  unfold lastV
  rw [List.getLastD_eq_getLast?]
  cases hg : (partsV l).getLast? with
  | none => exact absurd (List.getLast?_eq_none_iff.1 hg) (partsV_ne l)
  | some x => exact List.mem_of_getLast? hg
/-- What is left of a part that Strict takes. -/
def good : Nat → Int → List UInt8 → Prop
  | size, x, [] => 0 < size
  | size, x, c :: p => (48 ≤ (c.toNat : Int) ∧ (c.toNat : Int) ≤ 57) ∧ (size = 0 ∨ 0 < x) ∧ 10 * x + ((c.toNat : Int) - 48) ≤ 255 ∧ good (size + 1) (10 * x + ((c.toNat : Int) - 48)) p
theorem strict_good : ∀ (l : List UInt8) (i : Nat) (n : Int) (part size : Nat) (x : Int), part ≤ 3 → (strictL l i n part size x).2.2 = 0 → ∃ p rest, splitC 46 l = p :: rest ∧ good size x p ∧ rest.length + part = 3 ∧ ∀ q ∈ rest, good 0 0 q
  | [], i, n, part, size, x, hp, h => by
    rw [strictL] at h
    by_cases hc : part < 3 ∨ size = 0
    · rw [if_pos hc] at h
      exact absurd (show (203 : Int) = 0 from h) (by decide)
    · exact ⟨[], [], rfl, (by show 0 < size; omega), by simp; omega, fun q hq => absurd hq (by simp)⟩
  | c :: l, i, n, part, size, x, hp, h => by
    rw [strictL] at h
    by_cases hd : 48 ≤ (c.toNat : Int) ∧ (c.toNat : Int) ≤ 57 ∧ (size = 0 ∨ 0 < x) ∧ 10 * x + ((c.toNat : Int) - 48) ≤ 255
    · rw [if_pos hd] at h
      obtain ⟨p, rest, e, g, hl, hr⟩ := strict_good l _ _ _ _ _ hp h
      have hc : c ≠ 46 := by
        intro e
        subst e
        exact absurd hd.1 (by decide)
      refine ⟨c :: p, rest, ?_, ⟨⟨hd.1, hd.2.1⟩, hd.2.2.1, hd.2.2.2, g⟩, hl, hr⟩
      rw [splitC_cons hc, e]
      rfl
    · rw [if_neg hd] at h
      by_cases hs : c = 46 ∧ 0 < size ∧ part < 3
      · rw [if_pos hs] at h
        obtain ⟨p, rest, e, g, hl, hr⟩ := strict_good l _ _ _ _ _ (show part + 1 ≤ 3 by omega) h
        rw [hs.1, splitC_eq, e]
        refine ⟨[], p :: rest, rfl, hs.2.1, by simp; omega, fun q hq => ?_⟩
        rcases List.mem_cons.1 hq with rfl | hq
        · exact g
        · exact hr q hq
      · rw [if_neg hs] at h
        exact absurd (show (203 : Int) = 0 from h) (by decide)
theorem good_cap : ∀ (p : List UInt8) (size : Nat) (x : Int), 0 ≤ x → x ≤ 255 → good size x p → ∃ v, capL 10 p x = some v ∧ 0 ≤ v ∧ v ≤ 255
  | [], size, x, h0, h1, g => ⟨x, rfl, h0, h1⟩
  | c :: p, size, x, h0, h1, g => by
    obtain ⟨⟨d0, d1⟩, _, hb, g⟩ := g
    obtain ⟨v, hv, b⟩ := good_cap p _ _ (by omega) hb g
    refine ⟨v, ?_, b⟩
    have hd : digV (c.toNat : Int) 10 = (c.toNat : Int) - 48 := by rw [digV10 _ c.toNat_lt, if_pos ⟨d0, d1⟩]
    rw [capL, hd, if_neg (by omega), if_neg (by omega), show x * 10 + ((c.toNat : Int) - 48) = 10 * x + ((c.toNat : Int) - 48) by omega]
    exact hv
theorem good_number {p : List UInt8} (g : good 0 0 p) : (numberV p).2.2 = 0 ∧ 0 ≤ (numberV p).1 ∧ (numberV p).1 ≤ 255 := by
  obtain ⟨v, hv, b0, b1⟩ := good_cap p 0 0 (by decide) (by decide) g
  cases p with
  | nil => exact absurd g (Nat.lt_irrefl 0)
  | cons c p =>
    have eb : baseOf (c :: p) = (10, c :: p) := by
      by_cases h48 : c = 48
      · subst h48
        have g2 := g.2.2.2
        cases p with
        | nil => rfl
        | cons d p =>
          have := g2.2.1
          exact absurd this (by decide)
      · unfold baseOf
        split <;> simp_all
    have e : numberV (c :: p) = (v, 10, 0) := by
      unfold numberV
      rw [if_neg (by simp), eb, hv]
    rw [e]
    exact ⟨rfl, b0, b1⟩
theorem strict_parse {l : List UInt8} (h : (strictV l).2.2 = 0) : (parseV l).2.2 = 0 := by
  obtain ⟨p, rest, e, g, hl, hr⟩ := strict_good l 0 0 0 0 0 (by decide) h
  obtain ⟨q, r, t, rfl⟩ : ∃ q r t, rest = [q, r, t] := by
    match rest, hl with
    | [q, r, t], _ => exact ⟨q, r, t, rfl⟩
  have gq := hr q (by simp)
  have gr := hr r (by simp)
  have gt := hr t (by simp)
  have ht : t ≠ [] := by
    rintro rfl
    exact absurd gt (Nat.lt_irrefl 0)
  have hP : partsV l = [p, q, r, t] := by
    unfold partsV partsL
    rw [e, if_neg]
    intro h
    exact ht (by simpa using h.2)
  have n0 := good_number g
  have n1 := good_number gq
  have n2 := good_number gr
  have n3 := good_number gt
  unfold parseV
  rw [hP]
  unfold parseP
  rw [if_neg (by simp), firstErr_ok (by simp [n0.1, n1.1, n2.1, n3.1])]
  have hb : firstBig ([p, q, r, t].map fun p => (numberV p).1) 0 = none := by
    simp only [List.map_cons, List.map_nil, firstBig]
    rw [if_neg (by omega), if_neg (by omega), if_neg (by omega)]
  rw [hb]
  show (if (256 : Int) ^ (5 - 4) ≤ (numberV t).1 then _ else _ : Int × Int × Int).2.2 = 0
  rw [if_neg (by omega)]
theorem splitC_stop (l : List UInt8) : splitC 46 (l ++ [46]) = splitC 46 l ++ [[]] := by
  induction l with
  | nil => rfl
  | cons b l ih =>
    by_cases hb : b = 46
    · subst hb
      rw [List.cons_append, splitC_eq, splitC_eq, ih]
      rfl
    · rw [List.cons_append, splitC_cons hb, splitC_cons hb, ih]
      have := splitC_ne 46 l
      cases h : splitC 46 l with
      | nil => exact absurd h this
      | cons p ps => rfl
theorem splitC_last (l : List UInt8) (h : l ≠ []) (h2 : l.getLast? ≠ some 46) : (splitC 46 l).getLast? ≠ some [] := by
  induction l with
  | nil => exact absurd rfl h
  | cons b l ih =>
    by_cases hl : l = []
    · subst hl
      have hb : b ≠ 46 := fun e => h2 (by rw [e]; rfl)
      rw [splitC_cons hb]
      simp [splitC, ahead1]
    · have i2 := ih hl (by
        intro e
        apply h2
        rw [List.getLast?_cons, e]
        rfl)
      by_cases hb : b = 46
      · subst hb
        rw [splitC_eq, List.getLast?_cons]
        cases hg : (splitC 46 l).getLast? with
        | none => exact absurd (List.getLast?_eq_none_iff.1 hg) (splitC_ne 46 l)
        | some x =>
          rw [hg] at i2
          exact i2
      · rw [splitC_cons hb]
        cases hs : splitC 46 l with
        | nil => exact absurd hs (splitC_ne 46 l)
        | cons p ps =>
          cases ps with
          | nil => simp [ahead1]
          | cons q qs =>
            rw [hs] at i2
            simp only [ahead1]
            rw [List.getLast?_cons_cons] at i2 ⊢
            exact i2
theorem partsV_stop (l : List UInt8) (h : l ≠ []) (h2 : l.getLast? ≠ some 46) : partsV (l ++ [46]) = partsV l := by
  have hne := splitC_ne 46 l
  have hpos : 0 < (splitC 46 l).length := List.length_pos_iff.2 hne
  unfold partsV partsL
  rw [splitC_stop, if_pos ⟨by simp; omega, by simp⟩, if_neg (fun h3 => splitC_last l h h2 h3.2)]
  simp
theorem endsV_stop (l : List UInt8) (h : l ≠ []) (h2 : l.getLast? ≠ some 46) : endsV (l ++ [46]) = endsV l := by
  unfold endsV lastV
  rw [partsV_stop l h h2]
theorem parseV_stop (l : List UInt8) (h : l ≠ []) (h2 : l.getLast? ≠ some 46) : parseV (l ++ [46]) = parseV l := by
  unfold parseV
  rw [partsV_stop l h h2]
end Go.Proofs.YtgnahagnmodpdaaDoor

/- Plain laws: an address that is printed is read back. No program in sight. -/
namespace Go.Proofs.YtgnahagnmodpdaaDoor
open Go.RowKit Go.Proofs.YtgnahagnmodpdaaDoorW.PrintWords
set_option linter.unusedVariables false
set_option linter.unusedSimpArgs false

theorem dec_tab : ∀ v : Fin 256, numberV (dec3 v.val) = ((v.val : Int), 10, 0) ∧ (∀ c ∈ dec3 v.val, c ≠ 46) ∧ (dec3 v.val).all isDec = true := by decide +kernel
theorem printV_dec (n : Int) (h0 : 0 ≤ n) (h1 : n ≤ 4294967295) : printV n = dec3 (n / 16777216).toNat ++ 46 :: (dec3 (n / 65536 % 256).toNat ++ 46 :: (dec3 (n / 256 % 256).toNat ++ 46 :: dec3 (n % 256).toNat)) := by
  unfold printV oct4
  simp only [List.map_cons, List.map_nil, join4]
  rw [itoa_small (by omega) (by omega), itoa_small (by omega) (by omega), itoa_small (by omega) (by omega), itoa_small (by omega) (by omega)]
theorem splitC_no {p : List UInt8} (h : ∀ c ∈ p, c ≠ 46) : splitC 46 p = [p] := by
  induction p with
  | nil => rfl
  | cons b p ih =>
    rw [splitC_cons (h b (by simp)), ih (fun c hc => h c (by simp [hc]))]
    rfl
theorem splitC_at {p : List UInt8} (h : ∀ c ∈ p, c ≠ 46) (t : List UInt8) : splitC 46 (p ++ 46 :: t) = p :: splitC 46 t := by
  induction p with
  | nil => exact splitC_eq 46 t
  | cons b p ih =>
    rw [List.cons_append, splitC_cons (h b (by simp)), ih (fun c hc => h c (by simp [hc]))]
    rfl
theorem split_print (n : Int) (h0 : 0 ≤ n) (h1 : n ≤ 4294967295) : splitC 46 (printV n) = [dec3 (n / 16777216).toNat, dec3 (n / 65536 % 256).toNat, dec3 (n / 256 % 256).toNat, dec3 (n % 256).toNat] := by
  rw [printV_dec n h0 h1, splitC_at (dec_tab ⟨(n / 16777216).toNat, by omega⟩).2.1, splitC_at (dec_tab ⟨(n / 65536 % 256).toNat, by omega⟩).2.1, splitC_at (dec_tab ⟨(n / 256 % 256).toNat, by omega⟩).2.1, splitC_no (dec_tab ⟨(n % 256).toNat, by omega⟩).2.1]
theorem dec3_ne (v : Nat) : dec3 v ≠ [] := fun e => by
  have := (dec3_len v).1
  rw [e] at this
  exact absurd this (by decide)
theorem parts_print (n : Int) (h0 : 0 ≤ n) (h1 : n ≤ 4294967295) : partsV (printV n) = [dec3 (n / 16777216).toNat, dec3 (n / 65536 % 256).toNat, dec3 (n / 256 % 256).toNat, dec3 (n % 256).toNat] := by
  unfold partsV partsL
  rw [split_print n h0 h1, if_neg]
  intro h
  exact dec3_ne _ (by simpa using h.2)
theorem parts_print_stop (n : Int) (h0 : 0 ≤ n) (h1 : n ≤ 4294967295) : partsV (printV n ++ [46]) = [dec3 (n / 16777216).toNat, dec3 (n / 65536 % 256).toNat, dec3 (n / 256 % 256).toNat, dec3 (n % 256).toNat] := by
  unfold partsV partsL
  rw [splitC_stop, split_print n h0 h1, if_pos ⟨by simp, by simp⟩]
  simp
theorem parse_four (n : Int) (h0 : 0 ≤ n) (h1 : n ≤ 4294967295) : parseP [dec3 (n / 16777216).toNat, dec3 (n / 65536 % 256).toNat, dec3 (n / 256 % 256).toNat, dec3 (n % 256).toNat] = (n, 0, 0) := by
  have t0 := (dec_tab ⟨(n / 16777216).toNat, by omega⟩).1
  have t1 := (dec_tab ⟨(n / 65536 % 256).toNat, by omega⟩).1
  have t2 := (dec_tab ⟨(n / 256 % 256).toNat, by omega⟩).1
  have t3 := (dec_tab ⟨(n % 256).toNat, by omega⟩).1
  simp only at t0 t1 t2 t3
  unfold parseP
  rw [if_neg (by simp), firstErr_ok (by simp [t0, t1, t2, t3])]
  simp only [List.map_cons, List.map_nil, t0, t1, t2, t3, firstBig]
  rw [if_neg (by omega), if_neg (by omega), if_neg (by omega)]
  show (if (256 : Int) ^ (5 - 4) ≤ ((n % 256).toNat : Int) then _ else _ : Int × Int × Int) = _
  rw [if_neg (by omega)]
  refine congrArg (fun x => (x, (0 : Int), (0 : Int))) ?_
  simp only [sumFrom]
  omega
theorem print_parse (n : Int) (h0 : 0 ≤ n) (h1 : n ≤ 4294967295) : parseV (printV n) = (n, 0, 0) := by
  unfold parseV
  rw [parts_print n h0 h1, parse_four n h0 h1]
theorem print_parse_stop (n : Int) (h0 : 0 ≤ n) (h1 : n ≤ 4294967295) : parseV (printV n ++ [46]) = (n, 0, 0) := by
  unfold parseV
  rw [parts_print_stop n h0 h1, parse_four n h0 h1]
theorem print_ends (n : Int) (h0 : 0 ≤ n) (h1 : n ≤ 4294967295) : endsV (printV n) = true := parse_ends (by rw [print_parse n h0 h1])
theorem print_ends_stop (n : Int) (h0 : 0 ≤ n) (h1 : n ≤ 4294967295) : endsV (printV n ++ [46]) = true := parse_ends (by rw [print_parse_stop n h0 h1])
theorem strict_dig (x : Nat) (hx : x < 10) (l : List UInt8) (i : Nat) (n : Int) (part size : Nat) (X : Int) (h : size = 0 ∨ 0 < X) (hb : 10 * X + (x : Int) ≤ 255) : strictL (dgt x :: l) i n part size X = strictL l (i + 1) n part (size + 1) (10 * X + (x : Int)) := by
  have hd : ((dgt x).toNat : Int) = 48 + (x : Int) := by rw [dgt_toNat hx]; omega
  rw [strictL, hd, if_pos ⟨by omega, by omega, h, by omega⟩, show 10 * X + (48 + (x : Int) - 48) = 10 * X + (x : Int) by omega]
theorem strict_dec (v : Nat) (hv : v < 256) (l : List UInt8) (i : Nat) (n : Int) (part : Nat) : ∃ s, 0 < s ∧ strictL (dec3 v ++ l) i n part 0 0 = strictL l (i + s) n part s (v : Int) := by
  unfold dec3
  by_cases h100 : 100 ≤ v
  · refine ⟨3, by decide, ?_⟩
    rw [if_pos h100, if_pos (by omega)]
    show strictL (dgt (v / 100) :: dgt (v / 10 % 10) :: dgt (v % 10) :: l) i n part 0 0 = _
    rw [strict_dig _ (by omega) _ _ _ _ _ _ (.inl rfl) (by omega), strict_dig _ (by omega) _ _ _ _ _ _ (.inr (by omega)) (by omega), strict_dig _ (by omega) _ _ _ _ _ _ (.inr (by omega)) (by omega)]
    rw [show 10 * (10 * (10 * (0 : Int) + ((v / 100 : Nat) : Int)) + ((v / 10 % 10 : Nat) : Int)) + ((v % 10 : Nat) : Int) = (v : Int) by omega]
  · by_cases h10 : 10 ≤ v
    · refine ⟨2, by decide, ?_⟩
      rw [if_neg h100, if_pos h10]
      show strictL (dgt (v / 10 % 10) :: dgt (v % 10) :: l) i n part 0 0 = _
      rw [strict_dig _ (by omega) _ _ _ _ _ _ (.inl rfl) (by omega), strict_dig _ (by omega) _ _ _ _ _ _ (.inr (by omega)) (by omega)]
      rw [show 10 * (10 * (0 : Int) + ((v / 10 % 10 : Nat) : Int)) + ((v % 10 : Nat) : Int) = (v : Int) by omega]
    · refine ⟨1, by decide, ?_⟩
      rw [if_neg h100, if_neg h10]
      show strictL (dgt (v % 10) :: l) i n part 0 0 = _
      rw [strict_dig _ (by omega) _ _ _ _ _ _ (.inl rfl) (by omega)]
      rw [show 10 * (0 : Int) + ((v % 10 : Nat) : Int) = (v : Int) by omega]
theorem strict_dot (l : List UInt8) (i : Nat) (n : Int) (part size : Nat) (X : Int) (hs : 0 < size) (hp : part < 3) : strictL (46 :: l) i n part size X = strictL l (i + 1) ((256 * n + X) % 4294967296) (part + 1) 0 0 := by
  rw [strictL, if_neg (fun h => absurd h.1 (by decide)), if_pos ⟨rfl, hs, hp⟩]
theorem print_strict (n : Int) (h0 : 0 ≤ n) (h1 : n ≤ 4294967295) : strictV (printV n) = (n, 0, 0) := by
  unfold strictV
  rw [printV_dec n h0 h1]
  obtain ⟨s0, p0, e0⟩ := strict_dec (n / 16777216).toNat (by omega) (46 :: (dec3 (n / 65536 % 256).toNat ++ 46 :: (dec3 (n / 256 % 256).toNat ++ 46 :: dec3 (n % 256).toNat))) 0 0 0
  rw [e0, strict_dot _ _ _ _ _ _ p0 (by decide)]
  obtain ⟨s1, p1, e1⟩ := strict_dec (n / 65536 % 256).toNat (by omega) (46 :: (dec3 (n / 256 % 256).toNat ++ 46 :: dec3 (n % 256).toNat)) (0 + s0 + 1) ((256 * 0 + ((n / 16777216).toNat : Int)) % 4294967296) (0 + 1)
  rw [e1, strict_dot _ _ _ _ _ _ p1 (by decide)]
  obtain ⟨s2, p2, e2⟩ := strict_dec (n / 256 % 256).toNat (by omega) (46 :: dec3 (n % 256).toNat) (0 + s0 + 1 + s1 + 1) ((256 * ((256 * 0 + ((n / 16777216).toNat : Int)) % 4294967296) + ((n / 65536 % 256).toNat : Int)) % 4294967296) (0 + 1 + 1)
  rw [e2, strict_dot _ _ _ _ _ _ p2 (by decide)]
  obtain ⟨s3, p3, e3⟩ := strict_dec (n % 256).toNat (by omega) [] (0 + s0 + 1 + s1 + 1 + s2 + 1) ((256 * ((256 * ((256 * 0 + ((n / 16777216).toNat : Int)) % 4294967296) + ((n / 65536 % 256).toNat : Int)) % 4294967296) + ((n / 256 % 256).toNat : Int)) % 4294967296) (0 + 1 + 1 + 1)
  rw [List.append_nil] at e3
  rw [e3, strictL, if_neg (by omega)]
  refine congrArg (fun x => (x, (0 : Int), (0 : Int))) ?_
  have k1 : (256 * 0 + ((n / 16777216).toNat : Int)) % 4294967296 = n / 16777216 := by omega
  have k2 : (256 * (n / 16777216) + ((n / 65536 % 256).toNat : Int)) % 4294967296 = n / 65536 := by omega
  have k3 : (256 * (n / 65536) + ((n / 256 % 256).toNat : Int)) % 4294967296 = n / 256 := by omega
  rw [k1, k2, k3]
  omega
end Go.Proofs.YtgnahagnmodpdaaDoor

/- Contracts of the functions, in plain words. -/
namespace Go.Proofs.YtgnahagnmodpdaaDoor
open Go.RowKit Go.Proofs.YtgnahagnmodpdaaDoorW.PrintWords Go.Proofs.YtgnahagnmodpdaaDoor.X Go.IntWalk
set_option linter.unusedVariables false
set_option linter.unusedSimpArgs false

theorem c_awake (w : World) (hG : GW w) : Calls Tryd.prog 11 #[] w fun e w' => e = .returned (.bool true) ∧ Below w.heap.size w w' := by
  obtain ⟨k, h⟩ := awake_ev.rounds
  exact posternlaw20_awake.calls k true w hG h
theorem c_parse (s : ByteArray) (hs : s.size ≤ 4294967280) (w : World) (hG : GW w) : Calls Tryd.prog 13 #[.string s] w fun e w' => e = .returned (.tuple #[.int .u32 (parseV s.data.toList).1, .int .i64 (parseV s.data.toList).2.1, .int .i64 (parseV s.data.toList).2.2]) ∧ Below w.heap.size w w' :=
  four_Parse.calls s _ _ _ w hG (if_pos hs)
theorem c_print (n : Int) (h0 : 0 ≤ n) (h1 : n ≤ 4294967295) (w : World) (hG : GW w) : Calls Tryd.prog 23 #[.int .u32 n] w fun e w' => e = .returned (.string (BA (printV n))) ∧ Below w.heap.size w w' := print_walk n h0 h1 w hG
theorem c_ends (s : ByteArray) (hs : s.size ≤ 4294967280) (w : World) (hG : GW w) : Calls Tryd.prog 14 #[.string s] w fun e w' => e = .returned (.bool (endsV s.data.toList)) ∧ Below w.heap.size w w' := by
  obtain ⟨k, h⟩ := (four_ends s hs).rounds
  exact four_Ends.calls k s _ w hG h
theorem c_strict (s : ByteArray) (hs : s.size ≤ 4294967280) (w : World) : Calls Tryd.prog 21 #[.string s] w fun e w' => e = .returned (.tuple #[.int .u32 (strictV s.data.toList).1, .int .i64 (strictV s.data.toList).2.1, .int .i64 (strictV s.data.toList).2.2]) ∧ Drawn0 w w' := by
  obtain ⟨k, h⟩ := (strict_ev s hs).rounds
  exact four_Strict.calls k s _ _ _ w h
end Go.Proofs.YtgnahagnmodpdaaDoor

/- Plain laws: a number written to a base with noughts ahead is read as that number. -/
namespace Go.Proofs.YtgnahagnmodpdaaDoor
open Go.RowKit Go.Proofs.YtgnahagnmodpdaaDoorW.PrintWords Go.Proofs.YtgnahagnmodpdaaDoor.X Go.IntWalk
set_option linter.unusedVariables false
set_option linter.unusedSimpArgs false

theorem baApp (a b : List UInt8) : BA a ++ BA b = BA (a ++ b) := ba_ext (by simp [BA])
/-- A digit's letter. -/
def hexC (d : Nat) : UInt8 := UInt8.ofNat (if d < 10 then 48 + d else 87 + d)
theorem hexC_tab : ∀ d : Fin 16, bt (⟨#[48, 49, 50, 51, 52, 53, 54, 55, 56, 57, 97, 98, 99, 100, 101, 102]⟩ : ByteArray) (d.val : Int) = ((hexC d.val).toNat : Int) ∧ (hexC d.val = 48 ↔ d.val = 0) ∧ hexC d.val ≠ 46 ∧ hexC d.val ≠ 120 ∧ hexC d.val ≠ 88 := by decide +kernel
theorem hexC_dig : ∀ d : Fin 16, ∀ b : Fin 17, d.val < b.val → 2 ≤ b.val → digV ((hexC d.val).toNat : Int) (b.val : Int) = (d.val : Int) := by decide +kernel
/-- The digits of a number, none for nought. -/
def digB (b : Nat) : Nat → Nat → List UInt8
  | 0, n => []
  | m + 1, n => if n = 0 then [] else digB b m (n / b) ++ [hexC (n % b)]
/-- The digits of a number. -/
def digsB (b n : Nat) : List UInt8 := if n = 0 then [48] else digB b 40 n
/-- A number as the law writes it. -/
def wayT (b n z : Nat) : List UInt8 := (if b = 16 then [48, 120] else if b = 8 then [48] else []) ++ (List.replicate z 48 ++ digsB b n)
theorem capL_append (base : Int) : ∀ (x y : List UInt8) (a : Int), capL base (x ++ y) a = (capL base x a).bind (capL base y)
  | [], y, a => rfl
  | c :: x, y, a => by
    rw [List.cons_append, capL, capL]
    split
    · rfl
    · exact capL_append base x y _
theorem capL_digB (b : Nat) (hb : 2 ≤ b) (hb2 : b ≤ 16) : ∀ (m n : Nat), n < b ^ m → n ≤ 4294967296 → capL (b : Int) (digB b m n) 0 = some (n : Int)
  | 0, n, h, hn => by
    obtain rfl : n = 0 := by simpa using h
    rfl
  | m + 1, n, h, hn => by
    rw [digB]
    by_cases h0 : n = 0
    · rw [if_pos h0, h0]
      rfl
    · rw [if_neg h0, capL_append, capL_digB b hb hb2 m (n / b) (Nat.div_lt_of_lt_mul (by rwa [Nat.pow_succ, Nat.mul_comm] at h)) (Nat.le_trans (Nat.div_le_self n b) hn), Option.bind_some]
      have hm : n % b < b := Nat.mod_lt n (by omega)
      have hd := hexC_dig ⟨n % b, by omega⟩ ⟨b, by omega⟩ hm hb
      simp only at hd
      have e : ((n / b : Nat) : Int) * (b : Int) + ((n % b : Nat) : Int) = (n : Int) := by
        rw [← Int.natCast_mul, ← Int.natCast_add, Nat.div_add_mod']
      simp only [capL]
      rw [hd, if_neg (by omega), e, if_neg (by omega)]
theorem digB_head (b : Nat) (hb : 2 ≤ b) (hb2 : b ≤ 16) : ∀ (m n : Nat), 0 < n → n < b ^ m → ∃ d r, d < b ∧ 0 < d ∧ digB b m n = hexC d :: r
  | 0, n, h0, h => by simp at h; omega
  | m + 1, n, h0, h => by
    rw [digB, if_neg (by omega)]
    by_cases hq : n / b = 0
    · have hlt : n < b := by rcases Nat.div_eq_zero_iff.1 hq with h | h <;> omega
      refine ⟨n % b, [], Nat.mod_lt n (by omega), by rw [Nat.mod_eq_of_lt hlt]; exact h0, ?_⟩
      rw [hq]
      cases m <;> rfl
    · obtain ⟨d, r, h1, h2, e⟩ := digB_head b hb hb2 m (n / b) (Nat.pos_of_ne_zero hq) (Nat.div_lt_of_lt_mul (by rwa [Nat.pow_succ, Nat.mul_comm] at h))
      exact ⟨d, r ++ [hexC (n % b)], h1, h2, by rw [e]; rfl⟩
theorem digB_mem (b : Nat) (hb : 2 ≤ b) (hb2 : b ≤ 16) : ∀ (m n : Nat), ∀ c ∈ digB b m n, ∃ d, d < b ∧ c = hexC d
  | 0, n, c, h => absurd h (by simp [digB])
  | m + 1, n, c, h => by
    rw [digB] at h
    by_cases h0 : n = 0
    · rw [if_pos h0] at h
      exact absurd h (by simp)
    · rw [if_neg h0] at h
      rcases List.mem_append.1 h with h | h
      · exact digB_mem b hb hb2 m (n / b) c h
      · exact ⟨n % b, Nat.mod_lt n (by omega), by simpa using h⟩
theorem pow40 (b : Nat) (hb : 2 ≤ b) (n : Nat) (hn : n ≤ 4294967296) : n < b ^ 40 := by
  have : 2 ^ 40 ≤ b ^ 40 := Nat.pow_le_pow_left hb 40
  have : (2 : Nat) ^ 40 = 1099511627776 := by decide
  omega
theorem digs_head (b : Nat) (hb : 2 ≤ b) (hb2 : b ≤ 16) (n : Nat) (hn : n ≤ 4294967296) : ∃ d r, d < b ∧ (d = 0 → r = []) ∧ digsB b n = hexC d :: r := by
  unfold digsB
  by_cases h0 : n = 0
  · exact ⟨0, [], by omega, fun _ => rfl, by rw [if_pos h0]; rfl⟩
  · obtain ⟨d, r, h1, h2, e⟩ := digB_head b hb hb2 40 n (by omega) (pow40 b hb n hn)
    exact ⟨d, r, h1, fun h => by omega, by rw [if_neg h0, e]⟩
theorem capL_digs (b : Nat) (hb : 2 ≤ b) (hb2 : b ≤ 16) (n : Nat) (hn : n ≤ 4294967296) : capL (b : Int) (digsB b n) 0 = some (n : Int) := by
  unfold digsB
  by_cases h0 : n = 0
  · rw [if_pos h0, h0]
    have hd := hexC_dig ⟨0, by omega⟩ ⟨b, by omega⟩ (by show 0 < b; omega) hb
    rw [show ([48] : List UInt8) = [hexC 0] from rfl]
    simp only [capL]
    simp only at hd
    rw [hd, show (0 : Int) * (b : Int) + ((0 : Nat) : Int) = 0 by simp]
    rfl
  · rw [if_neg h0]
    exact capL_digB b hb hb2 40 n (pow40 b hb n hn) hn
theorem capL_zeros (b : Nat) (hb : 2 ≤ b) (hb2 : b ≤ 16) (l : List UInt8) : ∀ z : Nat, capL (b : Int) (List.replicate z 48 ++ l) 0 = capL (b : Int) l 0
  | 0 => rfl
  | z + 1 => by
    have hd : digV ((48 : UInt8).toNat : Int) (b : Int) = 0 := hexC_dig ⟨0, by omega⟩ ⟨b, by omega⟩ (by show 0 < b; omega) hb
    rw [List.replicate_succ, List.cons_append, capL, hd, if_neg (by decide), show (0 : Int) * (b : Int) + 0 = 0 by simp, if_neg (by decide)]
    exact capL_zeros b hb hb2 l z
theorem wayT_number (b n z : Nat) (hb : b = 16 ∨ b = 8 ∨ b = 10 ∧ z = 0) (hn : n ≤ 4294967296) : numberV (wayT b n z) = ((n : Int), (b : Int), 0) := by
  have hb2 : 2 ≤ b ∧ b ≤ 16 := by omega
  obtain ⟨d, r, hd, hr, e⟩ := digs_head b hb2.1 hb2.2 n hn
  have hc := capL_zeros b hb2.1 hb2.2 (digsB b n) z
  rw [capL_digs b hb2.1 hb2.2 n hn] at hc
  have hx := hexC_tab ⟨d, by omega⟩
  simp only at hx
  have key : ∀ l : List UInt8, baseOf (wayT b n z) = ((b : Int), l) → capL (b : Int) l 0 = some (n : Int) → wayT b n z ≠ [] → numberV (wayT b n z) = ((n : Int), (b : Int), 0) := by
    intro l h1 h2 h3
    unfold numberV
    rw [if_neg h3, h1, h2]
  rcases hb with rfl | rfl | ⟨rfl, rfl⟩
  · refine key (List.replicate z 48 ++ digsB 16 n) ?_ hc (by unfold wayT; simp)
    rfl
  · refine key (List.replicate z 48 ++ digsB 8 n) ?_ hc (by unfold wayT; simp)
    show baseOf (48 :: (List.replicate z 48 ++ digsB 8 n)) = _
    cases z with
    | zero =>
      rw [e]
      show baseOf (48 :: hexC d :: r) = (8, hexC d :: r)
      unfold baseOf
      split <;> simp_all
    | succ z =>
      rw [List.replicate_succ, List.cons_append]
      rfl
  · refine key (digsB 10 n) ?_ hc (by unfold wayT; rw [e]; simp)
    show baseOf (digsB 10 n) = _
    rw [e]
    by_cases h0 : d = 0
    · rw [hr h0, h0]
      rfl
    · have hne : hexC d ≠ 48 := fun h => h0 (hx.2.1.1 h)
      unfold baseOf
      split <;> simp_all
theorem wayT_no46 (b n z : Nat) (hb : 2 ≤ b) (hb2 : b ≤ 16) : ∀ c ∈ wayT b n z, c ≠ 46 := by
  intro c hc
  have hd : ∀ c ∈ digsB b n, c ≠ 46 := by
    intro c hc
    unfold digsB at hc
    by_cases h0 : n = 0
    · rw [if_pos h0] at hc
      obtain rfl : c = 48 := by simpa using hc
      decide
    · rw [if_neg h0] at hc
      obtain ⟨d, h1, rfl⟩ := digB_mem b hb hb2 40 n c hc
      exact (hexC_tab ⟨d, by omega⟩).2.2.1
  unfold wayT at hc
  rcases List.mem_append.1 hc with h | h
  · (repeat' split at h) <;> simp at h
    · rcases h with rfl | rfl <;> decide
    · subst h
      decide
  · rcases List.mem_append.1 h with h | h
    · rw [(List.mem_replicate.1 h).2]
      decide
    · exact hd c h
theorem digB_len (b : Nat) (hb : 2 ≤ b) : ∀ (m n : Nat), (digB b m n).length ≤ m
  | 0, n => Nat.le_refl _
  | m + 1, n => by
    rw [digB]
    split
    · simp
    · have := digB_len b hb m (n / b)
      simp
      omega
theorem digs_len (b n : Nat) (hb : 2 ≤ b) : (digsB b n).length ≤ 40 := by
  unfold digsB
  split
  · simp
  · exact digB_len b hb 40 n
theorem wayT_len (b n z : Nat) (hb : 2 ≤ b) (hz : z ≤ 49) : (wayT b n z).length ≤ 91 := by
  have := digs_len b n hb
  unfold wayT
  (repeat' split) <;> simp <;> omega

/-! ### the law's own function -/
theorem num_l1 (b : Nat) (hb : b = 16 ∨ b = 8 ∨ b = 10) : ∀ (m i z : Nat) (out : List UInt8), i + m = z → z ≤ 49 → out.length ≤ 40 + i →
    Ev (fun k => posternlaw20_number.l1 k (b : Int) (BA out) (z : Int) (i : Int)) (BA ((if b = 16 then [48, 120] else if b = 8 then [48] else []) ++ (List.replicate m 48 ++ out)))
  | 0, i, z, out, hm, hz, hl => by
    refine Ev.step (f := fun k => some (BA ((if b = 16 then [48, 120] else if b = 8 then [48] else []) ++ out))) (fun k => ?_) (Ev.now _)
    simp only [posternlaw20_number.l1]
    rw [if_neg (by omega)]
    rcases hb with rfl | rfl | rfl
    · show (if ((16 : Nat) : Int) = 16 then (if 2 + (BA out).size ≤ 9223372036854775807 then some ((⟨#[48, 120]⟩ : ByteArray) ++ BA out) else none) else _) = some (BA ([48, 120] ++ out))
      rw [if_pos (by rfl), if_pos (by rw [ba_size]; omega), ← baApp]
      rfl
    · show (if ((8 : Nat) : Int) = 16 then _ else (if ((8 : Nat) : Int) = 8 then (if 1 + (BA out).size ≤ 9223372036854775807 then some ((⟨#[48]⟩ : ByteArray) ++ BA out) else none) else _)) = some (BA ([48] ++ out))
      rw [if_neg (by decide), if_pos (by rfl), if_pos (by rw [ba_size]; omega), ← baApp]
      rfl
    · show (if ((10 : Nat) : Int) = 16 then _ else (if ((10 : Nat) : Int) = 8 then _ else some (BA out))) = some (BA ([] ++ out))
      rw [if_neg (by decide), if_neg (by decide)]
      rfl
  | m + 1, i, z, out, hm, hz, hl => by
    have e := num_l1 b hb m (i + 1) z (48 :: out) (by omega) hz (by simp; omega)
    rw [List.replicate_succ', List.append_assoc, show [48] ++ out = 48 :: out from rfl]
    refine Ev.step (fun k => ?_) e
    simp only [posternlaw20_number.l1]
    rw [if_pos (by omega), if_pos (by rw [ba_size]; omega), wsucc i (by omega)]
    rfl
theorem tm50 (z : Int) (h0 : -9223372036854775808 ≤ z) (h1 : z ≤ 9223372036854775807) : ∃ m : Nat, m ≤ 49 ∧ Int.tmod (wrap64 ((Int.tmod z 50) + 50)) 50 = (m : Int) := by
  have a := Int.tmod_lt_of_pos z (show (0 : Int) < 50 by decide)
  have b := Int.lt_tmod_of_pos z (show (0 : Int) < 50 by decide)
  rw [wrap64_in _ (by omega), Int.tmod_eq_emod_of_nonneg (by omega)]
  exact ⟨((Int.tmod z 50 + 50) % 50).toNat, by omega, by omega⟩
theorem num_l0 (b : Nat) (hb : b = 16 ∨ b = 8 ∨ b = 10) (zz : Int) (z : Nat) (hz : z ≤ 49) (hzz : Int.tmod (wrap64 ((Int.tmod zz 50) + 50)) 50 = (z : Int)) : ∀ (m n : Nat) (out : List UInt8), n < b ^ m → n ≤ 4294967296 → out.length + m ≤ 40 → (out ≠ [] ∨ 0 < n) →
    Ev (fun k => posternlaw20_number.l0 k (n : Int) (b : Int) zz (BA out)) (BA ((if b = 16 then [48, 120] else if b = 8 then [48] else []) ++ (List.replicate z 48 ++ (digB b m n ++ out))))
  | m, 0, out, hn, hn2, hl, ho => by
    have hd : digB b m 0 = [] := by cases m <;> rfl
    rw [hd, List.nil_append]
    have e := num_l1 b hb z 0 z out (Nat.zero_add _) hz (by omega)
    refine Ev.step (fun k => ?_) e
    simp only [posternlaw20_number.l0]
    rw [if_neg (by simp), if_neg (by rw [toList_data, ba_list]; rcases ho with h | h; exact h; exact absurd h (Nat.lt_irrefl 0)), hzz]
    rfl
  | 0, n + 1, out, hn, hn2, hl, ho => by simp at hn
  | m + 1, n + 1, out, hn, hn2, hl, ho => by
    have hm : (n + 1) % b < b := Nat.mod_lt _ (by omega)
    have hq : (n + 1) / b < b ^ m := Nat.div_lt_of_lt_mul (by rwa [Nat.pow_succ, Nat.mul_comm] at hn)
    have hle := Nat.div_le_self (n + 1) b
    have e := num_l0 b hb zz z hz hzz m ((n + 1) / b) (hexC ((n + 1) % b) :: out) hq (by omega) (by simp; omega) (.inl (by simp))
    rw [show digB b (m + 1) (n + 1) = digB b m ((n + 1) / b) ++ [hexC ((n + 1) % b)] from if_neg (by omega), List.append_assoc (digB b m ((n + 1) / b)), show [hexC ((n + 1) % b)] ++ out = hexC ((n + 1) % b) :: out from rfl]
    refine Ev.step (fun k => ?_) e
    have t1 : Int.tmod ((n + 1 : Nat) : Int) (b : Int) = (((n + 1) % b : Nat) : Int) := by rw [Int.tmod_eq_emod_of_nonneg (by omega), Int.natCast_emod]
    have t2 : Int.tdiv ((n + 1 : Nat) : Int) (b : Int) = (((n + 1) / b : Nat) : Int) := by rw [Int.tdiv_eq_ediv_of_nonneg (by omega), Int.natCast_ediv]
    have hx := (hexC_tab ⟨(n + 1) % b, by omega⟩).1
    simp only at hx
    have hs : strOfNums [((hexC ((n + 1) % b)).toNat : Int)] = BA [hexC ((n + 1) % b)] := by
      unfold strOfNums BA
      simp
    simp only [posternlaw20_number.l0, Option.bind_some]
    rw [t1, t2, hx, hs, if_pos (by omega), if_neg (by omega), if_pos (by omega), if_pos (by omega), if_pos (by rw [ba_size, ba_size]; simp; omega), baApp, wu64 (((n + 1) / b : Nat) : Int) (Int.natCast_nonneg _) (by omega)]
    rfl
theorem num_ev (b : Nat) (hb : b = 16 ∨ b = 8 ∨ b = 10) (zz : Int) (h0 : -9223372036854775808 ≤ zz) (h1 : zz ≤ 9223372036854775807) (z : Nat) (hz : z ≤ 49) (hzz : Int.tmod (wrap64 ((Int.tmod zz 50) + 50)) 50 = (z : Int)) (n : Nat) (hn : n ≤ 4294967296) :
    Ev (fun k => posternlaw20_number.f k (n : Int) (b : Int) zz) (BA (wayT b n z)) := by
  unfold wayT digsB
  by_cases hn0 : n = 0
  · subst hn0
    rw [if_pos rfl]
    have e := num_l0 b hb zz z hz hzz 0 0 [48] (by simp) (by omega) (by simp) (.inl (by simp))
    suffices e2 : Ev (fun k => posternlaw20_number.l0 k ((0 : Nat) : Int) (b : Int) zz (BA [])) (BA ((if b = 16 then [48, 120] else if b = 8 then [48] else []) ++ (List.replicate z 48 ++ (digB b 0 0 ++ [48])))) from Ev.congr (fun k => rfl) e2
    refine Ev.step (f := fun k => posternlaw20_number.l0 k ((0 : Nat) : Int) (b : Int) zz (BA [48])) (fun k => ?_) e
    have hbt := (hexC_tab ⟨0, by decide⟩).1
    simp only [posternlaw20_number.l0, Option.bind_some]
    rw [if_neg (by decide), if_pos (by rw [toList_data]; rfl), if_neg (by omega)]
    rw [show Int.tmod ((0 : Nat) : Int) (b : Int) = 0 by simp, show Int.tdiv ((0 : Nat) : Int) (b : Int) = 0 by simp, if_pos (by decide), if_pos (by decide)]
    rfl
  · rw [if_neg hn0]
    have e := num_l0 b hb zz z hz hzz 40 n [] (pow40 b (by omega) n hn) hn (by simp) (.inr (by omega))
    rw [List.append_nil] at e
    exact Ev.congr (fun k => rfl) e
/-! ### an address in parts -/
/-- What the last part may be. -/
def topN (k : Nat) : Nat := 256 ^ (5 - k)
/-- The parts of an address. -/
def partN (n k i : Nat) : Nat := if i + 1 < k then n / 256 ^ (3 - i) % 256 else n % 256 ^ (5 - k)
theorem join_parts : ∀ (P : List (List UInt8)), P ≠ [] → (∀ p ∈ P, ∀ c ∈ p, c ≠ 46) → splitC 46 (Lib.join P [46]) = P
  | [], h, _ => absurd rfl h
  | [p], _, h => by
    show splitC 46 (Lib.join [p] [46]) = [p]
    rw [show Lib.join [p] [46] = p by simp [Lib.join, List.intercalate]]
    exact splitC_no (h p (by simp))
  | p :: q :: P, _, h => by
    rw [show Lib.join (p :: q :: P) [46] = p ++ 46 :: Lib.join (q :: P) [46] by simp [Lib.join, List.intercalate]]
    rw [splitC_at (h p (by simp)), join_parts (q :: P) (by simp) (fun x hx => h x (by simp [hx]))]
theorem parts_join (P : List (List UInt8)) (hne : P ≠ []) (h : ∀ p ∈ P, (∀ c ∈ p, c ≠ 46) ∧ p ≠ []) : partsV (Lib.join P [46]) = P := by
  unfold partsV partsL
  rw [join_parts P hne (fun p hp => (h p hp).1), if_neg]
  rintro ⟨_, hl⟩
  exact (h [] (List.mem_of_getLast? hl)).2 rfl
theorem ways_parse1 (t0 : List UInt8) (x0 b0 : Int) (h0 : numberV t0 = (x0, b0, 0))  (hl : 0 ≤ x0 ∧ x0 < 4294967296) : parseP [t0] = (x0, 0, 0) := by
  unfold parseP
  rw [if_neg (by simp), firstErr_ok (by simp [h0])]
  simp only [List.map_cons, List.map_nil, h0, firstBig]

  show (if (256 : Int) ^ (5 - 1) ≤ x0 then _ else _ : Int × Int × Int) = _
  rw [if_neg (by omega)]
  refine congrArg (fun x => (x, (0 : Int), (0 : Int))) ?_
  simp only [sumFrom] <;> omega
theorem ways_great1 (t0 : List UInt8) (x0 b0 : Int) (h0 : numberV t0 = (x0, b0, 0))  (hl : x0 = 4294967296) : parseP [t0] = (0, 0, 202) := by
  unfold parseP
  rw [if_neg (by simp), firstErr_ok (by simp [h0])]
  simp only [List.map_cons, List.map_nil, h0, firstBig]

  show (if (256 : Int) ^ (5 - 1) ≤ x0 then _ else _ : Int × Int × Int) = _
  rw [if_pos (by omega)]
  rfl
theorem ways_parse2 (t0 t1 : List UInt8) (x0 x1 b0 b1 : Int) (h0 : numberV t0 = (x0, b0, 0)) (h1 : numberV t1 = (x1, b1, 0)) (r0 : 0 ≤ x0 ∧ x0 ≤ 255) (hl : 0 ≤ x1 ∧ x1 < 16777216) : parseP [t0, t1] = (x1 + x0 * 16777216, 0, 0) := by
  unfold parseP
  rw [if_neg (by simp), firstErr_ok (by simp [h0, h1])]
  simp only [List.map_cons, List.map_nil, h0, h1, firstBig]
  rw [if_neg (show ¬ (255 : Int) < x0 by omega)]
  show (if (256 : Int) ^ (5 - 2) ≤ x1 then _ else _ : Int × Int × Int) = _
  rw [if_neg (by omega)]
  refine congrArg (fun x => (x, (0 : Int), (0 : Int))) ?_
  simp only [sumFrom]
  omega
theorem ways_great2 (t0 t1 : List UInt8) (x0 x1 b0 b1 : Int) (h0 : numberV t0 = (x0, b0, 0)) (h1 : numberV t1 = (x1, b1, 0)) (r0 : 0 ≤ x0 ∧ x0 ≤ 255) (hl : x1 = 16777216) : parseP [t0, t1] = (0, 1, 202) := by
  unfold parseP
  rw [if_neg (by simp), firstErr_ok (by simp [h0, h1])]
  simp only [List.map_cons, List.map_nil, h0, h1, firstBig]
  rw [if_neg (show ¬ (255 : Int) < x0 by omega)]
  show (if (256 : Int) ^ (5 - 2) ≤ x1 then _ else _ : Int × Int × Int) = _
  rw [if_pos (by omega)]
  rfl
theorem ways_parse3 (t0 t1 t2 : List UInt8) (x0 x1 x2 b0 b1 b2 : Int) (h0 : numberV t0 = (x0, b0, 0)) (h1 : numberV t1 = (x1, b1, 0)) (h2 : numberV t2 = (x2, b2, 0)) (r0 : 0 ≤ x0 ∧ x0 ≤ 255) (r1 : 0 ≤ x1 ∧ x1 ≤ 255) (hl : 0 ≤ x2 ∧ x2 < 65536) : parseP [t0, t1, t2] = (x2 + x1 * 65536 + x0 * 16777216, 0, 0) := by
  unfold parseP
  rw [if_neg (by simp), firstErr_ok (by simp [h0, h1, h2])]
  simp only [List.map_cons, List.map_nil, h0, h1, h2, firstBig]
  rw [if_neg (show ¬ (255 : Int) < x0 by omega)]
  rw [if_neg (show ¬ (255 : Int) < x1 by omega)]
  show (if (256 : Int) ^ (5 - 3) ≤ x2 then _ else _ : Int × Int × Int) = _
  rw [if_neg (by omega)]
  refine congrArg (fun x => (x, (0 : Int), (0 : Int))) ?_
  simp only [sumFrom]
  omega
theorem ways_great3 (t0 t1 t2 : List UInt8) (x0 x1 x2 b0 b1 b2 : Int) (h0 : numberV t0 = (x0, b0, 0)) (h1 : numberV t1 = (x1, b1, 0)) (h2 : numberV t2 = (x2, b2, 0)) (r0 : 0 ≤ x0 ∧ x0 ≤ 255) (r1 : 0 ≤ x1 ∧ x1 ≤ 255) (hl : x2 = 65536) : parseP [t0, t1, t2] = (0, 2, 202) := by
  unfold parseP
  rw [if_neg (by simp), firstErr_ok (by simp [h0, h1, h2])]
  simp only [List.map_cons, List.map_nil, h0, h1, h2, firstBig]
  rw [if_neg (show ¬ (255 : Int) < x0 by omega)]
  rw [if_neg (show ¬ (255 : Int) < x1 by omega)]
  show (if (256 : Int) ^ (5 - 3) ≤ x2 then _ else _ : Int × Int × Int) = _
  rw [if_pos (by omega)]
  rfl
theorem ways_parse4 (t0 t1 t2 t3 : List UInt8) (x0 x1 x2 x3 b0 b1 b2 b3 : Int) (h0 : numberV t0 = (x0, b0, 0)) (h1 : numberV t1 = (x1, b1, 0)) (h2 : numberV t2 = (x2, b2, 0)) (h3 : numberV t3 = (x3, b3, 0)) (r0 : 0 ≤ x0 ∧ x0 ≤ 255) (r1 : 0 ≤ x1 ∧ x1 ≤ 255) (r2 : 0 ≤ x2 ∧ x2 ≤ 255) (hl : 0 ≤ x3 ∧ x3 < 256) : parseP [t0, t1, t2, t3] = (x3 + x2 * 256 + x1 * 65536 + x0 * 16777216, 0, 0) := by
  unfold parseP
  rw [if_neg (by simp), firstErr_ok (by simp [h0, h1, h2, h3])]
  simp only [List.map_cons, List.map_nil, h0, h1, h2, h3, firstBig]
  rw [if_neg (show ¬ (255 : Int) < x0 by omega)]
  rw [if_neg (show ¬ (255 : Int) < x1 by omega)]
  rw [if_neg (show ¬ (255 : Int) < x2 by omega)]
  show (if (256 : Int) ^ (5 - 4) ≤ x3 then _ else _ : Int × Int × Int) = _
  rw [if_neg (by omega)]
  refine congrArg (fun x => (x, (0 : Int), (0 : Int))) ?_
  simp only [sumFrom]
  omega
theorem ways_great4 (t0 t1 t2 t3 : List UInt8) (x0 x1 x2 x3 b0 b1 b2 b3 : Int) (h0 : numberV t0 = (x0, b0, 0)) (h1 : numberV t1 = (x1, b1, 0)) (h2 : numberV t2 = (x2, b2, 0)) (h3 : numberV t3 = (x3, b3, 0)) (r0 : 0 ≤ x0 ∧ x0 ≤ 255) (r1 : 0 ≤ x1 ∧ x1 ≤ 255) (r2 : 0 ≤ x2 ∧ x2 ≤ 255) (hl : x3 = 256) : parseP [t0, t1, t2, t3] = (0, 3, 202) := by
  unfold parseP
  rw [if_neg (by simp), firstErr_ok (by simp [h0, h1, h2, h3])]
  simp only [List.map_cons, List.map_nil, h0, h1, h2, h3, firstBig]
  rw [if_neg (show ¬ (255 : Int) < x0 by omega)]
  rw [if_neg (show ¬ (255 : Int) < x1 by omega)]
  rw [if_neg (show ¬ (255 : Int) < x2 by omega)]
  show (if (256 : Int) ^ (5 - 4) ≤ x3 then _ else _ : Int × Int × Int) = _
  rw [if_pos (by omega)]
  rfl
theorem ends_join (P : List (List UInt8)) (hne : P ≠ []) (h : ∀ p ∈ P, (∀ c ∈ p, c ≠ 46) ∧ p ≠ []) (he : ∀ p ∈ P, (numberV p).2.2 = 0) : endsV (Lib.join P [46]) = true := by
  refine ends_of_number ?_
  unfold lastV
  rw [parts_join P hne h, List.getLastD_eq_getLast?]
  cases hg : P.getLast? with
  | none => exact absurd (List.getLast?_eq_none_iff.1 hg) hne
  | some x => exact he x (List.mem_of_getLast? hg)
theorem parse_join (P : List (List UInt8)) (hne : P ≠ []) (h : ∀ p ∈ P, (∀ c ∈ p, c ≠ 46) ∧ p ≠ []) : parseV (Lib.join P [46]) = parseP P := by
  unfold parseV
  rw [parts_join P hne h]
end Go.Proofs.YtgnahagnmodpdaaDoor

/- FourWays: the walk. -/
namespace Go.Proofs.YtgnahagnmodpdaaDoor
open Go.RowKit Go.Proofs.YtgnahagnmodpdaaDoorW.PrintWords Go.Proofs.YtgnahagnmodpdaaDoor.X Go.IntWalk
set_option linter.unusedVariables false
set_option linter.unusedSimpArgs false

theorem c_number (B : Nat) (Z : Int) (hB : B = 16 ∨ B = 8 ∨ B = 10) (h0 : -9223372036854775808 ≤ Z) (h1 : Z ≤ 9223372036854775807) (z : Nat) (hz : z ≤ 49) (hzz : Int.tmod (wrap64 ((Int.tmod Z 50) + 50)) 50 = (z : Int)) (v : Int) (v0 : 0 ≤ v) (v1 : v ≤ 4294967296) (w : World) : Calls Tryd.prog 12 #[.int .u64 v, .int .u64 (B : Int), .int .i64 Z] w fun e w' => e = .returned (.string (BA (wayT B v.toNat z))) ∧ Below w.heap.size w w' := by
  obtain ⟨k, h⟩ := (num_ev B hB Z h0 h1 z hz hzz v.toNat (by omega)).rounds
  rw [Int.toNat_of_nonneg v0] at h
  exact posternlaw20_number.calls k v (B : Int) Z _ w h
theorem zed (B : Nat) (x : Int) (h0 : -9223372036854775808 ≤ x) (h1 : x ≤ 9223372036854775807) : ∃ Z : Int, ∃ z : Nat, (B = 10 → Z = 0) ∧ (B ≠ 10 → Z = x) ∧ (B = 10 → z = 0) ∧ z ≤ 49 ∧ -9223372036854775808 ≤ Z ∧ Z ≤ 9223372036854775807 ∧ Int.tmod (wrap64 ((Int.tmod Z 50) + 50)) 50 = (z : Int) := by
  by_cases h : B = 10
  · exact ⟨0, 0, fun _ => rfl, fun g => absurd h g, fun _ => rfl, by decide, by decide, by decide, by decide +kernel⟩
  · obtain ⟨z, hz, e⟩ := tm50 x h0 h1
    exact ⟨x, z, fun g => absurd g h, fun _ => rfl, fun g => absurd g h, hz, h0, h1, e⟩
theorem idx3 (x : Int) : ∃ B : Nat, (B = 16 ∨ B = 8 ∨ B = 10) ∧ (0 ≤ (wrap64 (x.tmod 3 + 3)).tmod 3) = True ∧ ((wrap64 (x.tmod 3 + 3)).tmod 3 < 3) = True ∧ ∀ h, [Value.int IntKind.u64 10, Value.int IntKind.u64 8, Value.int IntKind.u64 16][((wrap64 (x.tmod 3 + 3)).tmod 3).toNat]'h = Value.int IntKind.u64 (B : Int) := by
  have a := Int.tmod_lt_of_pos x (show (0 : Int) < 3 by decide)
  have b := Int.lt_tmod_of_pos x (show (0 : Int) < 3 by decide)
  rw [wrap64_in (x.tmod 3 + 3) (by omega), Int.tmod_eq_emod_of_nonneg (by omega)]
  generalize hm : (x.tmod 3 + 3) % 3 = m
  obtain rfl | rfl | rfl : m = 0 ∨ m = 1 ∨ m = 2 := by omega
  · exact ⟨10, by decide, by decide, by decide, fun h => rfl⟩
  · exact ⟨8, by decide, by decide, by decide, fun h => rfl⟩
  · exact ⟨16, by decide, by decide, by decide, fun h => rfl⟩

theorem hY_of {B y : Nat} (hB : B = 16 ∨ B = 8 ∨ B = 10) (h : B = 10 → y = 0) (h2 : y ≤ 49) : (B = 16 ∨ B = 8 ∨ B = 10 ∧ y = 0) ∧ y ≤ 49 ∧ 2 ≤ B ∧ B ≤ 16 := by
  refine ⟨?_, h2, by omega, by omega⟩
  rcases hB with g | g | g
  · exact .inl g
  · exact .inr (.inl g)
  · exact .inr (.inr ⟨g, h g⟩)
theorem wayT_size (b n z : Nat) (hb : 2 ≤ b) (hz : z ≤ 49) : (BA (wayT b n z)).size ≤ 91 := by
  rw [ba_size]
  exact wayT_len b n z hb hz
theorem num_ne {l : List UInt8} {x b : Int} (h : numberV l = (x, b, 0)) : l ≠ [] := by
  rintro rfl
  exact absurd (congrArg (fun z : Int × Int × Int => z.2.2) h) (show ¬ (200 : Int) = 0 by decide)
theorem ba_nil_append (t : List UInt8) : (⟨#[]⟩ : ByteArray) ++ BA t = BA t := by
  rw [show (⟨#[]⟩ : ByteArray) = BA [] from rfl, baApp, List.nil_append]
theorem ba_join1 (t0 : List UInt8) : (⟨#[]⟩ : ByteArray) ++ BA t0 = BA (Lib.join [t0] [46]) := by
  rw [ba_nil_append]
  simp [Lib.join, List.intercalate]
theorem ba_join2 (t0 t1 : List UInt8) : (((⟨#[]⟩ : ByteArray) ++ BA t0) ++ (⟨#[46]⟩ : ByteArray)) ++ BA t1 = BA (Lib.join [t0, t1] [46]) := by
  rw [ba_nil_append, show (⟨#[46]⟩ : ByteArray) = BA [46] from rfl, baApp, baApp]
  simp [Lib.join, List.intercalate]
theorem ba_join3 (t0 t1 t2 : List UInt8) : (((((⟨#[]⟩ : ByteArray) ++ BA t0) ++ (⟨#[46]⟩ : ByteArray)) ++ BA t1) ++ (⟨#[46]⟩ : ByteArray)) ++ BA t2 = BA (Lib.join [t0, t1, t2] [46]) := by
  rw [ba_nil_append, show (⟨#[46]⟩ : ByteArray) = BA [46] from rfl, baApp, baApp, baApp, baApp]
  simp [Lib.join, List.intercalate]
theorem ba_join4 (t0 t1 t2 t3 : List UInt8) : (((((((⟨#[]⟩ : ByteArray) ++ BA t0) ++ (⟨#[46]⟩ : ByteArray)) ++ BA t1) ++ (⟨#[46]⟩ : ByteArray)) ++ BA t2) ++ (⟨#[46]⟩ : ByteArray)) ++ BA t3 = BA (Lib.join [t0, t1, t2, t3] [46]) := by
  rw [ba_nil_append, show (⟨#[46]⟩ : ByteArray) = BA [46] from rfl, baApp, baApp, baApp, baApp, baApp, baApp]
  simp [Lib.join, List.intercalate]
theorem sz0 : (⟨#[]⟩ : ByteArray).size = 0 := rfl
theorem szd : (⟨#[46]⟩ : ByteArray).size = 1 := rfl
theorem sz1 {T0 : ByteArray} (h0 : T0.size ≤ 91) : (⟨#[]⟩ : ByteArray).size + T0.size ≤ 1000 := by
  rw [sz0]
  omega
theorem ways_ok1 (n : Int) (n0 : 0 ≤ n) (n1 : n ≤ 4294967295)   (b0 y0 : Nat) (h0 : (b0 = 16 ∨ b0 = 8 ∨ b0 = 10 ∧ y0 = 0) ∧ y0 ≤ 49 ∧ 2 ≤ b0 ∧ b0 ≤ 16) :
    parseV (Lib.join [(wayT b0 n.toNat y0)] [46]) = (n, 0, 0) ∧ endsV (Lib.join [(wayT b0 n.toNat y0)] [46]) = true ∧ parseV (Lib.join [(wayT b0 (4294967296 : Int).toNat y0)] [46]) = (0, 0, 202) ∧ endsV (Lib.join [(wayT b0 (4294967296 : Int).toNat y0)] [46]) = true := by
  have ql := wayT_number b0 n.toNat y0 h0.1 (by omega)
  rw [Int.toNat_of_nonneg (by omega)] at ql
  have ml : (∀ c ∈ wayT b0 n.toNat y0, c ≠ 46) ∧ wayT b0 n.toNat y0 ≠ [] := ⟨wayT_no46 _ _ _ h0.2.2.1 h0.2.2.2, num_ne ql⟩
  have qg := wayT_number b0 (4294967296 : Int).toNat y0 h0.1 (by omega)
  rw [Int.toNat_of_nonneg (by omega)] at qg
  have mg : (∀ c ∈ wayT b0 (4294967296 : Int).toNat y0, c ≠ 46) ∧ wayT b0 (4294967296 : Int).toNat y0 ≠ [] := ⟨wayT_no46 _ _ _ h0.2.2.1 h0.2.2.2, num_ne qg⟩
  have Hl : ∀ p ∈ [(wayT b0 n.toNat y0)], (∀ c ∈ p, c ≠ 46) ∧ p ≠ [] := by
    intro p hp
    simp only [List.mem_cons, List.not_mem_nil, or_false] at hp
    rcases hp with rfl
    · exact ml
  have El : ∀ p ∈ [(wayT b0 n.toNat y0)], (numberV p).2.2 = 0 := by
    intro p hp
    simp only [List.mem_cons, List.not_mem_nil, or_false] at hp
    rcases hp with rfl
    · rw [ql]
  have Hg : ∀ p ∈ [(wayT b0 (4294967296 : Int).toNat y0)], (∀ c ∈ p, c ≠ 46) ∧ p ≠ [] := by
    intro p hp
    simp only [List.mem_cons, List.not_mem_nil, or_false] at hp
    rcases hp with rfl
    · exact mg
  have Eg : ∀ p ∈ [(wayT b0 (4294967296 : Int).toNat y0)], (numberV p).2.2 = 0 := by
    intro p hp
    simp only [List.mem_cons, List.not_mem_nil, or_false] at hp
    rcases hp with rfl
    · rw [qg]
  refine ⟨?_, ends_join _ (by simp) Hl El, ?_, ends_join _ (by simp) Hg Eg⟩
  · rw [parse_join _ (by simp) Hl, ways_parse1 _ _ _  ql  (by omega)]
  · rw [parse_join _ (by simp) Hg, ways_great1 _ _ _  qg  rfl]
theorem sz2 {T0 T1 : ByteArray} (h0 : T0.size ≤ 91) (h1 : T1.size ≤ 91) : (⟨#[]⟩ : ByteArray).size + T0.size + (⟨#[46]⟩ : ByteArray).size + T1.size ≤ 1000 := by
  rw [sz0, szd]
  omega
theorem ways_ok2 (n : Int) (n0 : 0 ≤ n) (n1 : n ≤ 4294967295) (P0 R1 : Int) (eP0 : P0 = n / 16777216) (eR1 : R1 = n % 16777216) (b0 y0 : Nat) (b1 y1 : Nat) (h0 : (b0 = 16 ∨ b0 = 8 ∨ b0 = 10 ∧ y0 = 0) ∧ y0 ≤ 49 ∧ 2 ≤ b0 ∧ b0 ≤ 16) (h1 : (b1 = 16 ∨ b1 = 8 ∨ b1 = 10 ∧ y1 = 0) ∧ y1 ≤ 49 ∧ 2 ≤ b1 ∧ b1 ≤ 16) :
    parseV (Lib.join [(wayT b0 P0.toNat y0), (wayT b1 R1.toNat y1)] [46]) = (n, 0, 0) ∧ endsV (Lib.join [(wayT b0 P0.toNat y0), (wayT b1 R1.toNat y1)] [46]) = true ∧ parseV (Lib.join [(wayT b0 P0.toNat y0), (wayT b1 (16777216 : Int).toNat y1)] [46]) = (0, 1, 202) ∧ endsV (Lib.join [(wayT b0 P0.toNat y0), (wayT b1 (16777216 : Int).toNat y1)] [46]) = true := by
  have q0 := wayT_number b0 P0.toNat y0 h0.1 (by omega)
  rw [Int.toNat_of_nonneg (by omega)] at q0
  have m0 : (∀ c ∈ wayT b0 P0.toNat y0, c ≠ 46) ∧ wayT b0 P0.toNat y0 ≠ [] := ⟨wayT_no46 _ _ _ h0.2.2.1 h0.2.2.2, num_ne q0⟩
  have ql := wayT_number b1 R1.toNat y1 h1.1 (by omega)
  rw [Int.toNat_of_nonneg (by omega)] at ql
  have ml : (∀ c ∈ wayT b1 R1.toNat y1, c ≠ 46) ∧ wayT b1 R1.toNat y1 ≠ [] := ⟨wayT_no46 _ _ _ h1.2.2.1 h1.2.2.2, num_ne ql⟩
  have qg := wayT_number b1 (16777216 : Int).toNat y1 h1.1 (by omega)
  rw [Int.toNat_of_nonneg (by omega)] at qg
  have mg : (∀ c ∈ wayT b1 (16777216 : Int).toNat y1, c ≠ 46) ∧ wayT b1 (16777216 : Int).toNat y1 ≠ [] := ⟨wayT_no46 _ _ _ h1.2.2.1 h1.2.2.2, num_ne qg⟩
  have Hl : ∀ p ∈ [(wayT b0 P0.toNat y0), (wayT b1 R1.toNat y1)], (∀ c ∈ p, c ≠ 46) ∧ p ≠ [] := by
    intro p hp
    simp only [List.mem_cons, List.not_mem_nil, or_false] at hp
    rcases hp with rfl | rfl
    · exact m0
    · exact ml
  have El : ∀ p ∈ [(wayT b0 P0.toNat y0), (wayT b1 R1.toNat y1)], (numberV p).2.2 = 0 := by
    intro p hp
    simp only [List.mem_cons, List.not_mem_nil, or_false] at hp
    rcases hp with rfl | rfl
    · rw [q0]
    · rw [ql]
  have Hg : ∀ p ∈ [(wayT b0 P0.toNat y0), (wayT b1 (16777216 : Int).toNat y1)], (∀ c ∈ p, c ≠ 46) ∧ p ≠ [] := by
    intro p hp
    simp only [List.mem_cons, List.not_mem_nil, or_false] at hp
    rcases hp with rfl | rfl
    · exact m0
    · exact mg
  have Eg : ∀ p ∈ [(wayT b0 P0.toNat y0), (wayT b1 (16777216 : Int).toNat y1)], (numberV p).2.2 = 0 := by
    intro p hp
    simp only [List.mem_cons, List.not_mem_nil, or_false] at hp
    rcases hp with rfl | rfl
    · rw [q0]
    · rw [qg]
  refine ⟨?_, ends_join _ (by simp) Hl El, ?_, ends_join _ (by simp) Hg Eg⟩
  · rw [parse_join _ (by simp) Hl, ways_parse2 _ _ _ _ _ _ q0 ql (by omega) (by omega)]
    refine congrArg (fun x => (x, (0 : Int), (0 : Int))) ?_
    omega
  · rw [parse_join _ (by simp) Hg, ways_great2 _ _ _ _ _ _ q0 qg (by omega) rfl]
theorem sz3 {T0 T1 T2 : ByteArray} (h0 : T0.size ≤ 91) (h1 : T1.size ≤ 91) (h2 : T2.size ≤ 91) : (⟨#[]⟩ : ByteArray).size + T0.size + (⟨#[46]⟩ : ByteArray).size + T1.size + (⟨#[46]⟩ : ByteArray).size + T2.size ≤ 1000 := by
  rw [sz0, szd]
  omega
theorem ways_ok3 (n : Int) (n0 : 0 ≤ n) (n1 : n ≤ 4294967295) (P0 P1 R1 R2 : Int) (eP0 : P0 = n / 16777216) (eP1 : P1 = R1 / 65536) (eR1 : R1 = n % 16777216) (eR2 : R2 = R1 % 65536) (b0 y0 : Nat) (b1 y1 : Nat) (b2 y2 : Nat) (h0 : (b0 = 16 ∨ b0 = 8 ∨ b0 = 10 ∧ y0 = 0) ∧ y0 ≤ 49 ∧ 2 ≤ b0 ∧ b0 ≤ 16) (h1 : (b1 = 16 ∨ b1 = 8 ∨ b1 = 10 ∧ y1 = 0) ∧ y1 ≤ 49 ∧ 2 ≤ b1 ∧ b1 ≤ 16) (h2 : (b2 = 16 ∨ b2 = 8 ∨ b2 = 10 ∧ y2 = 0) ∧ y2 ≤ 49 ∧ 2 ≤ b2 ∧ b2 ≤ 16) :
    parseV (Lib.join [(wayT b0 P0.toNat y0), (wayT b1 P1.toNat y1), (wayT b2 R2.toNat y2)] [46]) = (n, 0, 0) ∧ endsV (Lib.join [(wayT b0 P0.toNat y0), (wayT b1 P1.toNat y1), (wayT b2 R2.toNat y2)] [46]) = true ∧ parseV (Lib.join [(wayT b0 P0.toNat y0), (wayT b1 P1.toNat y1), (wayT b2 (65536 : Int).toNat y2)] [46]) = (0, 2, 202) ∧ endsV (Lib.join [(wayT b0 P0.toNat y0), (wayT b1 P1.toNat y1), (wayT b2 (65536 : Int).toNat y2)] [46]) = true := by
  have q0 := wayT_number b0 P0.toNat y0 h0.1 (by omega)
  rw [Int.toNat_of_nonneg (by omega)] at q0
  have m0 : (∀ c ∈ wayT b0 P0.toNat y0, c ≠ 46) ∧ wayT b0 P0.toNat y0 ≠ [] := ⟨wayT_no46 _ _ _ h0.2.2.1 h0.2.2.2, num_ne q0⟩
  have q1 := wayT_number b1 P1.toNat y1 h1.1 (by omega)
  rw [Int.toNat_of_nonneg (by omega)] at q1
  have m1 : (∀ c ∈ wayT b1 P1.toNat y1, c ≠ 46) ∧ wayT b1 P1.toNat y1 ≠ [] := ⟨wayT_no46 _ _ _ h1.2.2.1 h1.2.2.2, num_ne q1⟩
  have ql := wayT_number b2 R2.toNat y2 h2.1 (by omega)
  rw [Int.toNat_of_nonneg (by omega)] at ql
  have ml : (∀ c ∈ wayT b2 R2.toNat y2, c ≠ 46) ∧ wayT b2 R2.toNat y2 ≠ [] := ⟨wayT_no46 _ _ _ h2.2.2.1 h2.2.2.2, num_ne ql⟩
  have qg := wayT_number b2 (65536 : Int).toNat y2 h2.1 (by omega)
  rw [Int.toNat_of_nonneg (by omega)] at qg
  have mg : (∀ c ∈ wayT b2 (65536 : Int).toNat y2, c ≠ 46) ∧ wayT b2 (65536 : Int).toNat y2 ≠ [] := ⟨wayT_no46 _ _ _ h2.2.2.1 h2.2.2.2, num_ne qg⟩
  have Hl : ∀ p ∈ [(wayT b0 P0.toNat y0), (wayT b1 P1.toNat y1), (wayT b2 R2.toNat y2)], (∀ c ∈ p, c ≠ 46) ∧ p ≠ [] := by
    intro p hp
    simp only [List.mem_cons, List.not_mem_nil, or_false] at hp
    rcases hp with rfl | rfl | rfl
    · exact m0
    · exact m1
    · exact ml
  have El : ∀ p ∈ [(wayT b0 P0.toNat y0), (wayT b1 P1.toNat y1), (wayT b2 R2.toNat y2)], (numberV p).2.2 = 0 := by
    intro p hp
    simp only [List.mem_cons, List.not_mem_nil, or_false] at hp
    rcases hp with rfl | rfl | rfl
    · rw [q0]
    · rw [q1]
    · rw [ql]
  have Hg : ∀ p ∈ [(wayT b0 P0.toNat y0), (wayT b1 P1.toNat y1), (wayT b2 (65536 : Int).toNat y2)], (∀ c ∈ p, c ≠ 46) ∧ p ≠ [] := by
    intro p hp
    simp only [List.mem_cons, List.not_mem_nil, or_false] at hp
    rcases hp with rfl | rfl | rfl
    · exact m0
    · exact m1
    · exact mg
  have Eg : ∀ p ∈ [(wayT b0 P0.toNat y0), (wayT b1 P1.toNat y1), (wayT b2 (65536 : Int).toNat y2)], (numberV p).2.2 = 0 := by
    intro p hp
    simp only [List.mem_cons, List.not_mem_nil, or_false] at hp
    rcases hp with rfl | rfl | rfl
    · rw [q0]
    · rw [q1]
    · rw [qg]
  refine ⟨?_, ends_join _ (by simp) Hl El, ?_, ends_join _ (by simp) Hg Eg⟩
  · rw [parse_join _ (by simp) Hl, ways_parse3 _ _ _ _ _ _ _ _ _ q0 q1 ql (by omega) (by omega) (by omega)]
    refine congrArg (fun x => (x, (0 : Int), (0 : Int))) ?_
    omega
  · rw [parse_join _ (by simp) Hg, ways_great3 _ _ _ _ _ _ _ _ _ q0 q1 qg (by omega) (by omega) rfl]
theorem sz4 {T0 T1 T2 T3 : ByteArray} (h0 : T0.size ≤ 91) (h1 : T1.size ≤ 91) (h2 : T2.size ≤ 91) (h3 : T3.size ≤ 91) : (⟨#[]⟩ : ByteArray).size + T0.size + (⟨#[46]⟩ : ByteArray).size + T1.size + (⟨#[46]⟩ : ByteArray).size + T2.size + (⟨#[46]⟩ : ByteArray).size + T3.size ≤ 1000 := by
  rw [sz0, szd]
  omega
theorem ways_ok4 (n : Int) (n0 : 0 ≤ n) (n1 : n ≤ 4294967295) (P0 P1 P2 R1 R2 R3 : Int) (eP0 : P0 = n / 16777216) (eP1 : P1 = R1 / 65536) (eP2 : P2 = R2 / 256) (eR1 : R1 = n % 16777216) (eR2 : R2 = R1 % 65536) (eR3 : R3 = R2 % 256) (b0 y0 : Nat) (b1 y1 : Nat) (b2 y2 : Nat) (b3 y3 : Nat) (h0 : (b0 = 16 ∨ b0 = 8 ∨ b0 = 10 ∧ y0 = 0) ∧ y0 ≤ 49 ∧ 2 ≤ b0 ∧ b0 ≤ 16) (h1 : (b1 = 16 ∨ b1 = 8 ∨ b1 = 10 ∧ y1 = 0) ∧ y1 ≤ 49 ∧ 2 ≤ b1 ∧ b1 ≤ 16) (h2 : (b2 = 16 ∨ b2 = 8 ∨ b2 = 10 ∧ y2 = 0) ∧ y2 ≤ 49 ∧ 2 ≤ b2 ∧ b2 ≤ 16) (h3 : (b3 = 16 ∨ b3 = 8 ∨ b3 = 10 ∧ y3 = 0) ∧ y3 ≤ 49 ∧ 2 ≤ b3 ∧ b3 ≤ 16) :
    parseV (Lib.join [(wayT b0 P0.toNat y0), (wayT b1 P1.toNat y1), (wayT b2 P2.toNat y2), (wayT b3 R3.toNat y3)] [46]) = (n, 0, 0) ∧ endsV (Lib.join [(wayT b0 P0.toNat y0), (wayT b1 P1.toNat y1), (wayT b2 P2.toNat y2), (wayT b3 R3.toNat y3)] [46]) = true ∧ parseV (Lib.join [(wayT b0 P0.toNat y0), (wayT b1 P1.toNat y1), (wayT b2 P2.toNat y2), (wayT b3 (256 : Int).toNat y3)] [46]) = (0, 3, 202) ∧ endsV (Lib.join [(wayT b0 P0.toNat y0), (wayT b1 P1.toNat y1), (wayT b2 P2.toNat y2), (wayT b3 (256 : Int).toNat y3)] [46]) = true := by
  have q0 := wayT_number b0 P0.toNat y0 h0.1 (by omega)
  rw [Int.toNat_of_nonneg (by omega)] at q0
  have m0 : (∀ c ∈ wayT b0 P0.toNat y0, c ≠ 46) ∧ wayT b0 P0.toNat y0 ≠ [] := ⟨wayT_no46 _ _ _ h0.2.2.1 h0.2.2.2, num_ne q0⟩
  have q1 := wayT_number b1 P1.toNat y1 h1.1 (by omega)
  rw [Int.toNat_of_nonneg (by omega)] at q1
  have m1 : (∀ c ∈ wayT b1 P1.toNat y1, c ≠ 46) ∧ wayT b1 P1.toNat y1 ≠ [] := ⟨wayT_no46 _ _ _ h1.2.2.1 h1.2.2.2, num_ne q1⟩
  have q2 := wayT_number b2 P2.toNat y2 h2.1 (by omega)
  rw [Int.toNat_of_nonneg (by omega)] at q2
  have m2 : (∀ c ∈ wayT b2 P2.toNat y2, c ≠ 46) ∧ wayT b2 P2.toNat y2 ≠ [] := ⟨wayT_no46 _ _ _ h2.2.2.1 h2.2.2.2, num_ne q2⟩
  have ql := wayT_number b3 R3.toNat y3 h3.1 (by omega)
  rw [Int.toNat_of_nonneg (by omega)] at ql
  have ml : (∀ c ∈ wayT b3 R3.toNat y3, c ≠ 46) ∧ wayT b3 R3.toNat y3 ≠ [] := ⟨wayT_no46 _ _ _ h3.2.2.1 h3.2.2.2, num_ne ql⟩
  have qg := wayT_number b3 (256 : Int).toNat y3 h3.1 (by omega)
  rw [Int.toNat_of_nonneg (by omega)] at qg
  have mg : (∀ c ∈ wayT b3 (256 : Int).toNat y3, c ≠ 46) ∧ wayT b3 (256 : Int).toNat y3 ≠ [] := ⟨wayT_no46 _ _ _ h3.2.2.1 h3.2.2.2, num_ne qg⟩
  have Hl : ∀ p ∈ [(wayT b0 P0.toNat y0), (wayT b1 P1.toNat y1), (wayT b2 P2.toNat y2), (wayT b3 R3.toNat y3)], (∀ c ∈ p, c ≠ 46) ∧ p ≠ [] := by
    intro p hp
    simp only [List.mem_cons, List.not_mem_nil, or_false] at hp
    rcases hp with rfl | rfl | rfl | rfl
    · exact m0
    · exact m1
    · exact m2
    · exact ml
  have El : ∀ p ∈ [(wayT b0 P0.toNat y0), (wayT b1 P1.toNat y1), (wayT b2 P2.toNat y2), (wayT b3 R3.toNat y3)], (numberV p).2.2 = 0 := by
    intro p hp
    simp only [List.mem_cons, List.not_mem_nil, or_false] at hp
    rcases hp with rfl | rfl | rfl | rfl
    · rw [q0]
    · rw [q1]
    · rw [q2]
    · rw [ql]
  have Hg : ∀ p ∈ [(wayT b0 P0.toNat y0), (wayT b1 P1.toNat y1), (wayT b2 P2.toNat y2), (wayT b3 (256 : Int).toNat y3)], (∀ c ∈ p, c ≠ 46) ∧ p ≠ [] := by
    intro p hp
    simp only [List.mem_cons, List.not_mem_nil, or_false] at hp
    rcases hp with rfl | rfl | rfl | rfl
    · exact m0
    · exact m1
    · exact m2
    · exact mg
  have Eg : ∀ p ∈ [(wayT b0 P0.toNat y0), (wayT b1 P1.toNat y1), (wayT b2 P2.toNat y2), (wayT b3 (256 : Int).toNat y3)], (numberV p).2.2 = 0 := by
    intro p hp
    simp only [List.mem_cons, List.not_mem_nil, or_false] at hp
    rcases hp with rfl | rfl | rfl | rfl
    · rw [q0]
    · rw [q1]
    · rw [q2]
    · rw [qg]
  refine ⟨?_, ends_join _ (by simp) Hl El, ?_, ends_join _ (by simp) Hg Eg⟩
  · rw [parse_join _ (by simp) Hl, ways_parse4 _ _ _ _ _ _ _ _ _ _ _ _ q0 q1 q2 ql (by omega) (by omega) (by omega) (by omega)]
    refine congrArg (fun x => (x, (0 : Int), (0 : Int))) ?_
    omega
  · rw [parse_join _ (by simp) Hg, ways_great4 _ _ _ _ _ _ _ _ _ _ _ _ q0 q1 q2 qg (by omega) (by omega) (by omega) rfl]
end Go.Proofs.YtgnahagnmodpdaaDoor

/- FourWays: the walk, 1 parts. -/
namespace Go.Proofs.YtgnahagnmodpdaaDoor
open Go.RowKit Go.Proofs.YtgnahagnmodpdaaDoorW.PrintWords Go.Proofs.YtgnahagnmodpdaaDoor.X Go.IntWalk
set_option linter.unusedVariables false
set_option linter.unusedSimpArgs false

set_option maxHeartbeats 4000000 in
set_option maxRecDepth 100000 in
theorem ways_walk1 (n p x0 x1 x2 x3 z0 z1 z2 z3 : Int) (h0 : 0 ≤ n) (h1 : n ≤ 4294967295) (hz0 : -9223372036854775808 ≤ z0 ∧ z0 ≤ 9223372036854775807) (hz1 : -9223372036854775808 ≤ z1 ∧ z1 ≤ 9223372036854775807) (hz2 : -9223372036854775808 ≤ z2 ∧ z2 ≤ 9223372036854775807) (hz3 : -9223372036854775808 ≤ z3 ∧ z3 ≤ 9223372036854775807) (hk : wrap64 ((wrap64 (p.tmod 4 + 4)).tmod 4 + 1) = 1) (w : World) (hG : GW w) :
    Calls Tryd.prog 3 #[.int .u32 n, .agg #[.int .i64 p, .int .i64 x0, .int .i64 x1, .int .i64 x2, .int .i64 x3, .int .i64 z0, .int .i64 z1, .int .i64 z2, .int .i64 z3]] w fun e w' => e = .returned (.bool true) ∧ Below w.heap.size w w' := by
  have HG := Aside0.mk hG
  have HA := Aside0.mk c_awake
  have HK := Aside0.mk hk
  have HZ0 := Aside0.mk hz0
  clear hG hk hz0 hz1 hz2 hz3
  go_enter Tryd.func3, Tryd.ntmps3
  go_wp2_with fail
  have BK := blk_new w (.cells #[.int .i64 p, .int .i64 x0, .int .i64 x1, .int .i64 x2, .int .i64 x3, .int .i64 z0, .int .i64 z1, .int .i64 z2, .int .i64 z3] 25)
  have B0 := Below.alloc (Below.refl w.heap.size w) (Nat.le_refl _) (.cells #[.int .i64 p, .int .i64 x0, .int .i64 x1, .int .i64 x2, .int .i64 x3, .int .i64 z0, .int .i64 z1, .int .i64 z2, .int .i64 z3] 25)
  refine (HA.out _ (HG.out.keep B0)).mono ?_
  rintro e w1 ⟨rfl, hb1⟩
  have B := below_step B0 hb1
  have K := blk_below BK hb1
  clear BK hb1 B0
  have c0 := (blk_cell K 0).trans rfl
  have hlt : w.heap.size < w1.heap.size := blk_lt K
  go_wp2_with fail
  rw [HK.out]
  clear c0
  refine wp_loop_rounds 2 ?_
  rw [rounds_succ]
  have cx := (blk_cell K 1).trans rfl
  have cz := (blk_cell K 5).trans rfl
  obtain ⟨b0, hb0, l0, u0, v0⟩ := idx3 x0
  go_upto_if 67 with fail
  have BB := Below.alloc (Below.refl w1.heap.size w1) (Nat.le_refl _) (.cells #[.int .u64 10, .int .u64 8, .int .u64 16] 27)
  have B' := below_step B BB
  have K' := blk_below K BB
  clear BB B K cx cz hlt l0 u0 v0
  generalize w1.alloc (.cells #[.int .u64 10, .int .u64 8, .int .u64 16] 27) = W at *
  obtain ⟨Z0, y0, e1, e2, e3, e4, e5, e6, e7⟩ := zed b0 z0 HZ0.out.1 HZ0.out.2
  have HN0 := Aside0.mk (c_number b0 Z0 hb0 e5 e6 y0 e4 e7)
  have HY0 := Aside0.mk (hY_of hb0 e3 e4)
  go_cut [13] (fun s W' => s = .int .i64 Z0 ∧ W' = W)
  case first =>
    rcases hb0 with rfl | rfl | rfl
    · obtain rfl := e2 (by decide)
      clear e1 e2 e3 e4 e5 e6 e7
      go_wp2_with fail
      go_meet
      exact ⟨rfl, rfl⟩
    · obtain rfl := e2 (by decide)
      clear e1 e2 e3 e4 e5 e6 e7
      go_wp2_with fail
      go_meet
      exact ⟨rfl, rfl⟩
    · obtain rfl := e1 rfl
      clear e1 e2 e3 e4 e5 e6 e7
      go_wp2_with fail
      go_meet
      exact ⟨rfl, rfl⟩
  case rest =>
    obtain ⟨rfl, rfl⟩ := hcut
    clear e1 e2 e3 e4 e5 e6 e7 hb0
    go_wp2_with fail
    refine (HN0.out n (by omega) (by omega) _).mono ?_
    rintro e W1 ⟨rfl, hb⟩
    have B := below_step B' hb
    have K := blk_below K' hb
    clear B' K' hb
    have ht0 := wayT_size b0 n.toNat y0 HY0.out.2.2.1 HY0.out.2.1
    obtain ⟨T0, eT0⟩ : ∃ T, T = BA (wayT b0 n.toNat y0) := ⟨_, rfl⟩
    rw [← eT0] at ht0
    rw [← eT0]
    have ET0 := Aside0.mk eT0
    clear eT0
    go_wp2_with fail
    refine wp_loop_rounds 4 ?_
    rw [rounds_succ]
    go_wp2_with fail
    rw [rounds_succ]
    go_wp2_with fail
    rw [rounds_succ]
    go_wp2_with fail
    rw [rounds_succ]
    go_wp2_with fail
    refine (HN0.out 4294967296 (by omega) (by omega) _).mono ?_
    rintro e W2 ⟨rfl, hb⟩
    have B := below_step B hb
    clear hb K
    have htg := wayT_size b0 (4294967296 : Int).toNat y0 HY0.out.2.2.1 HY0.out.2.1
    obtain ⟨Tg, eTg⟩ : ∃ T, T = BA (wayT b0 (4294967296 : Int).toNat y0) := ⟨_, rfl⟩
    rw [← eTg] at htg
    rw [← eTg]
    have ETg := Aside0.mk eTg
    clear eTg
    go_wp2_with fail
    rw [rounds_succ]
    go_wp2_with fail
    obtain ⟨s, es⟩ : ∃ s, s = ((⟨#[]⟩ : ByteArray) ++ T0) := ⟨_, rfl⟩
    obtain ⟨g, eg⟩ : ∃ s, s = ((⟨#[]⟩ : ByteArray) ++ Tg) := ⟨_, rfl⟩
    rw [← es, ← eg]
    have qs : s = BA (Lib.join [(wayT b0 n.toNat y0)] [46]) := by
      rw [es, ET0.out]
      exact ba_join1 _
    have qg : g = BA (Lib.join [(wayT b0 (4294967296 : Int).toNat y0)] [46]) := by
      rw [eg, ETg.out]
      exact ba_join1 _
    have zs : s.size ≤ 1000 := by rw [es]; simp only [ByteArray.size_append]; show _ ≤ _; exact sz1 ht0
    have zg : g.size ≤ 1000 := by rw [eg]; simp only [ByteArray.size_append]; exact sz1 htg
    have F := ways_ok1 n h0 h1   b0 y0 HY0.out
    have HPS := Aside0.mk (c_parse s (by omega))
    have HPG := Aside0.mk (c_parse g (by omega))
    have HES := Aside0.mk (c_ends s (by omega))
    have HEG := Aside0.mk (c_ends g (by omega))
    have ls : s.data.toList = _ := (congrArg (fun z : ByteArray => z.data.toList) qs).trans (ba_list _)
    have lg : g.data.toList = _ := (congrArg (fun z : ByteArray => z.data.toList) qg).trans (ba_list _)
    rw [ls, F.1] at HPS
    rw [ls, F.2.1] at HES
    rw [lg, F.2.2.1] at HPG
    rw [lg, F.2.2.2] at HEG
    clear es eg qs qg zs zg ls lg F
    refine (HPS.out _ (HG.out.keep B)).mono ?_
    rintro e W3 ⟨rfl, hb⟩
    have B := below_step B hb
    clear hb
    go_wp2_with fail
    refine (HPG.out _ (HG.out.keep B)).mono ?_
    rintro e W4 ⟨rfl, hb⟩
    have B := below_step B hb
    clear hb
    go_wp2_with fail
    refine (HES.out _ (HG.out.keep B)).mono ?_
    rintro e W5 ⟨rfl, hb⟩
    have B := below_step B hb
    clear hb
    go_wp2_with fail
    refine (HEG.out _ (HG.out.keep B)).mono ?_
    rintro e W6 ⟨rfl, hb⟩
    have B := below_step B hb
    clear hb
    go_wp2_with fail
    go_ret
    exact ⟨rfl, B⟩

end Go.Proofs.YtgnahagnmodpdaaDoor

/- FourWays: the walk, 2 parts. -/
namespace Go.Proofs.YtgnahagnmodpdaaDoor
open Go.RowKit Go.Proofs.YtgnahagnmodpdaaDoorW.PrintWords Go.Proofs.YtgnahagnmodpdaaDoor.X Go.IntWalk
set_option linter.unusedVariables false
set_option linter.unusedSimpArgs false

set_option maxHeartbeats 4000000 in
set_option maxRecDepth 100000 in
theorem ways_walk2 (n p x0 x1 x2 x3 z0 z1 z2 z3 : Int) (h0 : 0 ≤ n) (h1 : n ≤ 4294967295) (hz0 : -9223372036854775808 ≤ z0 ∧ z0 ≤ 9223372036854775807) (hz1 : -9223372036854775808 ≤ z1 ∧ z1 ≤ 9223372036854775807) (hz2 : -9223372036854775808 ≤ z2 ∧ z2 ≤ 9223372036854775807) (hz3 : -9223372036854775808 ≤ z3 ∧ z3 ≤ 9223372036854775807) (hk : wrap64 ((wrap64 (p.tmod 4 + 4)).tmod 4 + 1) = 2) (w : World) (hG : GW w) :
    Calls Tryd.prog 3 #[.int .u32 n, .agg #[.int .i64 p, .int .i64 x0, .int .i64 x1, .int .i64 x2, .int .i64 x3, .int .i64 z0, .int .i64 z1, .int .i64 z2, .int .i64 z3]] w fun e w' => e = .returned (.bool true) ∧ Below w.heap.size w w' := by
  have HG := Aside0.mk hG
  have HA := Aside0.mk c_awake
  have HK := Aside0.mk hk
  have HZ0 := Aside0.mk hz0
  have HZ1 := Aside0.mk hz1
  clear hG hk hz0 hz1 hz2 hz3
  go_enter Tryd.func3, Tryd.ntmps3
  go_wp2_with fail
  have BK := blk_new w (.cells #[.int .i64 p, .int .i64 x0, .int .i64 x1, .int .i64 x2, .int .i64 x3, .int .i64 z0, .int .i64 z1, .int .i64 z2, .int .i64 z3] 25)
  have B0 := Below.alloc (Below.refl w.heap.size w) (Nat.le_refl _) (.cells #[.int .i64 p, .int .i64 x0, .int .i64 x1, .int .i64 x2, .int .i64 x3, .int .i64 z0, .int .i64 z1, .int .i64 z2, .int .i64 z3] 25)
  refine (HA.out _ (HG.out.keep B0)).mono ?_
  rintro e w1 ⟨rfl, hb1⟩
  have B := below_step B0 hb1
  have K := blk_below BK hb1
  clear BK hb1 B0
  have c0 := (blk_cell K 0).trans rfl
  have hlt : w.heap.size < w1.heap.size := blk_lt K
  go_wp2_with fail
  rw [HK.out]
  clear c0
  refine wp_loop_rounds 3 ?_
  rw [rounds_succ]
  have cx := (blk_cell K 1).trans rfl
  have cz := (blk_cell K 5).trans rfl
  obtain ⟨b0, hb0, l0, u0, v0⟩ := idx3 x0
  go_wp2_with fail
  refine wp_loop_rounds 4 ?_
  rw [rounds_succ]
  go_wp2_with fail
  rw [rounds_succ]
  go_wp2_with fail
  rw [rounds_succ]
  go_wp2_with fail
  rw [rounds_succ]
  go_upto_if 67 with fail
  have BB := Below.alloc (Below.refl w1.heap.size w1) (Nat.le_refl _) (.cells #[.int .u64 10, .int .u64 8, .int .u64 16] 27)
  have B' := below_step B BB
  have K' := blk_below K BB
  clear BB B K cx cz hlt l0 u0 v0
  generalize w1.alloc (.cells #[.int .u64 10, .int .u64 8, .int .u64 16] 27) = W at *
  obtain ⟨Z0, y0, e1, e2, e3, e4, e5, e6, e7⟩ := zed b0 z0 HZ0.out.1 HZ0.out.2
  have HN0 := Aside0.mk (c_number b0 Z0 hb0 e5 e6 y0 e4 e7)
  have HY0 := Aside0.mk (hY_of hb0 e3 e4)
  go_cut [13] (fun s W' => s = .int .i64 Z0 ∧ W' = W)
  case first =>
    rcases hb0 with rfl | rfl | rfl
    · obtain rfl := e2 (by decide)
      clear e1 e2 e3 e4 e5 e6 e7
      go_wp2_with fail
      go_meet
      exact ⟨rfl, rfl⟩
    · obtain rfl := e2 (by decide)
      clear e1 e2 e3 e4 e5 e6 e7
      go_wp2_with fail
      go_meet
      exact ⟨rfl, rfl⟩
    · obtain rfl := e1 rfl
      clear e1 e2 e3 e4 e5 e6 e7
      go_wp2_with fail
      go_meet
      exact ⟨rfl, rfl⟩
  case rest =>
    obtain ⟨rfl, rfl⟩ := hcut
    clear e1 e2 e3 e4 e5 e6 e7 hb0
    go_wp2_with fail
    have hP0 : 0 ≤ n / 16777216 ∧ n / 16777216 ≤ 255 := by omega
    have hR1 : 0 ≤ n % 16777216 ∧ n % 16777216 ≤ 16777215 := by omega
    obtain ⟨P0, eP0⟩ : ∃ P, P = n / 16777216 := ⟨_, rfl⟩
    obtain ⟨R1, eR1⟩ : ∃ P, P = n % 16777216 := ⟨_, rfl⟩
    rw [← eP0] at hP0
    rw [← eR1] at hR1
    rw [← eP0, ← eR1]
    have EP0 := Aside0.mk eP0
    have ER1 := Aside0.mk eR1
    clear eP0 eR1
    refine (HN0.out P0 hP0.1 (by omega) _).mono ?_
    rintro e W1 ⟨rfl, hb⟩
    have B := below_step B' hb
    have K := blk_below K' hb
    clear B' K' hb
    have ht0 := wayT_size b0 P0.toNat y0 HY0.out.2.2.1 HY0.out.2.1
    obtain ⟨T0, eT0⟩ : ∃ T, T = BA (wayT b0 P0.toNat y0) := ⟨_, rfl⟩
    rw [← eT0] at ht0
    rw [← eT0]
    have ET0 := Aside0.mk eT0
    clear eT0
    go_wp2_with fail
    refine (HN0.out P0 hP0.1 (by omega) _).mono ?_
    rintro e W2 ⟨rfl, hb⟩
    have B := below_step B hb
    have K := blk_below K hb
    clear hb
    rw [← ET0.out]
    go_wp2_with fail
    rw [rounds_succ]
    have cx := (blk_cell K 2).trans rfl
    have cz := (blk_cell K 6).trans rfl
    have hlt : w.heap.size < W2.heap.size := blk_lt K
    obtain ⟨b1, hb1, l1, u1, v1⟩ := idx3 x1
    go_upto_if 67 with fail
    have BB := Below.alloc (Below.refl W2.heap.size W2) (Nat.le_refl _) (.cells #[.int .u64 10, .int .u64 8, .int .u64 16] 27)
    have B' := below_step B BB
    have K' := blk_below K BB
    clear BB B K cx cz hlt l1 u1 v1
    generalize W2.alloc (.cells #[.int .u64 10, .int .u64 8, .int .u64 16] 27) = W at *
    obtain ⟨Z1, y1, e1, e2, e3, e4, e5, e6, e7⟩ := zed b1 z1 HZ1.out.1 HZ1.out.2
    have HN1 := Aside0.mk (c_number b1 Z1 hb1 e5 e6 y1 e4 e7)
    have HY1 := Aside0.mk (hY_of hb1 e3 e4)
    go_cut [13] (fun s W' => s = .int .i64 Z1 ∧ W' = W)
    case first =>
      rcases hb1 with rfl | rfl | rfl
      · obtain rfl := e2 (by decide)
        clear e1 e2 e3 e4 e5 e6 e7
        go_wp2_with fail
        go_meet
        exact ⟨rfl, rfl⟩
      · obtain rfl := e2 (by decide)
        clear e1 e2 e3 e4 e5 e6 e7
        go_wp2_with fail
        go_meet
        exact ⟨rfl, rfl⟩
      · obtain rfl := e1 rfl
        clear e1 e2 e3 e4 e5 e6 e7
        go_wp2_with fail
        go_meet
        exact ⟨rfl, rfl⟩
    case rest =>
      obtain ⟨rfl, rfl⟩ := hcut
      clear e1 e2 e3 e4 e5 e6 e7 hb1
      go_wp2_with fail
      refine (HN1.out R1 (by omega) (by omega) _).mono ?_
      rintro e W1 ⟨rfl, hb⟩
      have B := below_step B' hb
      have K := blk_below K' hb
      clear B' K' hb
      have ht1 := wayT_size b1 R1.toNat y1 HY1.out.2.2.1 HY1.out.2.1
      obtain ⟨T1, eT1⟩ : ∃ T, T = BA (wayT b1 R1.toNat y1) := ⟨_, rfl⟩
      rw [← eT1] at ht1
      rw [← eT1]
      have ET1 := Aside0.mk eT1
      clear eT1
      go_wp2_with fail
      refine wp_loop_rounds 3 ?_
      rw [rounds_succ]
      go_wp2_with fail
      rw [rounds_succ]
      go_wp2_with fail
      rw [rounds_succ]
      go_wp2_with fail
      refine (HN1.out 16777216 (by omega) (by omega) _).mono ?_
      rintro e W2 ⟨rfl, hb⟩
      have B := below_step B hb
      clear hb K
      have htg := wayT_size b1 (16777216 : Int).toNat y1 HY1.out.2.2.1 HY1.out.2.1
      obtain ⟨Tg, eTg⟩ : ∃ T, T = BA (wayT b1 (16777216 : Int).toNat y1) := ⟨_, rfl⟩
      rw [← eTg] at htg
      rw [← eTg]
      have ETg := Aside0.mk eTg
      clear eTg
      go_wp2_with fail
      rw [rounds_succ]
      go_wp2_with fail
      obtain ⟨s, es⟩ : ∃ s, s = ((((⟨#[]⟩ : ByteArray) ++ T0) ++ (⟨#[46]⟩ : ByteArray)) ++ T1) := ⟨_, rfl⟩
      obtain ⟨g, eg⟩ : ∃ s, s = ((((⟨#[]⟩ : ByteArray) ++ T0) ++ (⟨#[46]⟩ : ByteArray)) ++ Tg) := ⟨_, rfl⟩
      rw [← es, ← eg]
      have qs : s = BA (Lib.join [(wayT b0 P0.toNat y0), (wayT b1 R1.toNat y1)] [46]) := by
        rw [es, ET0.out, ET1.out]
        exact ba_join2 _ _
      have qg : g = BA (Lib.join [(wayT b0 P0.toNat y0), (wayT b1 (16777216 : Int).toNat y1)] [46]) := by
        rw [eg, ET0.out, ETg.out]
        exact ba_join2 _ _
      have zs : s.size ≤ 1000 := by rw [es]; simp only [ByteArray.size_append]; show _ ≤ _; exact sz2 ht0 ht1
      have zg : g.size ≤ 1000 := by rw [eg]; simp only [ByteArray.size_append]; exact sz2 ht0 htg
      have F := ways_ok2 n h0 h1 P0 R1 EP0.out ER1.out b0 y0 b1 y1 HY0.out HY1.out
      have HPS := Aside0.mk (c_parse s (by omega))
      have HPG := Aside0.mk (c_parse g (by omega))
      have HES := Aside0.mk (c_ends s (by omega))
      have HEG := Aside0.mk (c_ends g (by omega))
      have ls : s.data.toList = _ := (congrArg (fun z : ByteArray => z.data.toList) qs).trans (ba_list _)
      have lg : g.data.toList = _ := (congrArg (fun z : ByteArray => z.data.toList) qg).trans (ba_list _)
      rw [ls, F.1] at HPS
      rw [ls, F.2.1] at HES
      rw [lg, F.2.2.1] at HPG
      rw [lg, F.2.2.2] at HEG
      clear es eg qs qg zs zg ls lg F
      refine (HPS.out _ (HG.out.keep B)).mono ?_
      rintro e W3 ⟨rfl, hb⟩
      have B := below_step B hb
      clear hb
      go_wp2_with fail
      refine (HPG.out _ (HG.out.keep B)).mono ?_
      rintro e W4 ⟨rfl, hb⟩
      have B := below_step B hb
      clear hb
      go_wp2_with fail
      refine (HES.out _ (HG.out.keep B)).mono ?_
      rintro e W5 ⟨rfl, hb⟩
      have B := below_step B hb
      clear hb
      go_wp2_with fail
      refine (HEG.out _ (HG.out.keep B)).mono ?_
      rintro e W6 ⟨rfl, hb⟩
      have B := below_step B hb
      clear hb
      go_wp2_with fail
      go_ret
      exact ⟨rfl, B⟩

end Go.Proofs.YtgnahagnmodpdaaDoor

/- FourWays: the walk, 3 parts. -/
namespace Go.Proofs.YtgnahagnmodpdaaDoor
open Go.RowKit Go.Proofs.YtgnahagnmodpdaaDoorW.PrintWords Go.Proofs.YtgnahagnmodpdaaDoor.X Go.IntWalk
set_option linter.unusedVariables false
set_option linter.unusedSimpArgs false

set_option maxHeartbeats 4000000 in
set_option maxRecDepth 100000 in
theorem ways_walk3 (n p x0 x1 x2 x3 z0 z1 z2 z3 : Int) (h0 : 0 ≤ n) (h1 : n ≤ 4294967295) (hz0 : -9223372036854775808 ≤ z0 ∧ z0 ≤ 9223372036854775807) (hz1 : -9223372036854775808 ≤ z1 ∧ z1 ≤ 9223372036854775807) (hz2 : -9223372036854775808 ≤ z2 ∧ z2 ≤ 9223372036854775807) (hz3 : -9223372036854775808 ≤ z3 ∧ z3 ≤ 9223372036854775807) (hk : wrap64 ((wrap64 (p.tmod 4 + 4)).tmod 4 + 1) = 3) (w : World) (hG : GW w) :
    Calls Tryd.prog 3 #[.int .u32 n, .agg #[.int .i64 p, .int .i64 x0, .int .i64 x1, .int .i64 x2, .int .i64 x3, .int .i64 z0, .int .i64 z1, .int .i64 z2, .int .i64 z3]] w fun e w' => e = .returned (.bool true) ∧ Below w.heap.size w w' := by
  have HG := Aside0.mk hG
  have HA := Aside0.mk c_awake
  have HK := Aside0.mk hk
  have HZ0 := Aside0.mk hz0
  have HZ1 := Aside0.mk hz1
  have HZ2 := Aside0.mk hz2
  clear hG hk hz0 hz1 hz2 hz3
  go_enter Tryd.func3, Tryd.ntmps3
  go_wp2_with fail
  have BK := blk_new w (.cells #[.int .i64 p, .int .i64 x0, .int .i64 x1, .int .i64 x2, .int .i64 x3, .int .i64 z0, .int .i64 z1, .int .i64 z2, .int .i64 z3] 25)
  have B0 := Below.alloc (Below.refl w.heap.size w) (Nat.le_refl _) (.cells #[.int .i64 p, .int .i64 x0, .int .i64 x1, .int .i64 x2, .int .i64 x3, .int .i64 z0, .int .i64 z1, .int .i64 z2, .int .i64 z3] 25)
  refine (HA.out _ (HG.out.keep B0)).mono ?_
  rintro e w1 ⟨rfl, hb1⟩
  have B := below_step B0 hb1
  have K := blk_below BK hb1
  clear BK hb1 B0
  have c0 := (blk_cell K 0).trans rfl
  have hlt : w.heap.size < w1.heap.size := blk_lt K
  go_wp2_with fail
  rw [HK.out]
  clear c0
  refine wp_loop_rounds 4 ?_
  rw [rounds_succ]
  have cx := (blk_cell K 1).trans rfl
  have cz := (blk_cell K 5).trans rfl
  obtain ⟨b0, hb0, l0, u0, v0⟩ := idx3 x0
  go_wp2_with fail
  refine wp_loop_rounds 4 ?_
  rw [rounds_succ]
  go_wp2_with fail
  rw [rounds_succ]
  go_wp2_with fail
  rw [rounds_succ]
  go_wp2_with fail
  rw [rounds_succ]
  go_upto_if 67 with fail
  have BB := Below.alloc (Below.refl w1.heap.size w1) (Nat.le_refl _) (.cells #[.int .u64 10, .int .u64 8, .int .u64 16] 27)
  have B' := below_step B BB
  have K' := blk_below K BB
  clear BB B K cx cz hlt l0 u0 v0
  generalize w1.alloc (.cells #[.int .u64 10, .int .u64 8, .int .u64 16] 27) = W at *
  obtain ⟨Z0, y0, e1, e2, e3, e4, e5, e6, e7⟩ := zed b0 z0 HZ0.out.1 HZ0.out.2
  have HN0 := Aside0.mk (c_number b0 Z0 hb0 e5 e6 y0 e4 e7)
  have HY0 := Aside0.mk (hY_of hb0 e3 e4)
  go_cut [13] (fun s W' => s = .int .i64 Z0 ∧ W' = W)
  case first =>
    rcases hb0 with rfl | rfl | rfl
    · obtain rfl := e2 (by decide)
      clear e1 e2 e3 e4 e5 e6 e7
      go_wp2_with fail
      go_meet
      exact ⟨rfl, rfl⟩
    · obtain rfl := e2 (by decide)
      clear e1 e2 e3 e4 e5 e6 e7
      go_wp2_with fail
      go_meet
      exact ⟨rfl, rfl⟩
    · obtain rfl := e1 rfl
      clear e1 e2 e3 e4 e5 e6 e7
      go_wp2_with fail
      go_meet
      exact ⟨rfl, rfl⟩
  case rest =>
    obtain ⟨rfl, rfl⟩ := hcut
    clear e1 e2 e3 e4 e5 e6 e7 hb0
    go_wp2_with fail
    have hP0 : 0 ≤ n / 16777216 ∧ n / 16777216 ≤ 255 := by omega
    have hR1 : 0 ≤ n % 16777216 ∧ n % 16777216 ≤ 16777215 := by omega
    obtain ⟨P0, eP0⟩ : ∃ P, P = n / 16777216 := ⟨_, rfl⟩
    obtain ⟨R1, eR1⟩ : ∃ P, P = n % 16777216 := ⟨_, rfl⟩
    rw [← eP0] at hP0
    rw [← eR1] at hR1
    rw [← eP0, ← eR1]
    have EP0 := Aside0.mk eP0
    have ER1 := Aside0.mk eR1
    clear eP0 eR1
    refine (HN0.out P0 hP0.1 (by omega) _).mono ?_
    rintro e W1 ⟨rfl, hb⟩
    have B := below_step B' hb
    have K := blk_below K' hb
    clear B' K' hb
    have ht0 := wayT_size b0 P0.toNat y0 HY0.out.2.2.1 HY0.out.2.1
    obtain ⟨T0, eT0⟩ : ∃ T, T = BA (wayT b0 P0.toNat y0) := ⟨_, rfl⟩
    rw [← eT0] at ht0
    rw [← eT0]
    have ET0 := Aside0.mk eT0
    clear eT0
    go_wp2_with fail
    refine (HN0.out P0 hP0.1 (by omega) _).mono ?_
    rintro e W2 ⟨rfl, hb⟩
    have B := below_step B hb
    have K := blk_below K hb
    clear hb
    rw [← ET0.out]
    go_wp2_with fail
    rw [rounds_succ]
    have cx := (blk_cell K 2).trans rfl
    have cz := (blk_cell K 6).trans rfl
    have hlt : w.heap.size < W2.heap.size := blk_lt K
    obtain ⟨b1, hb1, l1, u1, v1⟩ := idx3 x1
    go_wp2_with fail
    refine wp_loop_rounds 3 ?_
    rw [rounds_succ]
    go_wp2_with fail
    rw [rounds_succ]
    go_wp2_with fail
    rw [rounds_succ]
    go_upto_if 67 with fail
    have BB := Below.alloc (Below.refl W2.heap.size W2) (Nat.le_refl _) (.cells #[.int .u64 10, .int .u64 8, .int .u64 16] 27)
    have B' := below_step B BB
    have K' := blk_below K BB
    clear BB B K cx cz hlt l1 u1 v1
    generalize W2.alloc (.cells #[.int .u64 10, .int .u64 8, .int .u64 16] 27) = W at *
    obtain ⟨Z1, y1, e1, e2, e3, e4, e5, e6, e7⟩ := zed b1 z1 HZ1.out.1 HZ1.out.2
    have HN1 := Aside0.mk (c_number b1 Z1 hb1 e5 e6 y1 e4 e7)
    have HY1 := Aside0.mk (hY_of hb1 e3 e4)
    go_cut [13] (fun s W' => s = .int .i64 Z1 ∧ W' = W)
    case first =>
      rcases hb1 with rfl | rfl | rfl
      · obtain rfl := e2 (by decide)
        clear e1 e2 e3 e4 e5 e6 e7
        go_wp2_with fail
        go_meet
        exact ⟨rfl, rfl⟩
      · obtain rfl := e2 (by decide)
        clear e1 e2 e3 e4 e5 e6 e7
        go_wp2_with fail
        go_meet
        exact ⟨rfl, rfl⟩
      · obtain rfl := e1 rfl
        clear e1 e2 e3 e4 e5 e6 e7
        go_wp2_with fail
        go_meet
        exact ⟨rfl, rfl⟩
    case rest =>
      obtain ⟨rfl, rfl⟩ := hcut
      clear e1 e2 e3 e4 e5 e6 e7 hb1
      go_wp2_with fail
      have hP1 : 0 ≤ R1 / 65536 ∧ R1 / 65536 ≤ 255 := by omega
      have hR2 : 0 ≤ R1 % 65536 ∧ R1 % 65536 ≤ 65535 := by omega
      obtain ⟨P1, eP1⟩ : ∃ P, P = R1 / 65536 := ⟨_, rfl⟩
      obtain ⟨R2, eR2⟩ : ∃ P, P = R1 % 65536 := ⟨_, rfl⟩
      rw [← eP1] at hP1
      rw [← eR2] at hR2
      rw [← eP1, ← eR2]
      have EP1 := Aside0.mk eP1
      have ER2 := Aside0.mk eR2
      clear eP1 eR2
      refine (HN1.out P1 hP1.1 (by omega) _).mono ?_
      rintro e W1 ⟨rfl, hb⟩
      have B := below_step B' hb
      have K := blk_below K' hb
      clear B' K' hb
      have ht1 := wayT_size b1 P1.toNat y1 HY1.out.2.2.1 HY1.out.2.1
      obtain ⟨T1, eT1⟩ : ∃ T, T = BA (wayT b1 P1.toNat y1) := ⟨_, rfl⟩
      rw [← eT1] at ht1
      rw [← eT1]
      have ET1 := Aside0.mk eT1
      clear eT1
      go_wp2_with fail
      refine (HN1.out P1 hP1.1 (by omega) _).mono ?_
      rintro e W2 ⟨rfl, hb⟩
      have B := below_step B hb
      have K := blk_below K hb
      clear hb
      rw [← ET1.out]
      go_wp2_with fail
      rw [rounds_succ]
      have cx := (blk_cell K 3).trans rfl
      have cz := (blk_cell K 7).trans rfl
      have hlt : w.heap.size < W2.heap.size := blk_lt K
      obtain ⟨b2, hb2, l2, u2, v2⟩ := idx3 x2
      go_upto_if 67 with fail
      have BB := Below.alloc (Below.refl W2.heap.size W2) (Nat.le_refl _) (.cells #[.int .u64 10, .int .u64 8, .int .u64 16] 27)
      have B' := below_step B BB
      have K' := blk_below K BB
      clear BB B K cx cz hlt l2 u2 v2
      generalize W2.alloc (.cells #[.int .u64 10, .int .u64 8, .int .u64 16] 27) = W at *
      obtain ⟨Z2, y2, e1, e2, e3, e4, e5, e6, e7⟩ := zed b2 z2 HZ2.out.1 HZ2.out.2
      have HN2 := Aside0.mk (c_number b2 Z2 hb2 e5 e6 y2 e4 e7)
      have HY2 := Aside0.mk (hY_of hb2 e3 e4)
      go_cut [13] (fun s W' => s = .int .i64 Z2 ∧ W' = W)
      case first =>
        rcases hb2 with rfl | rfl | rfl
        · obtain rfl := e2 (by decide)
          clear e1 e2 e3 e4 e5 e6 e7
          go_wp2_with fail
          go_meet
          exact ⟨rfl, rfl⟩
        · obtain rfl := e2 (by decide)
          clear e1 e2 e3 e4 e5 e6 e7
          go_wp2_with fail
          go_meet
          exact ⟨rfl, rfl⟩
        · obtain rfl := e1 rfl
          clear e1 e2 e3 e4 e5 e6 e7
          go_wp2_with fail
          go_meet
          exact ⟨rfl, rfl⟩
      case rest =>
        obtain ⟨rfl, rfl⟩ := hcut
        clear e1 e2 e3 e4 e5 e6 e7 hb2
        go_wp2_with fail
        refine (HN2.out R2 (by omega) (by omega) _).mono ?_
        rintro e W1 ⟨rfl, hb⟩
        have B := below_step B' hb
        have K := blk_below K' hb
        clear B' K' hb
        have ht2 := wayT_size b2 R2.toNat y2 HY2.out.2.2.1 HY2.out.2.1
        obtain ⟨T2, eT2⟩ : ∃ T, T = BA (wayT b2 R2.toNat y2) := ⟨_, rfl⟩
        rw [← eT2] at ht2
        rw [← eT2]
        have ET2 := Aside0.mk eT2
        clear eT2
        go_wp2_with fail
        refine wp_loop_rounds 2 ?_
        rw [rounds_succ]
        go_wp2_with fail
        rw [rounds_succ]
        go_wp2_with fail
        refine (HN2.out 65536 (by omega) (by omega) _).mono ?_
        rintro e W2 ⟨rfl, hb⟩
        have B := below_step B hb
        clear hb K
        have htg := wayT_size b2 (65536 : Int).toNat y2 HY2.out.2.2.1 HY2.out.2.1
        obtain ⟨Tg, eTg⟩ : ∃ T, T = BA (wayT b2 (65536 : Int).toNat y2) := ⟨_, rfl⟩
        rw [← eTg] at htg
        rw [← eTg]
        have ETg := Aside0.mk eTg
        clear eTg
        go_wp2_with fail
        rw [rounds_succ]
        go_wp2_with fail
        obtain ⟨s, es⟩ : ∃ s, s = ((((((⟨#[]⟩ : ByteArray) ++ T0) ++ (⟨#[46]⟩ : ByteArray)) ++ T1) ++ (⟨#[46]⟩ : ByteArray)) ++ T2) := ⟨_, rfl⟩
        obtain ⟨g, eg⟩ : ∃ s, s = ((((((⟨#[]⟩ : ByteArray) ++ T0) ++ (⟨#[46]⟩ : ByteArray)) ++ T1) ++ (⟨#[46]⟩ : ByteArray)) ++ Tg) := ⟨_, rfl⟩
        rw [← es, ← eg]
        have qs : s = BA (Lib.join [(wayT b0 P0.toNat y0), (wayT b1 P1.toNat y1), (wayT b2 R2.toNat y2)] [46]) := by
          rw [es, ET0.out, ET1.out, ET2.out]
          exact ba_join3 _ _ _
        have qg : g = BA (Lib.join [(wayT b0 P0.toNat y0), (wayT b1 P1.toNat y1), (wayT b2 (65536 : Int).toNat y2)] [46]) := by
          rw [eg, ET0.out, ET1.out, ETg.out]
          exact ba_join3 _ _ _
        have zs : s.size ≤ 1000 := by rw [es]; simp only [ByteArray.size_append]; show _ ≤ _; exact sz3 ht0 ht1 ht2
        have zg : g.size ≤ 1000 := by rw [eg]; simp only [ByteArray.size_append]; exact sz3 ht0 ht1 htg
        have F := ways_ok3 n h0 h1 P0 P1 R1 R2 EP0.out EP1.out ER1.out ER2.out b0 y0 b1 y1 b2 y2 HY0.out HY1.out HY2.out
        have HPS := Aside0.mk (c_parse s (by omega))
        have HPG := Aside0.mk (c_parse g (by omega))
        have HES := Aside0.mk (c_ends s (by omega))
        have HEG := Aside0.mk (c_ends g (by omega))
        have ls : s.data.toList = _ := (congrArg (fun z : ByteArray => z.data.toList) qs).trans (ba_list _)
        have lg : g.data.toList = _ := (congrArg (fun z : ByteArray => z.data.toList) qg).trans (ba_list _)
        rw [ls, F.1] at HPS
        rw [ls, F.2.1] at HES
        rw [lg, F.2.2.1] at HPG
        rw [lg, F.2.2.2] at HEG
        clear es eg qs qg zs zg ls lg F
        refine (HPS.out _ (HG.out.keep B)).mono ?_
        rintro e W3 ⟨rfl, hb⟩
        have B := below_step B hb
        clear hb
        go_wp2_with fail
        refine (HPG.out _ (HG.out.keep B)).mono ?_
        rintro e W4 ⟨rfl, hb⟩
        have B := below_step B hb
        clear hb
        go_wp2_with fail
        refine (HES.out _ (HG.out.keep B)).mono ?_
        rintro e W5 ⟨rfl, hb⟩
        have B := below_step B hb
        clear hb
        go_wp2_with fail
        refine (HEG.out _ (HG.out.keep B)).mono ?_
        rintro e W6 ⟨rfl, hb⟩
        have B := below_step B hb
        clear hb
        go_wp2_with fail
        go_ret
        exact ⟨rfl, B⟩

end Go.Proofs.YtgnahagnmodpdaaDoor

/- FourWays: the walk, 4 parts. -/
namespace Go.Proofs.YtgnahagnmodpdaaDoor
open Go.RowKit Go.Proofs.YtgnahagnmodpdaaDoorW.PrintWords Go.Proofs.YtgnahagnmodpdaaDoor.X Go.IntWalk
set_option linter.unusedVariables false
set_option linter.unusedSimpArgs false

set_option maxHeartbeats 4000000 in
set_option maxRecDepth 100000 in
theorem ways_walk4 (n p x0 x1 x2 x3 z0 z1 z2 z3 : Int) (h0 : 0 ≤ n) (h1 : n ≤ 4294967295) (hz0 : -9223372036854775808 ≤ z0 ∧ z0 ≤ 9223372036854775807) (hz1 : -9223372036854775808 ≤ z1 ∧ z1 ≤ 9223372036854775807) (hz2 : -9223372036854775808 ≤ z2 ∧ z2 ≤ 9223372036854775807) (hz3 : -9223372036854775808 ≤ z3 ∧ z3 ≤ 9223372036854775807) (hk : wrap64 ((wrap64 (p.tmod 4 + 4)).tmod 4 + 1) = 4) (w : World) (hG : GW w) :
    Calls Tryd.prog 3 #[.int .u32 n, .agg #[.int .i64 p, .int .i64 x0, .int .i64 x1, .int .i64 x2, .int .i64 x3, .int .i64 z0, .int .i64 z1, .int .i64 z2, .int .i64 z3]] w fun e w' => e = .returned (.bool true) ∧ Below w.heap.size w w' := by
  have HG := Aside0.mk hG
  have HA := Aside0.mk c_awake
  have HK := Aside0.mk hk
  have HZ0 := Aside0.mk hz0
  have HZ1 := Aside0.mk hz1
  have HZ2 := Aside0.mk hz2
  have HZ3 := Aside0.mk hz3
  clear hG hk hz0 hz1 hz2 hz3
  go_enter Tryd.func3, Tryd.ntmps3
  go_wp2_with fail
  have BK := blk_new w (.cells #[.int .i64 p, .int .i64 x0, .int .i64 x1, .int .i64 x2, .int .i64 x3, .int .i64 z0, .int .i64 z1, .int .i64 z2, .int .i64 z3] 25)
  have B0 := Below.alloc (Below.refl w.heap.size w) (Nat.le_refl _) (.cells #[.int .i64 p, .int .i64 x0, .int .i64 x1, .int .i64 x2, .int .i64 x3, .int .i64 z0, .int .i64 z1, .int .i64 z2, .int .i64 z3] 25)
  refine (HA.out _ (HG.out.keep B0)).mono ?_
  rintro e w1 ⟨rfl, hb1⟩
  have B := below_step B0 hb1
  have K := blk_below BK hb1
  clear BK hb1 B0
  have c0 := (blk_cell K 0).trans rfl
  have hlt : w.heap.size < w1.heap.size := blk_lt K
  go_wp2_with fail
  rw [HK.out]
  clear c0
  refine wp_loop_rounds 5 ?_
  rw [rounds_succ]
  have cx := (blk_cell K 1).trans rfl
  have cz := (blk_cell K 5).trans rfl
  obtain ⟨b0, hb0, l0, u0, v0⟩ := idx3 x0
  go_wp2_with fail
  refine wp_loop_rounds 4 ?_
  rw [rounds_succ]
  go_wp2_with fail
  rw [rounds_succ]
  go_wp2_with fail
  rw [rounds_succ]
  go_wp2_with fail
  rw [rounds_succ]
  go_upto_if 67 with fail
  have BB := Below.alloc (Below.refl w1.heap.size w1) (Nat.le_refl _) (.cells #[.int .u64 10, .int .u64 8, .int .u64 16] 27)
  have B' := below_step B BB
  have K' := blk_below K BB
  clear BB B K cx cz hlt l0 u0 v0
  generalize w1.alloc (.cells #[.int .u64 10, .int .u64 8, .int .u64 16] 27) = W at *
  obtain ⟨Z0, y0, e1, e2, e3, e4, e5, e6, e7⟩ := zed b0 z0 HZ0.out.1 HZ0.out.2
  have HN0 := Aside0.mk (c_number b0 Z0 hb0 e5 e6 y0 e4 e7)
  have HY0 := Aside0.mk (hY_of hb0 e3 e4)
  go_cut [13] (fun s W' => s = .int .i64 Z0 ∧ W' = W)
  case first =>
    rcases hb0 with rfl | rfl | rfl
    · obtain rfl := e2 (by decide)
      clear e1 e2 e3 e4 e5 e6 e7
      go_wp2_with fail
      go_meet
      exact ⟨rfl, rfl⟩
    · obtain rfl := e2 (by decide)
      clear e1 e2 e3 e4 e5 e6 e7
      go_wp2_with fail
      go_meet
      exact ⟨rfl, rfl⟩
    · obtain rfl := e1 rfl
      clear e1 e2 e3 e4 e5 e6 e7
      go_wp2_with fail
      go_meet
      exact ⟨rfl, rfl⟩
  case rest =>
    obtain ⟨rfl, rfl⟩ := hcut
    clear e1 e2 e3 e4 e5 e6 e7 hb0
    go_wp2_with fail
    have hP0 : 0 ≤ n / 16777216 ∧ n / 16777216 ≤ 255 := by omega
    have hR1 : 0 ≤ n % 16777216 ∧ n % 16777216 ≤ 16777215 := by omega
    obtain ⟨P0, eP0⟩ : ∃ P, P = n / 16777216 := ⟨_, rfl⟩
    obtain ⟨R1, eR1⟩ : ∃ P, P = n % 16777216 := ⟨_, rfl⟩
    rw [← eP0] at hP0
    rw [← eR1] at hR1
    rw [← eP0, ← eR1]
    have EP0 := Aside0.mk eP0
    have ER1 := Aside0.mk eR1
    clear eP0 eR1
    refine (HN0.out P0 hP0.1 (by omega) _).mono ?_
    rintro e W1 ⟨rfl, hb⟩
    have B := below_step B' hb
    have K := blk_below K' hb
    clear B' K' hb
    have ht0 := wayT_size b0 P0.toNat y0 HY0.out.2.2.1 HY0.out.2.1
    obtain ⟨T0, eT0⟩ : ∃ T, T = BA (wayT b0 P0.toNat y0) := ⟨_, rfl⟩
    rw [← eT0] at ht0
    rw [← eT0]
    have ET0 := Aside0.mk eT0
    clear eT0
    go_wp2_with fail
    refine (HN0.out P0 hP0.1 (by omega) _).mono ?_
    rintro e W2 ⟨rfl, hb⟩
    have B := below_step B hb
    have K := blk_below K hb
    clear hb
    rw [← ET0.out]
    go_wp2_with fail
    rw [rounds_succ]
    have cx := (blk_cell K 2).trans rfl
    have cz := (blk_cell K 6).trans rfl
    have hlt : w.heap.size < W2.heap.size := blk_lt K
    obtain ⟨b1, hb1, l1, u1, v1⟩ := idx3 x1
    go_wp2_with fail
    refine wp_loop_rounds 3 ?_
    rw [rounds_succ]
    go_wp2_with fail
    rw [rounds_succ]
    go_wp2_with fail
    rw [rounds_succ]
    go_upto_if 67 with fail
    have BB := Below.alloc (Below.refl W2.heap.size W2) (Nat.le_refl _) (.cells #[.int .u64 10, .int .u64 8, .int .u64 16] 27)
    have B' := below_step B BB
    have K' := blk_below K BB
    clear BB B K cx cz hlt l1 u1 v1
    generalize W2.alloc (.cells #[.int .u64 10, .int .u64 8, .int .u64 16] 27) = W at *
    obtain ⟨Z1, y1, e1, e2, e3, e4, e5, e6, e7⟩ := zed b1 z1 HZ1.out.1 HZ1.out.2
    have HN1 := Aside0.mk (c_number b1 Z1 hb1 e5 e6 y1 e4 e7)
    have HY1 := Aside0.mk (hY_of hb1 e3 e4)
    go_cut [13] (fun s W' => s = .int .i64 Z1 ∧ W' = W)
    case first =>
      rcases hb1 with rfl | rfl | rfl
      · obtain rfl := e2 (by decide)
        clear e1 e2 e3 e4 e5 e6 e7
        go_wp2_with fail
        go_meet
        exact ⟨rfl, rfl⟩
      · obtain rfl := e2 (by decide)
        clear e1 e2 e3 e4 e5 e6 e7
        go_wp2_with fail
        go_meet
        exact ⟨rfl, rfl⟩
      · obtain rfl := e1 rfl
        clear e1 e2 e3 e4 e5 e6 e7
        go_wp2_with fail
        go_meet
        exact ⟨rfl, rfl⟩
    case rest =>
      obtain ⟨rfl, rfl⟩ := hcut
      clear e1 e2 e3 e4 e5 e6 e7 hb1
      go_wp2_with fail
      have hP1 : 0 ≤ R1 / 65536 ∧ R1 / 65536 ≤ 255 := by omega
      have hR2 : 0 ≤ R1 % 65536 ∧ R1 % 65536 ≤ 65535 := by omega
      obtain ⟨P1, eP1⟩ : ∃ P, P = R1 / 65536 := ⟨_, rfl⟩
      obtain ⟨R2, eR2⟩ : ∃ P, P = R1 % 65536 := ⟨_, rfl⟩
      rw [← eP1] at hP1
      rw [← eR2] at hR2
      rw [← eP1, ← eR2]
      have EP1 := Aside0.mk eP1
      have ER2 := Aside0.mk eR2
      clear eP1 eR2
      refine (HN1.out P1 hP1.1 (by omega) _).mono ?_
      rintro e W1 ⟨rfl, hb⟩
      have B := below_step B' hb
      have K := blk_below K' hb
      clear B' K' hb
      have ht1 := wayT_size b1 P1.toNat y1 HY1.out.2.2.1 HY1.out.2.1
      obtain ⟨T1, eT1⟩ : ∃ T, T = BA (wayT b1 P1.toNat y1) := ⟨_, rfl⟩
      rw [← eT1] at ht1
      rw [← eT1]
      have ET1 := Aside0.mk eT1
      clear eT1
      go_wp2_with fail
      refine (HN1.out P1 hP1.1 (by omega) _).mono ?_
      rintro e W2 ⟨rfl, hb⟩
      have B := below_step B hb
      have K := blk_below K hb
      clear hb
      rw [← ET1.out]
      go_wp2_with fail
      rw [rounds_succ]
      have cx := (blk_cell K 3).trans rfl
      have cz := (blk_cell K 7).trans rfl
      have hlt : w.heap.size < W2.heap.size := blk_lt K
      obtain ⟨b2, hb2, l2, u2, v2⟩ := idx3 x2
      go_wp2_with fail
      refine wp_loop_rounds 2 ?_
      rw [rounds_succ]
      go_wp2_with fail
      rw [rounds_succ]
      go_upto_if 67 with fail
      have BB := Below.alloc (Below.refl W2.heap.size W2) (Nat.le_refl _) (.cells #[.int .u64 10, .int .u64 8, .int .u64 16] 27)
      have B' := below_step B BB
      have K' := blk_below K BB
      clear BB B K cx cz hlt l2 u2 v2
      generalize W2.alloc (.cells #[.int .u64 10, .int .u64 8, .int .u64 16] 27) = W at *
      obtain ⟨Z2, y2, e1, e2, e3, e4, e5, e6, e7⟩ := zed b2 z2 HZ2.out.1 HZ2.out.2
      have HN2 := Aside0.mk (c_number b2 Z2 hb2 e5 e6 y2 e4 e7)
      have HY2 := Aside0.mk (hY_of hb2 e3 e4)
      go_cut [13] (fun s W' => s = .int .i64 Z2 ∧ W' = W)
      case first =>
        rcases hb2 with rfl | rfl | rfl
        · obtain rfl := e2 (by decide)
          clear e1 e2 e3 e4 e5 e6 e7
          go_wp2_with fail
          go_meet
          exact ⟨rfl, rfl⟩
        · obtain rfl := e2 (by decide)
          clear e1 e2 e3 e4 e5 e6 e7
          go_wp2_with fail
          go_meet
          exact ⟨rfl, rfl⟩
        · obtain rfl := e1 rfl
          clear e1 e2 e3 e4 e5 e6 e7
          go_wp2_with fail
          go_meet
          exact ⟨rfl, rfl⟩
      case rest =>
        obtain ⟨rfl, rfl⟩ := hcut
        clear e1 e2 e3 e4 e5 e6 e7 hb2
        go_wp2_with fail
        have hP2 : 0 ≤ R2 / 256 ∧ R2 / 256 ≤ 255 := by omega
        have hR3 : 0 ≤ R2 % 256 ∧ R2 % 256 ≤ 255 := by omega
        obtain ⟨P2, eP2⟩ : ∃ P, P = R2 / 256 := ⟨_, rfl⟩
        obtain ⟨R3, eR3⟩ : ∃ P, P = R2 % 256 := ⟨_, rfl⟩
        rw [← eP2] at hP2
        rw [← eR3] at hR3
        rw [← eP2, ← eR3]
        have EP2 := Aside0.mk eP2
        have ER3 := Aside0.mk eR3
        clear eP2 eR3
        refine (HN2.out P2 hP2.1 (by omega) _).mono ?_
        rintro e W1 ⟨rfl, hb⟩
        have B := below_step B' hb
        have K := blk_below K' hb
        clear B' K' hb
        have ht2 := wayT_size b2 P2.toNat y2 HY2.out.2.2.1 HY2.out.2.1
        obtain ⟨T2, eT2⟩ : ∃ T, T = BA (wayT b2 P2.toNat y2) := ⟨_, rfl⟩
        rw [← eT2] at ht2
        rw [← eT2]
        have ET2 := Aside0.mk eT2
        clear eT2
        go_wp2_with fail
        refine (HN2.out P2 hP2.1 (by omega) _).mono ?_
        rintro e W2 ⟨rfl, hb⟩
        have B := below_step B hb
        have K := blk_below K hb
        clear hb
        rw [← ET2.out]
        go_wp2_with fail
        rw [rounds_succ]
        have cx := (blk_cell K 4).trans rfl
        have cz := (blk_cell K 8).trans rfl
        have hlt : w.heap.size < W2.heap.size := blk_lt K
        obtain ⟨b3, hb3, l3, u3, v3⟩ := idx3 x3
        go_upto_if 67 with fail
        have BB := Below.alloc (Below.refl W2.heap.size W2) (Nat.le_refl _) (.cells #[.int .u64 10, .int .u64 8, .int .u64 16] 27)
        have B' := below_step B BB
        have K' := blk_below K BB
        clear BB B K cx cz hlt l3 u3 v3
        generalize W2.alloc (.cells #[.int .u64 10, .int .u64 8, .int .u64 16] 27) = W at *
        obtain ⟨Z3, y3, e1, e2, e3, e4, e5, e6, e7⟩ := zed b3 z3 HZ3.out.1 HZ3.out.2
        have HN3 := Aside0.mk (c_number b3 Z3 hb3 e5 e6 y3 e4 e7)
        have HY3 := Aside0.mk (hY_of hb3 e3 e4)
        go_cut [13] (fun s W' => s = .int .i64 Z3 ∧ W' = W)
        case first =>
          rcases hb3 with rfl | rfl | rfl
          · obtain rfl := e2 (by decide)
            clear e1 e2 e3 e4 e5 e6 e7
            go_wp2_with fail
            go_meet
            exact ⟨rfl, rfl⟩
          · obtain rfl := e2 (by decide)
            clear e1 e2 e3 e4 e5 e6 e7
            go_wp2_with fail
            go_meet
            exact ⟨rfl, rfl⟩
          · obtain rfl := e1 rfl
            clear e1 e2 e3 e4 e5 e6 e7
            go_wp2_with fail
            go_meet
            exact ⟨rfl, rfl⟩
        case rest =>
          obtain ⟨rfl, rfl⟩ := hcut
          clear e1 e2 e3 e4 e5 e6 e7 hb3
          go_wp2_with fail
          refine (HN3.out R3 (by omega) (by omega) _).mono ?_
          rintro e W1 ⟨rfl, hb⟩
          have B := below_step B' hb
          have K := blk_below K' hb
          clear B' K' hb
          have ht3 := wayT_size b3 R3.toNat y3 HY3.out.2.2.1 HY3.out.2.1
          obtain ⟨T3, eT3⟩ : ∃ T, T = BA (wayT b3 R3.toNat y3) := ⟨_, rfl⟩
          rw [← eT3] at ht3
          rw [← eT3]
          have ET3 := Aside0.mk eT3
          clear eT3
          go_wp2_with fail
          refine wp_loop_rounds 1 ?_
          rw [rounds_succ]
          go_wp2_with fail
          refine (HN3.out 256 (by omega) (by omega) _).mono ?_
          rintro e W2 ⟨rfl, hb⟩
          have B := below_step B hb
          clear hb K
          have htg := wayT_size b3 (256 : Int).toNat y3 HY3.out.2.2.1 HY3.out.2.1
          obtain ⟨Tg, eTg⟩ : ∃ T, T = BA (wayT b3 (256 : Int).toNat y3) := ⟨_, rfl⟩
          rw [← eTg] at htg
          rw [← eTg]
          have ETg := Aside0.mk eTg
          clear eTg
          go_wp2_with fail
          rw [rounds_succ]
          go_wp2_with fail
          obtain ⟨s, es⟩ : ∃ s, s = ((((((((⟨#[]⟩ : ByteArray) ++ T0) ++ (⟨#[46]⟩ : ByteArray)) ++ T1) ++ (⟨#[46]⟩ : ByteArray)) ++ T2) ++ (⟨#[46]⟩ : ByteArray)) ++ T3) := ⟨_, rfl⟩
          obtain ⟨g, eg⟩ : ∃ s, s = ((((((((⟨#[]⟩ : ByteArray) ++ T0) ++ (⟨#[46]⟩ : ByteArray)) ++ T1) ++ (⟨#[46]⟩ : ByteArray)) ++ T2) ++ (⟨#[46]⟩ : ByteArray)) ++ Tg) := ⟨_, rfl⟩
          rw [← es, ← eg]
          have qs : s = BA (Lib.join [(wayT b0 P0.toNat y0), (wayT b1 P1.toNat y1), (wayT b2 P2.toNat y2), (wayT b3 R3.toNat y3)] [46]) := by
            rw [es, ET0.out, ET1.out, ET2.out, ET3.out]
            exact ba_join4 _ _ _ _
          have qg : g = BA (Lib.join [(wayT b0 P0.toNat y0), (wayT b1 P1.toNat y1), (wayT b2 P2.toNat y2), (wayT b3 (256 : Int).toNat y3)] [46]) := by
            rw [eg, ET0.out, ET1.out, ET2.out, ETg.out]
            exact ba_join4 _ _ _ _
          have zs : s.size ≤ 1000 := by rw [es]; simp only [ByteArray.size_append]; show _ ≤ _; exact sz4 ht0 ht1 ht2 ht3
          have zg : g.size ≤ 1000 := by rw [eg]; simp only [ByteArray.size_append]; exact sz4 ht0 ht1 ht2 htg
          have F := ways_ok4 n h0 h1 P0 P1 P2 R1 R2 R3 EP0.out EP1.out EP2.out ER1.out ER2.out ER3.out b0 y0 b1 y1 b2 y2 b3 y3 HY0.out HY1.out HY2.out HY3.out
          have HPS := Aside0.mk (c_parse s (by omega))
          have HPG := Aside0.mk (c_parse g (by omega))
          have HES := Aside0.mk (c_ends s (by omega))
          have HEG := Aside0.mk (c_ends g (by omega))
          have ls : s.data.toList = _ := (congrArg (fun z : ByteArray => z.data.toList) qs).trans (ba_list _)
          have lg : g.data.toList = _ := (congrArg (fun z : ByteArray => z.data.toList) qg).trans (ba_list _)
          rw [ls, F.1] at HPS
          rw [ls, F.2.1] at HES
          rw [lg, F.2.2.1] at HPG
          rw [lg, F.2.2.2] at HEG
          clear es eg qs qg zs zg ls lg F
          refine (HPS.out _ (HG.out.keep B)).mono ?_
          rintro e W3 ⟨rfl, hb⟩
          have B := below_step B hb
          clear hb
          go_wp2_with fail
          refine (HPG.out _ (HG.out.keep B)).mono ?_
          rintro e W4 ⟨rfl, hb⟩
          have B := below_step B hb
          clear hb
          go_wp2_with fail
          refine (HES.out _ (HG.out.keep B)).mono ?_
          rintro e W5 ⟨rfl, hb⟩
          have B := below_step B hb
          clear hb
          go_wp2_with fail
          refine (HEG.out _ (HG.out.keep B)).mono ?_
          rintro e W6 ⟨rfl, hb⟩
          have B := below_step B hb
          clear hb
          go_wp2_with fail
          go_ret
          exact ⟨rfl, B⟩

end Go.Proofs.YtgnahagnmodpdaaDoor

/- FourWays: the walk, any number of parts. -/
namespace Go.Proofs.YtgnahagnmodpdaaDoor
open Go.RowKit Go.Proofs.YtgnahagnmodpdaaDoorW.PrintWords Go.Proofs.YtgnahagnmodpdaaDoor.X Go.IntWalk
set_option linter.unusedVariables false
set_option linter.unusedSimpArgs false

theorem ways_walk (n p x0 x1 x2 x3 z0 z1 z2 z3 : Int) (h0 : 0 ≤ n) (h1 : n ≤ 4294967295) (hz0 : -9223372036854775808 ≤ z0 ∧ z0 ≤ 9223372036854775807) (hz1 : -9223372036854775808 ≤ z1 ∧ z1 ≤ 9223372036854775807) (hz2 : -9223372036854775808 ≤ z2 ∧ z2 ≤ 9223372036854775807) (hz3 : -9223372036854775808 ≤ z3 ∧ z3 ≤ 9223372036854775807) (w : World) (hG : GW w) :
    Calls Tryd.prog 3 #[.int .u32 n, .agg #[.int .i64 p, .int .i64 x0, .int .i64 x1, .int .i64 x2, .int .i64 x3, .int .i64 z0, .int .i64 z1, .int .i64 z2, .int .i64 z3]] w fun e w' => e = .returned (.bool true) ∧ Below w.heap.size w w' := by
  have hk : wrap64 ((wrap64 (p.tmod 4 + 4)).tmod 4 + 1) = 1 ∨ wrap64 ((wrap64 (p.tmod 4 + 4)).tmod 4 + 1) = 2 ∨ wrap64 ((wrap64 (p.tmod 4 + 4)).tmod 4 + 1) = 3 ∨ wrap64 ((wrap64 (p.tmod 4 + 4)).tmod 4 + 1) = 4 := by
    have a := Int.tmod_lt_of_pos p (show (0 : Int) < 4 by decide)
    have b := Int.lt_tmod_of_pos p (show (0 : Int) < 4 by decide)
    rw [wrap64_in (p.tmod 4 + 4) (by omega), Int.tmod_eq_emod_of_nonneg (by omega), wrap64_in _ (by omega)]
    omega
  rcases hk with hk | hk | hk | hk
  · exact ways_walk1 n p x0 x1 x2 x3 z0 z1 z2 z3 h0 h1 hz0 hz1 hz2 hz3 hk w hG
  · exact ways_walk2 n p x0 x1 x2 x3 z0 z1 z2 z3 h0 h1 hz0 hz1 hz2 hz3 hk w hG
  · exact ways_walk3 n p x0 x1 x2 x3 z0 z1 z2 z3 h0 h1 hz0 hz1 hz2 hz3 hk w hG
  · exact ways_walk4 n p x0 x1 x2 x3 z0 z1 z2 z3 h0 h1 hz0 hz1 hz2 hz3 hk w hG
end Go.Proofs.YtgnahagnmodpdaaDoor

