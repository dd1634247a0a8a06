/- Plain laws of addresses in text: what is read ends in a number; what Strict takes Parse takes; a stop behind. No program in sight. -/
import Derived.Test.YtgnahagnmodpdaaDoorFourP2
import Derived.Test.YtgnahagnmodpdaaDoorFourS
namespace Go.Proofs.YtgnahagnmodpdaaDoor
open Go.RowKit Go.Proofs.YtgnahagnmodpdaaDoorW.PrintWords
set_option linter.unusedVariables false
set_option linter.unusedSimpArgs false

theorem firstErr_none : ∀ {P : List (List UInt8)} {i : Int}, firstErr P i = none → ∀ p ∈ P, (numberV p).2.2 = 0
  | [], i, h => fun p hp => absurd hp (by simp)
  | q :: P, i, h => by
    intro p hp
    rw [firstErr] at h
    by_cases hq : (numberV q).2.2 = 0
    · rw [if_pos hq] at h
      rcases List.mem_cons.1 hp with rfl | hp
      · exact hq
      · exact firstErr_none h p hp
    · rw [if_neg hq] at h
      exact absurd h (by simp)
theorem firstErr_ok : ∀ {P : List (List UInt8)} {i : Int}, (∀ p ∈ P, (numberV p).2.2 = 0) → firstErr P i = none
  | [], i, h => rfl
  | q :: P, i, h => by
    rw [firstErr, if_pos (h q (by simp))]
    exact firstErr_ok fun p hp => h p (by simp [hp])
theorem parseP_ok {P : List (List UInt8)} (h : (parseP P).2.2 = 0) : P.length ≤ 4 ∧ ∀ p ∈ P, (numberV p).2.2 = 0 := by
  unfold parseP at h
  by_cases h4 : 4 < P.length
  · rw [if_pos h4] at h
    exact absurd h (by decide)
  · rw [if_neg h4] at h
    refine ⟨by omega, ?_⟩
    cases he : firstErr P 0 with
    | some i =>
      rw [he] at h
      exact absurd (show (200 : Int) = 0 from h) (by decide)
    | none => exact firstErr_none he
theorem parseP_err {P : List (List UInt8)} (h : (parseP P).2.2 ≠ 0) : (parseP P).1 = 0 := by
  unfold parseP at h ⊢
  by_cases h4 : 4 < P.length
  · rw [if_pos h4]
  · rw [if_neg h4] at h ⊢
    cases he : firstErr P 0 with
    | some i => rfl
    | none =>
      rw [he] at h
      simp only at h ⊢
      cases hb : firstBig (P.map fun p => (numberV p).1) 0 with
      | some i => rfl
      | none =>
        rw [hb] at h
        simp only at h ⊢
        by_cases hm : 256 ^ (5 - P.length) ≤ ((P.map fun p => (numberV p).1).getLastD 0)
        · rw [if_pos hm]
        · rw [if_neg hm] at h
          exact absurd rfl h
theorem ends_of_number {l : List UInt8} (h : (numberV (lastV l)).2.2 = 0) : endsV l = true := by
  have hne : lastV l ≠ [] := by
    intro e
    rw [e] at h
    exact absurd h (by decide)
  unfold endsV
  rw [if_neg hne, h]
  split <;> rfl
theorem parse_ends {l : List UInt8} (h : (parseV l).2.2 = 0) : endsV l = true := by
  refine ends_of_number ((parseP_ok h).2 _ ?_)
  unfold lastV
  rw [List.getLastD_eq_getLast?]
  cases hg : (partsV l).getLast? with
  | none => exact absurd (List.getLast?_eq_none_iff.1 hg) (partsV_ne l)
  | some x => exact List.mem_of_getLast? hg
/-- What is left of a part that Strict takes. -/
def good : Nat → Int → List UInt8 → Prop
  | size, x, [] => 0 < size
  | size, x, c :: p => (48 ≤ (c.toNat : Int) ∧ (c.toNat : Int) ≤ 57) ∧ (size = 0 ∨ 0 < x) ∧ 10 * x + ((c.toNat : Int) - 48) ≤ 255 ∧ good (size + 1) (10 * x + ((c.toNat : Int) - 48)) p
theorem strict_good : ∀ (l : List UInt8) (i : Nat) (n : Int) (part size : Nat) (x : Int), part ≤ 3 → (strictL l i n part size x).2.2 = 0 → ∃ p rest, splitC 46 l = p :: rest ∧ good size x p ∧ rest.length + part = 3 ∧ ∀ q ∈ rest, good 0 0 q
  | [], i, n, part, size, x, hp, h => by
    rw [strictL] at h
    by_cases hc : part < 3 ∨ size = 0
    · rw [if_pos hc] at h
      exact absurd (show (203 : Int) = 0 from h) (by decide)
    · exact ⟨[], [], rfl, (by show 0 < size; omega), by simp; omega, fun q hq => absurd hq (by simp)⟩
  | c :: l, i, n, part, size, x, hp, h => by
    rw [strictL] at h
    by_cases hd : 48 ≤ (c.toNat : Int) ∧ (c.toNat : Int) ≤ 57 ∧ (size = 0 ∨ 0 < x) ∧ 10 * x + ((c.toNat : Int) - 48) ≤ 255
    · rw [if_pos hd] at h
      obtain ⟨p, rest, e, g, hl, hr⟩ := strict_good l _ _ _ _ _ hp h
      have hc : c ≠ 46 := by
        intro e
        subst e
        exact absurd hd.1 (by decide)
      refine ⟨c :: p, rest, ?_, ⟨⟨hd.1, hd.2.1⟩, hd.2.2.1, hd.2.2.2, g⟩, hl, hr⟩
      rw [splitC_cons hc, e]
      rfl
    · rw [if_neg hd] at h
      by_cases hs : c = 46 ∧ 0 < size ∧ part < 3
      · rw [if_pos hs] at h
        obtain ⟨p, rest, e, g, hl, hr⟩ := strict_good l _ _ _ _ _ (show part + 1 ≤ 3 by omega) h
        rw [hs.1, splitC_eq, e]
        refine ⟨[], p :: rest, rfl, hs.2.1, by simp; omega, fun q hq => ?_⟩
        rcases List.mem_cons.1 hq with rfl | hq
        · exact g
        · exact hr q hq
      · rw [if_neg hs] at h
        exact absurd (show (203 : Int) = 0 from h) (by decide)
theorem good_cap : ∀ (p : List UInt8) (size : Nat) (x : Int), 0 ≤ x → x ≤ 255 → good size x p → ∃ v, capL 10 p x = some v ∧ 0 ≤ v ∧ v ≤ 255
  | [], size, x, h0, h1, g => ⟨x, rfl, h0, h1⟩
  | c :: p, size, x, h0, h1, g => by
    obtain ⟨⟨d0, d1⟩, _, hb, g⟩ := g
    obtain ⟨v, hv, b⟩ := good_cap p _ _ (by omega) hb g
    refine ⟨v, ?_, b⟩
    have hd : digV (c.toNat : Int) 10 = (c.toNat : Int) - 48 := by rw [digV10 _ c.toNat_lt, if_pos ⟨d0, d1⟩]
    rw [capL, hd, if_neg (by omega), if_neg (by omega), show x * 10 + ((c.toNat : Int) - 48) = 10 * x + ((c.toNat : Int) - 48) by omega]
    exact hv
theorem good_number {p : List UInt8} (g : good 0 0 p) : (numberV p).2.2 = 0 ∧ 0 ≤ (numberV p).1 ∧ (numberV p).1 ≤ 255 := by
  obtain ⟨v, hv, b0, b1⟩ := good_cap p 0 0 (by decide) (by decide) g
  cases p with
  | nil => exact absurd g (Nat.lt_irrefl 0)
  | cons c p =>
    have eb : baseOf (c :: p) = (10, c :: p) := by
      by_cases h48 : c = 48
      · subst h48
        have g2 := g.2.2.2
        cases p with
        | nil => rfl
        | cons d p =>
          have := g2.2.1
          exact absurd this (by decide)
      · unfold baseOf
        split <;> simp_all
    have e : numberV (c :: p) = (v, 10, 0) := by
      unfold numberV
      rw [if_neg (by simp), eb, hv]
    rw [e]
    exact ⟨rfl, b0, b1⟩
theorem strict_parse {l : List UInt8} (h : (strictV l).2.2 = 0) : (parseV l).2.2 = 0 := by
  obtain ⟨p, rest, e, g, hl, hr⟩ := strict_good l 0 0 0 0 0 (by decide) h
  obtain ⟨q, r, t, rfl⟩ : ∃ q r t, rest = [q, r, t] := by
    match rest, hl with
    | [q, r, t], _ => exact ⟨q, r, t, rfl⟩
  have gq := hr q (by simp)
  have gr := hr r (by simp)
  have gt := hr t (by simp)
  have ht : t ≠ [] := by
    rintro rfl
    exact absurd gt (Nat.lt_irrefl 0)
  have hP : partsV l = [p, q, r, t] := by
    unfold partsV partsL
    rw [e, if_neg]
    intro h
    exact ht (by simpa using h.2)
  have n0 := good_number g
  have n1 := good_number gq
  have n2 := good_number gr
  have n3 := good_number gt
  unfold parseV
  rw [hP]
  unfold parseP
  rw [if_neg (by simp), firstErr_ok (by simp [n0.1, n1.1, n2.1, n3.1])]
  have hb : firstBig ([p, q, r, t].map fun p => (numberV p).1) 0 = none := by
    simp only [List.map_cons, List.map_nil, firstBig]
    rw [if_neg (by omega), if_neg (by omega), if_neg (by omega)]
  rw [hb]
  show (if (256 : Int) ^ (5 - 4) ≤ (numberV t).1 then _ else _ : Int × Int × Int).2.2 = 0
  rw [if_neg (by omega)]
theorem splitC_stop (l : List UInt8) : splitC 46 (l ++ [46]) = splitC 46 l ++ [[]] := by
  induction l with
  | nil => rfl
  | cons b l ih =>
    by_cases hb : b = 46
    · subst hb
      rw [List.cons_append, splitC_eq, splitC_eq, ih]
      rfl
    · rw [List.cons_append, splitC_cons hb, splitC_cons hb, ih]
      have := splitC_ne 46 l
      cases h : splitC 46 l with
      | nil => exact absurd h this
      | cons p ps => rfl
theorem splitC_last (l : List UInt8) (h : l ≠ []) (h2 : l.getLast? ≠ some 46) : (splitC 46 l).getLast? ≠ some [] := by
  induction l with
  | nil => exact absurd rfl h
  | cons b l ih =>
    by_cases hl : l = []
    · subst hl
      have hb : b ≠ 46 := fun e => h2 (by rw [e]; rfl)
      rw [splitC_cons hb]
      simp [splitC, ahead1]
    · have i2 := ih hl (by
        intro e
        apply h2
        rw [List.getLast?_cons, e]
        rfl)
      by_cases hb : b = 46
      · subst hb
        rw [splitC_eq, List.getLast?_cons]
        cases hg : (splitC 46 l).getLast? with
        | none => exact absurd (List.getLast?_eq_none_iff.1 hg) (splitC_ne 46 l)
        | some x =>
          rw [hg] at i2
          exact i2
      · rw [splitC_cons hb]
        cases hs : splitC 46 l with
        | nil => exact absurd hs (splitC_ne 46 l)
        | cons p ps =>
          cases ps with
          | nil => simp [ahead1]
          | cons q qs =>
            rw [hs] at i2
            simp only [ahead1]
            rw [List.getLast?_cons_cons] at i2 ⊢
            exact i2
theorem partsV_stop (l : List UInt8) (h : l ≠ []) (h2 : l.getLast? ≠ some 46) : partsV (l ++ [46]) = partsV l := by
  have hne := splitC_ne 46 l
  have hpos : 0 < (splitC 46 l).length := List.length_pos_iff.2 hne
  unfold partsV partsL
  rw [splitC_stop, if_pos ⟨by simp; omega, by simp⟩, if_neg (fun h3 => splitC_last l h h2 h3.2)]
  simp
theorem endsV_stop (l : List UInt8) (h : l ≠ []) (h2 : l.getLast? ≠ some 46) : endsV (l ++ [46]) = endsV l := by
  unfold endsV lastV
  rw [partsV_stop l h h2]
theorem parseV_stop (l : List UInt8) (h : l ≠ []) (h2 : l.getLast? ≠ some 46) : parseV (l ++ [46]) = parseV l := by
  unfold parseV
  rw [partsV_stop l h h2]
end Go.Proofs.YtgnahagnmodpdaaDoor
