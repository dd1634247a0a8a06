/- What an IPv4 address in a text says, plainly: numbers, parts, the address. -/
import Derived.Test.YtgnahagnmodpdaaDoorDigL
import Derived.Test.YtgnahagnmodpdaaDoorGiven
import Derived.Test.YtgnahagnmodpdaaDoorX2
namespace Go.Proofs.YtgnahagnmodpdaaDoor
open Go.RowKit Go.Proofs.YtgnahagnmodpdaaDoorW.PrintWords Go.Proofs.YtgnahagnmodpdaaDoor.X Go.IntWalk
set_option linter.unusedVariables false
set_option linter.unusedSimpArgs false

/-- Digits to a base, no more than 2^32. -/
def capL (base : Int) : List UInt8 → Int → Option Int
  | [], n => some n
  | c :: l, n => if digV (c.toNat : Int) base < 0 then none else capL base l (if 4294967296 < n * base + digV (c.toNat : Int) base then 4294967296 else n * base + digV (c.toNat : Int) base)
/-- A number's base and digits. -/
def baseOf : List UInt8 → Int × List UInt8
  | 48 :: 120 :: r => (16, r)
  | 48 :: 88 :: r => (16, r)
  | 48 :: c :: r => (8, c :: r)
  | l => (10, l)
def numberV (l : List UInt8) : Int × Int × Int := if l = [] then (0, 0, 200) else
  match capL (baseOf l).1 (baseOf l).2 0 with
  | none => (0, 0, 200)
  | some n => (n, (baseOf l).1, 0)
theorem capL_le {base : Int} (hb : 0 ≤ base) : ∀ (l : List UInt8) (n N : Int), capL base l n = some N → 0 ≤ n → n ≤ 4294967296 → 0 ≤ N ∧ N ≤ 4294967296
  | [], n, N, h, h0, h1 => by obtain rfl := Option.some.inj h; exact ⟨h0, h1⟩
  | c :: l, n, N, h, h0, h1 => by
    unfold capL at h
    by_cases hd : digV (c.toNat : Int) base < 0
    · rw [if_pos hd] at h; cases h
    · rw [if_neg hd] at h
      have : 0 ≤ n * base := Int.mul_nonneg h0 hb
      refine capL_le hb l _ N h ?_ ?_ <;> split <;> omega
theorem baseOf_base (l : List UInt8) : (baseOf l).1 = 16 ∨ (baseOf l).1 = 8 ∨ (baseOf l).1 = 10 := by
  unfold baseOf
  split <;> simp
theorem numberV_le (l : List UInt8) : 0 ≤ (numberV l).1 ∧ (numberV l).1 ≤ 4294967296 := by
  unfold numberV
  split
  · simp
  · cases h : capL (baseOf l).1 (baseOf l).2 0 with
    | none => simp
    | some n => exact capL_le (by rcases baseOf_base l with h | h | h <;> omega) _ 0 n h (Int.le_refl 0) (by decide)
theorem numberV_err (l : List UInt8) : (numberV l).2.2 = 0 ∨ (numberV l).2.2 = 200 := by
  unfold numberV
  split
  · simp
  · split <;> simp
theorem number_loop (base : Int) (hb : base = 16 ∨ base = 8 ∨ base = 10) (s : ByteArray) (hs : s.size ≤ 9223372036854775806) : ∀ (m i : Nat) (n : Int), i + m = s.data.toList.length → 0 ≤ n → n ≤ 4294967296 →
    Ev (fun k => four_Number.l0 k base s n (s.size : Int) (i : Int)) (match capL base (s.data.toList.drop i) n with | none => (0, 0, 200) | some n => (n, base, 0))
  | 0, i, n, hm, h0, h1 => by
    have hz := size_len s
    rw [List.drop_of_length_le (by omega)]
    refine Ev.step (f := fun k => some (n, base, 0)) (fun k => ?_) (Ev.now _)
    simp only [four_Number.l0]
    rw [if_neg (by omega)]
  | m + 1, i, n, hm, h0, h1 => by
    have hz := size_len s
    have hi : i < s.data.toList.length := by omega
    have w1 : wrap64 ((i : Int) + 1) = ((i + 1 : Nat) : Int) := by rw [wrap64_in _ (by omega)]; omega
    have hlt := s.data.toList[i].toNat_lt
    have hd : octet_Digit.f (s.data.toList[i].toNat : Int) base = some (digV (s.data.toList[i].toNat : Int) base) := if_pos ⟨by omega, by omega⟩
    have hdl := digV_lt (b := (s.data.toList[i].toNat : Int)) (base := base) (by omega)
    rw [List.drop_eq_getElem_cons hi, capL]
    have ih := number_loop base hb s hs m (i + 1)
    have key : ∀ k, four_Number.l0 (k + 1) base s n (s.size : Int) (i : Int) = if digV (s.data.toList[i].toNat : Int) base < 0 then some (0, 0, 200) else four_Number.l0 k base s (mn (IntKind.u64.wrap ((IntKind.u64.wrap (n * (IntKind.u64.wrap base))) + (IntKind.u64.wrap (digV (s.data.toList[i].toNat : Int) base)))) 4294967296) (s.size : Int) ((i + 1 : Nat) : Int) := by
      intro k
      simp only [four_Number.l0]
      rw [if_pos (by omega), if_pos (by omega), if_pos (by omega), bt_get s i hi, hd, w1]
      rfl
    refine Ev.step key ?_
    generalize digV (s.data.toList[i].toNat : Int) base = d at *
    by_cases hneg : d < 0
    · simp only [if_pos hneg]
      exact Ev.now _
    · simp only [if_neg hneg]
      have hnb : 0 ≤ n * base := Int.mul_nonneg h0 (by omega)
      have hnb2 : n * base ≤ 4294967296 * 16 := by
        rcases hb with h | h | h <;> subst h <;> omega
      have e : mn (IntKind.u64.wrap ((IntKind.u64.wrap (n * (IntKind.u64.wrap base))) + (IntKind.u64.wrap d))) 4294967296 = if 4294967296 < n * base + d then 4294967296 else n * base + d := by
        have wu : ∀ x : Int, 0 ≤ x → x < 18446744073709551616 → IntKind.u64.wrap x = x := fun x a b => by simp [IntKind.wrap, IntKind.signed, IntKind.bits]; omega
        rw [wu base (by omega) (by omega), wu (n * base) hnb (by omega), wu d (by omega) (by omega), wu _ (by omega) (by omega)]
        unfold mn
        (repeat' split) <;> omega
      rw [e]
      exact ih _ (by omega) (by split <;> omega) (by split <;> omega)
theorem prefix_two (s : ByteArray) (c : UInt8) : strings_HasPrefix.f s (⟨#[48, c]⟩ : ByteArray) = some (s.data.toList.take 2 == [48, c]) := by
  have hz := size_len s
  have e1 : ((⟨#[48, c]⟩ : ByteArray).size : Int) = 2 := rfl
  unfold strings_HasPrefix.f stringslite_HasPrefix.f
  rw [e1]
  by_cases h : 2 ≤ s.data.toList.length
  · rw [if_pos (by omega), if_pos (by omega), if_pos (by omega), toList_data, extract_head, ba_list, toList_data]
    rfl
  · rw [if_neg (by omega)]
    simp only [Option.bind_some, Option.some.injEq]
    symm
    rw [beq_eq_false_iff_ne]
    intro e
    have := congrArg List.length e
    simp at this
    omega
theorem number_ev (s : ByteArray) (hs : s.size ≤ 9223372036854775806) : Ev (fun k => four_Number.f k s) (numberV s.data.toList) := by
  have hz := size_len s
  have loop : ∀ (base : Int) (l : List UInt8), (base = 16 ∨ base = 8 ∨ base = 10) → l.length ≤ s.data.toList.length → Ev (fun k => four_Number.j1 k base (BA l)) (match capL base l 0 with | none => (0, 0, 200) | some n => (n, base, 0)) := by
    intro base l hb hl
    refine Ev.step (f := fun k => four_Number.l0 k base (BA l) 0 ((BA l).size : Int) ((0 : Nat) : Int)) (fun k => by simp only [four_Number.j1]; rfl) ?_
    exact number_loop base hb (BA l) (by rw [ba_size]; omega) _ 0 0 (Nat.zero_add _) (Int.le_refl 0) (by decide)
  by_cases h0 : s.data.toList = []
  · rw [show numberV s.data.toList = (0, 0, 200) from if_pos h0]
    refine Ev.congr (f := fun k => some (0, 0, 200)) (fun k => ?_) (Ev.now _)
    unfold four_Number.f
    rw [if_pos (by rw [toList_data]; exact h0)]
  · have hv : numberV s.data.toList = match capL (baseOf s.data.toList).1 (baseOf s.data.toList).2 0 with | none => (0, 0, 200) | some n => (n, (baseOf s.data.toList).1, 0) := if_neg h0
    rw [hv]
    have start : ∀ r : Int × Int × Int, Ev (fun k => if (s.data.toList.take 2 == [48, 120]) = true then (four_Number.j0 k s 10 s true) else (four_Number.j0 k s 10 s (s.data.toList.take 2 == [48, 88]))) r → Ev (fun k => four_Number.f k s) r := by
      intro r h
      refine Ev.congr (fun k => ?_) h
      unfold four_Number.f
      rw [if_neg (by rw [toList_data]; exact h0), prefix_two, prefix_two]
      rfl
    refine start _ ?_
    obtain ⟨b, r, hs'⟩ := List.exists_cons_of_ne_nil h0
    have hb0 : bt s 0 = (b.toNat : Int) := by
      have hl : 0 < s.data.toList.length := List.length_pos_iff.2 h0
      have e := bt_get s 0 hl
      have e2 : s.data.toList[0] = b := by simp [hs']
      rw [e2] at e
      exact e
    have hj16 : ∀ r2 c, s.data.toList = 48 :: c :: r2 → Ev (fun k => four_Number.j0 k s 10 s true) (match capL 16 r2 0 with | none => (0, 0, 200) | some n => (n, 16, 0)) := by
      intro r2 c e
      have hl : s.data.toList.length = r2.length + 2 := by rw [e]; rfl
      refine Ev.step (f := fun k => four_Number.j1 k 16 (BA r2)) (fun k => ?_) (loop 16 r2 (.inl rfl) (by omega))
      simp only [four_Number.j0]
      rw [if_true, if_pos (by omega), extract_tail, e]
      rfl
    cases r with
    | nil =>
      have e1 : (s.data.toList.take 2 == [48, 120]) = false := by rw [hs']; simp
      have e2 : (s.data.toList.take 2 == [48, 88]) = false := by rw [hs']; simp
      have eb : baseOf s.data.toList = (10, s.data.toList) := by
        rw [hs']
        unfold baseOf
        split <;> simp_all
      have hl1 : s.data.toList.length = 1 := by rw [hs']; rfl
      rw [e1, e2, eb]
      simp only [Bool.false_eq_true, if_false]
      refine Ev.step (f := fun k => four_Number.j1 k 10 (BA s.data.toList)) (fun k => ?_) (loop 10 _ (.inr (.inr rfl)) (Nat.le_refl _))
      simp only [four_Number.j0, Bool.false_eq_true, if_false]
      rw [if_neg (by omega), ba_of]
    | cons c r2 =>
      have hl : s.data.toList.length = r2.length + 2 := by rw [hs']; rfl
      by_cases hb : b = 48
      · subst hb
        by_cases hx : c = 120
        · subst hx
          have e1 : (s.data.toList.take 2 == [48, 120]) = true := by rw [hs']; simp
          rw [e1, hs']
          simp only [if_true]
          exact hj16 r2 120 hs'
        · by_cases hX : c = 88
          · subst hX
            have e1 : (s.data.toList.take 2 == [48, 120]) = false := by rw [hs']; simp
            have e2 : (s.data.toList.take 2 == [48, 88]) = true := by rw [hs']; simp
            rw [e1, e2, hs']
            simp only [Bool.false_eq_true, if_false]
            exact hj16 r2 88 hs'
          · have e1 : (s.data.toList.take 2 == [48, 120]) = false := by rw [hs']; simpa using hx
            have e2 : (s.data.toList.take 2 == [48, 88]) = false := by rw [hs']; simpa using hX
            have eb : baseOf s.data.toList = (8, c :: r2) := by
              rw [hs']
              unfold baseOf
              split <;> simp_all
            rw [e1, e2, eb]
            simp only [Bool.false_eq_true, if_false]
            refine Ev.step (f := fun k => four_Number.j1 k 8 (BA (c :: r2))) (fun k => ?_) (loop 8 _ (.inr (.inl rfl)) (by rw [hs']; simp))
            simp only [four_Number.j0, Bool.false_eq_true, if_false]
            rw [if_pos (by omega), if_pos (by omega), hb0, if_pos (show ((UInt8.toNat 48 : Nat) : Int) = 48 from rfl), if_pos (by omega), extract_tail, hs']
            rfl
      · have e1 : (s.data.toList.take 2 == [48, 120]) = false := by rw [hs']; simp [hb]
        have e2 : (s.data.toList.take 2 == [48, 88]) = false := by rw [hs']; simp [hb]
        have eb : baseOf s.data.toList = (10, s.data.toList) := by
          rw [hs']
          unfold baseOf
          split <;> simp_all
        have hne : ¬ ((b.toNat : Int) = 48) := fun e => hb ((byte_eq b 48).1 e)
        rw [e1, e2, eb]
        simp only [Bool.false_eq_true, if_false]
        refine Ev.step (f := fun k => four_Number.j1 k 10 (BA s.data.toList)) (fun k => ?_) (loop 10 _ (.inr (.inr rfl)) (Nat.le_refl _))
        simp only [four_Number.j0, Bool.false_eq_true, if_false]
        rw [if_pos (by omega), if_pos (by omega), hb0, if_neg hne, ba_of]
theorem number_calls (s : ByteArray) (hs : s.size ≤ 9223372036854775806) (w : World) :
    Calls Tryd.prog 15 #[.string s] w fun e w' => e = .returned (.tuple #[.int .u64 (numberV s.data.toList).1, .int .i64 (numberV s.data.toList).2.1, .int .i64 (numberV s.data.toList).2.2]) ∧ Below w.heap.size w w' := by
  obtain ⟨k, h⟩ := (number_ev s hs).rounds
  generalize numberV s.data.toList = r at *
  obtain ⟨r1, r2, r3⟩ := r
  exact four_Number.calls k s r1 r2 r3 w h

/-- The parts of a text. -/
def partsL (L : List (List UInt8)) : List (List UInt8) := if 1 < L.length ∧ L.getLast? = some [] then L.dropLast else L
def partsV (l : List UInt8) : List (List UInt8) := partsL (splitC 46 l)
theorem partsV_ne (l : List UInt8) : partsV l ≠ [] := by
  unfold partsV partsL
  have := splitC_ne 46 l
  split
  · rename_i h
    intro e
    have := congrArg List.length e
    simp at this
    omega
  · exact this
theorem partsL_mem {L : List (List UInt8)} : ∀ w ∈ partsL L, w ∈ L := by
  unfold partsL
  split
  · exact fun w h => List.dropLast_subset L h
  · exact fun w h => h
theorem partsV_part (l : List UInt8) : ∀ w ∈ partsV l, w.length ≤ l.length := fun w h => splitC_part 46 l w (partsL_mem w h)
theorem partsL_len (L : List (List UInt8)) : (partsL L).length ≤ L.length := by
  unfold partsL
  split
  · simp
  · exact Nat.le_refl _
theorem parts_f (s : ByteArray) (hs : s.size ≤ 4294967280) : four_parts.f s = some ((partsV s.data.toList).map BA) := by
  have hz := size_len s
  have hl := splitC_len 46 s.data.toList
  have hne := splitC_ne 46 s.data.toList
  unfold four_parts.f strings_Split.f
  rw [if_pos ⟨by omega, by decide⟩, show (⟨#[46]⟩ : ByteArray) = BA [46] from rfl, splitB_one]
  simp only [Option.bind_some, List.length_map]
  unfold partsV
  generalize splitC 46 s.data.toList = L at *
  have hpos : 0 < L.length := List.length_pos_iff.2 hne
  have w1 : wrap64 ((L.length : Int) - 1) = ((L.length - 1 : Nat) : Int) := by rw [wrap64_in _ (by omega)]; omega
  have hlast : rdOf ByteArray.empty (L.map BA) ((L.length - 1 : Nat) : Int) = BA L[L.length - 1] := rd_map L _ (by omega)
  unfold partsL
  by_cases h1 : 1 < L.length
  · rw [w1, if_pos (by omega), if_pos (by omega), if_pos (by omega), hlast, toList_data, ba_list]
    have eg : L.getLast? = some L[L.length - 1] := by rw [List.getLast?_eq_getElem?, List.getElem?_eq_getElem (by omega)]
    by_cases h2 : L[L.length - 1] = []
    · rw [if_pos h2, if_pos (by omega), if_pos ⟨h1, by rw [eg, h2]⟩, Int.toNat_natCast, ← List.map_take, List.dropLast_eq_take]
    · rw [if_neg h2, if_neg (fun h => h2 (by rw [eg] at h; exact Option.some.inj h.2))]
  · rw [if_neg (by omega), if_neg (fun h => h1 h.1)]
end Go.Proofs.YtgnahagnmodpdaaDoor
