/- FourNumbers, plainly: parts, ends; the law. -/
import Derived.Test.YtgnahagnmodpdaaDoorFourP1
namespace Go.Proofs.YtgnahagnmodpdaaDoor
open Go.RowKit Go.Proofs.YtgnahagnmodpdaaDoorW.PrintWords Go.Proofs.YtgnahagnmodpdaaDoor.X Go.IntWalk
set_option linter.unusedVariables false
set_option linter.unusedSimpArgs false

/-- What the loop tells of what is left. -/
theorem refParts_loop (s : ByteArray) (hs : s.size ≤ 1099511627776) : ∀ (m i j : Nat) (acc : List (List UInt8)), i + m = s.data.toList.length → j ≤ i → acc.length ≤ i →
    Ev (fun k => posternref20_Parts.l0 k s (acc.map BA) (j : Int) (i : Int)) ((partsL (acc ++ ahead1 ((s.data.toList.drop j).take (i - j)) (splitC 46 (s.data.toList.drop i)))).map BA)
  | 0, i, j, acc, hm, hj, ha => by
    have hz := size_len s
    have hd : s.data.toList.drop i = [] := List.drop_of_length_le (by omega)
    have ht : (s.data.toList.drop j).take (i - j) = s.data.toList.drop j := List.take_of_length_le (by simp; omega)
    rw [hd, ht, show splitC 46 [] = [[]] from rfl]
    simp only [ahead1, List.append_nil]
    refine Ev.step (f := fun k => some ((partsL (acc ++ [s.data.toList.drop j])).map BA)) (fun k => ?_) (Ev.now _)
    simp only [posternref20_Parts.l0]
    rw [if_neg (by omega)]
    by_cases hjl : j < s.data.toList.length
    · have hne : s.data.toList.drop j ≠ [] := by
        intro e
        have := congrArg List.length e
        simp at this
        omega
      have hp : partsL (acc ++ [s.data.toList.drop j]) = acc ++ [s.data.toList.drop j] := by
        unfold partsL
        rw [if_neg]
        rintro ⟨_, h⟩
        rw [List.getLast?_append] at h
        simp at h
        omega
      rw [if_pos (by omega), if_pos (by omega), if_pos (by omega), if_pos (by simp; omega), extract_tail, hp]
      simp
    · have he : s.data.toList.drop j = [] := List.drop_of_length_le (by omega)
      rw [if_neg (by omega), he]
      by_cases h0 : acc = []
      · subst h0
        rw [if_pos (by simp), if_pos (by omega), if_pos (by omega), if_pos (by simp), extract_tail, Int.toNat_natCast, he]
        rfl
      · have hl : 0 < acc.length := List.length_pos_iff.2 h0
        rw [if_neg (by simpa using h0)]
        unfold partsL
        rw [if_pos ⟨by simp; omega, by simp⟩]
        simp
  | m + 1, i, j, acc, hm, hj, ha => by
    have hz := size_len s
    have hi : i < s.data.toList.length := by omega
    have w1 : wrap64 ((i : Int) + 1) = ((i + 1 : Nat) : Int) := by rw [wrap64_in _ (by omega)]; omega
    have hb46 : ((s.data.toList[i].toNat : Int) = 46) ↔ s.data.toList[i] = 46 := byte_eq _ 46
    have hdrop := List.drop_eq_getElem_cons hi
    have ih := refParts_loop s hs m (i + 1)
    by_cases hc : s.data.toList[i] = 46
    · refine Ev.step (f := fun k => posternref20_Parts.l0 k s ((acc ++ [(s.data.toList.drop j).take (i - j)]).map BA) ((i + 1 : Nat) : Int) ((i + 1 : Nat) : Int)) (fun k => ?_) ?_
      · simp only [posternref20_Parts.l0]
        rw [w1, if_pos (by omega), if_pos (by omega), bt_get s i hi, if_pos (hb46.2 hc), if_pos (by omega), if_pos (by omega), if_pos (by omega), if_pos (by simp; omega)]
        simp only [Int.toNat_natCast]
        rw [extract_ba]
        simp
      · have e := ih (i + 1) (acc ++ [(s.data.toList.drop j).take (i - j)]) (by omega) (Nat.le_refl _) (by simp; omega)
        rw [Nat.sub_self, List.take_zero, ahead1_nil (splitC_ne _ _)] at e
        rw [hdrop, hc, splitC_eq]
        simpa [ahead1] using e
    · refine Ev.step (f := fun k => posternref20_Parts.l0 k s (acc.map BA) (j : Int) ((i + 1 : Nat) : Int)) (fun k => ?_) ?_
      · simp only [posternref20_Parts.l0]
        rw [w1, if_pos (by omega), if_pos (by omega), bt_get s i hi, if_neg (mt hb46.1 hc)]
      · have e := ih j acc (by omega) (by omega) (by omega)
        rw [hdrop, splitC_cons hc, ahead1_ahead1]
        have hp : (s.data.toList.drop j).take (i - j) ++ [s.data.toList[i]] = (s.data.toList.drop j).take (i + 1 - j) := by
          rw [show i + 1 - j = (i - j) + 1 by omega, List.take_succ_eq_append_getElem (by simp; omega)]
          congr 2
          simp [show j + (i - j) = i by omega]
        rw [hp]
        exact e
theorem ref_parts (s : ByteArray) (hs : s.size ≤ 1099511627776) : Ev (fun k => posternref20_Parts.f k s) ((partsV s.data.toList).map BA) := by
  have := refParts_loop s hs s.data.toList.length 0 0 [] (by omega) (Nat.le_refl _) (Nat.le_refl _)
  simp only [List.nil_append, List.drop_zero, Nat.sub_self, List.take_zero] at this
  rw [ahead1_nil (splitC_ne _ _)] at this
  exact this

/-! ### does a text end in a number? -/
def isDec (c : UInt8) : Bool := decide (48 ≤ (c.toNat : Int)) && decide ((c.toNat : Int) ≤ 57)
def lastV (l : List UInt8) : List UInt8 := (partsV l).getLastD []
def endsV (l : List UInt8) : Bool := if lastV l = [] then false else if (lastV l).all isDec then true else (numberV (lastV l)).2.2 == 0
theorem parts_last (s : ByteArray) : rdOf ByteArray.empty ((partsV s.data.toList).map BA) (((partsV s.data.toList).length - 1 : Nat) : Int) = BA (lastV s.data.toList) := by
  have hpos : 0 < (partsV s.data.toList).length := List.length_pos_iff.2 (partsV_ne _)
  rw [rd_map _ _ (by omega)]
  unfold lastV
  rw [List.getLastD_eq_getLast?, List.getLast?_eq_getElem?, List.getElem?_eq_getElem (by omega)]
  rfl
theorem lastV_len (l : List UInt8) : (lastV l).length ≤ l.length := by
  unfold lastV
  rw [List.getLastD_eq_getLast?]
  cases h : (partsV l).getLast? with
  | none => simp
  | some x => exact partsV_part l x (List.mem_of_getLast? h)
theorem isDec_tab : ∀ b : Fin 256, [48, 49, 50, 51, 52, 53, 54, 55, 56, 57].contains (UInt8.ofNat b.val) = isDec (UInt8.ofNat b.val) := by decide +kernel
theorem isDec_is (c : UInt8) : ([48, 49, 50, 51, 52, 53, 54, 55, 56, 57] : List UInt8).contains c = isDec c := by
  have := isDec_tab ⟨c.toNat, c.toNat_lt⟩
  simpa using this
theorem dropWhile_nil {p : UInt8 → Bool} : ∀ {l : List UInt8}, l.dropWhile p = [] ↔ ∀ x ∈ l, p x = true
  | [] => by simp
  | b :: l => by
    by_cases hb : p b = true
    · rw [List.dropWhile_cons_of_pos hb, dropWhile_nil]
      simp [hb]
    · rw [List.dropWhile_cons_of_neg hb]
      simp [hb]
theorem dropWhile_head {p : UInt8 → Bool} : ∀ {l r : List UInt8} {b : UInt8}, l.dropWhile p = b :: r → p b = false ∧ ∀ x ∈ b :: r, x ∈ l
  | [], _, _, h => by simp at h
  | c :: l, r, b, h => by
    by_cases hb : p c = true
    · rw [List.dropWhile_cons_of_pos hb] at h
      obtain ⟨h1, h2⟩ := dropWhile_head h
      exact ⟨h1, fun x hx => List.mem_cons_of_mem _ (h2 x hx)⟩
    · rw [List.dropWhile_cons_of_neg hb] at h
      injection h with h1 h2
      subst h1 h2
      exact ⟨by simpa using hb, fun x hx => hx⟩
theorem trim_all (l : List UInt8) : Lib.trimS l [48, 49, 50, 51, 52, 53, 54, 55, 56, 57] = [] ↔ l.all isDec = true := by
  have e : (fun c : UInt8 => ([48, 49, 50, 51, 52, 53, 54, 55, 56, 57] : List UInt8).contains c) = isDec := funext isDec_is
  unfold Lib.trimS Lib.trimLeftS Lib.trimRightS
  rw [e, dropWhile_nil]
  simp only [List.mem_reverse, List.all_eq_true]
  constructor
  · intro h x hx
    cases hr : l.reverse.dropWhile isDec with
    | nil => exact dropWhile_nil.1 hr x (by simpa using hx)
    | cons b r =>
      obtain ⟨h1, h2⟩ := dropWhile_head hr
      rw [h b (by rw [hr]; simp)] at h1
      cases h1
  · intro h x hx
    cases hr : l.reverse.dropWhile isDec with
    | nil => rw [hr] at hx; cases hx
    | cons b r =>
      obtain ⟨h1, h2⟩ := dropWhile_head hr
      rw [hr] at hx
      exact h x (by simpa using h2 x hx)
theorem four_ends (s : ByteArray) (hs : s.size ≤ 4294967280) : Ev (fun k => four_Ends.f k s) (endsV s.data.toList) := by
  have hz := size_len s
  have hpos : 0 < (partsV s.data.toList).length := List.length_pos_iff.2 (partsV_ne _)
  have hple := partsL_len (splitC 46 s.data.toList)
  have hsl := splitC_len 46 s.data.toList
  have hpl : (partsV s.data.toList).length ≤ s.data.toList.length + 1 := by unfold partsV; omega
  have w1 : wrap64 (((partsV s.data.toList).length : Int) - 1) = (((partsV s.data.toList).length - 1 : Nat) : Int) := by rw [wrap64_in _ (by omega)]; omega
  have hlast := parts_last s
  have hll := lastV_len s.data.toList
  have htr : strings_Trim.f (BA (lastV s.data.toList)) (⟨#[48, 49, 50, 51, 52, 53, 54, 55, 56, 57]⟩ : ByteArray) = some (BA (Lib.trimS (lastV s.data.toList) [48, 49, 50, 51, 52, 53, 54, 55, 56, 57])) := by
    unfold strings_Trim.f
    rw [if_pos ⟨by rw [ba_size]; omega, by decide, by decide⟩]
    rfl
  unfold endsV
  have hn := number_ev (BA (lastV s.data.toList)) (by rw [ba_size]; omega)
  rw [ba_list] at hn
  have key : ∀ k, four_Ends.f k s = if lastV s.data.toList = [] then some false else if (lastV s.data.toList).all isDec = true then some true else (four_Number.f k (BA (lastV s.data.toList))).bind fun t => some (t.2.2 == 0) := by
    intro k
    unfold four_Ends.f
    rw [parts_f s hs]
    simp only [Option.bind_some, List.length_map]
    rw [w1, if_pos (by omega), if_pos (by omega), hlast, toList_data, ba_list, htr]
    simp only [Option.bind_some]
    rw [toList_data, ba_list]
    by_cases h0 : lastV s.data.toList = []
    · rw [if_pos h0, if_pos h0]
    · rw [if_neg h0, if_neg h0]
      by_cases ha : (lastV s.data.toList).all isDec = true
      · rw [if_pos ((trim_all _).2 ha), if_pos ha]
      · rw [if_neg (mt (trim_all _).1 ha), if_neg ha]
  refine Ev.congr key ?_
  by_cases h0 : lastV s.data.toList = []
  · simp only [if_pos h0]
    exact Ev.now _
  · by_cases ha : (lastV s.data.toList).all isDec = true
    · simp only [if_neg h0, if_pos ha]
      exact Ev.now _
    · simp only [if_neg h0, if_neg ha]
      exact Ev.bind hn (Ev.now _)
theorem refEnds_loop (t : List UInt8) (ht : t.length ≤ 4294967280) : ∀ (m i : Nat) (b : Bool), i + m = t.length →
    Ev (fun k => posternref20_Ends.l0 k (BA t) b (i : Int)) (if b && (t.drop i).all isDec then true else (numberV t).2.2 == 0)
  | 0, i, b, hm => by
    rw [List.drop_of_length_le (by omega)]
    have hn := ref_number (BA t) (by rw [ba_size]; omega)
    rw [ba_list] at hn
    refine Ev.step (f := fun k => (posternref20_Number.f k (BA t)).bind fun p => if b = true then some true else some (p.2.2 == 0)) (fun k => ?_) (Ev.bind hn ?_)
    · simp only [posternref20_Ends.l0]
      rw [if_neg (by rw [ba_size]; omega)]
    · cases b
      · simp only [Bool.false_eq_true, if_false, Bool.false_and]
        exact Ev.now _
      · simp only [if_true, List.all_nil, Bool.and_true]
        exact Ev.now _
  | m + 1, i, b, hm => by
    have hi : i < t.length := by omega
    have w1 : wrap64 ((i : Int) + 1) = ((i + 1 : Nat) : Int) := by rw [wrap64_in _ (by omega)]; omega
    rw [List.drop_eq_getElem_cons hi]
    refine Ev.step (f := fun k => posternref20_Ends.l0 k (BA t) (b && isDec t[i]) ((i + 1 : Nat) : Int)) (fun k => ?_) ?_
    · simp only [posternref20_Ends.l0]
      rw [w1, if_pos (by rw [ba_size]; omega), bt_get (BA t) i hi]
      show (if b = true then (if 0 ≤ (i : Int) then (if (t[i].toNat : Int) ≥ 48 then posternref20_Ends.l0 k (BA t) (decide ((t[i].toNat : Int) ≤ 57)) _ else _) else none) else _) = _
      cases b
      · simp
      · rw [if_pos rfl, if_pos (by omega)]
        unfold isDec
        by_cases h : (t[i].toNat : Int) ≥ 48
        · rw [if_pos h, decide_eq_true (show 48 ≤ (t[i].toNat : Int) from h), Bool.true_and, Bool.true_and]
        · rw [if_neg h, decide_eq_false (show ¬ 48 ≤ (t[i].toNat : Int) from h), Bool.false_and, Bool.and_false]
    · have := refEnds_loop t ht m (i + 1) (b && isDec t[i]) (by omega)
      rw [List.all_cons, ← Bool.and_assoc]
      exact this
theorem ref_ends (s : ByteArray) (hs : s.size ≤ 4294967280) : Ev (fun k => posternref20_Ends.f k s) (endsV s.data.toList) := by
  have hz := size_len s
  have hpos : 0 < (partsV s.data.toList).length := List.length_pos_iff.2 (partsV_ne _)
  have hple := partsL_len (splitC 46 s.data.toList)
  have hsl := splitC_len 46 s.data.toList
  have hpl : (partsV s.data.toList).length ≤ s.data.toList.length + 1 := by unfold partsV; omega
  have w1 : wrap64 (((partsV s.data.toList).length : Int) - 1) = (((partsV s.data.toList).length - 1 : Nat) : Int) := by rw [wrap64_in _ (by omega)]; omega
  have hlast := parts_last s
  have hll := lastV_len s.data.toList
  refine Ev.bind (ref_parts s (by omega)) ?_
  refine Ev.congr (f := fun k => if lastV s.data.toList = [] then some false else posternref20_Ends.l0 k (BA (lastV s.data.toList)) true ((0 : Nat) : Int)) (fun k => ?_) ?_
  · simp only [List.length_map]
    rw [w1, if_pos (by omega), if_pos (by omega), hlast, toList_data, ba_list]
    rfl
  · unfold endsV
    by_cases h0 : lastV s.data.toList = []
    · simp only [if_pos h0]
      exact Ev.now _
    · simp only [if_neg h0]
      have := refEnds_loop (lastV s.data.toList) (by omega) _ 0 true (Nat.zero_add _)
      simpa using this

/-! ### the loop is awake -/
theorem awake_ev : Ev (fun k => posternlaw20_awake.f k) true := by
  have h1 : four_Parse.f (⟨#[49, 57, 50, 46, 48, 120, 48, 48, 65, 56, 48, 48, 48, 49]⟩ : ByteArray) = some (3232235521, 0, 0) := by
    unfold four_Parse.f
    rw [if_pos (by decide)]
    exact congrArg some (by decide +kernel)
  have h2 : four_Print.f 3232235521 = some (BA [49, 57, 50, 46, 49, 54, 56, 46, 48, 46, 49]) := by
    unfold four_Print.f
    rw [if_pos (by decide)]
    congr 2
    unfold printV oct4
    simp only [List.map_cons, List.map_nil]
    rw [itoa_small (by decide) (by decide), itoa_small (by decide) (by decide), itoa_small (by decide) (by decide), itoa_small (by decide) (by decide)]
    decide +kernel
  have h3 := four_ends (⟨#[49, 46, 50]⟩ : ByteArray) (by decide)
  rw [show endsV (⟨#[49, 46, 50]⟩ : ByteArray).data.toList = true by decide +kernel] at h3
  refine Ev.congr (f := fun k => (four_Ends.f k (⟨#[49, 46, 50]⟩ : ByteArray)).bind fun t => some t) (fun k => ?_) (Ev.bind h3 (Ev.now _))
  unfold posternlaw20_awake.f
  rw [h1]
  simp only [Option.bind_some]
  simp only [if_true]
  rw [h2]
  simp only [Option.bind_some]
  rw [toList_data, ba_list, if_pos rfl]
end Go.Proofs.YtgnahagnmodpdaaDoor
