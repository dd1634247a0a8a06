/- Several texts in one (wip/gen/pack.py): LnP LnM Ext LnFeed LnFeeds LnFeedsLaw Frame OpenTexts LineFeedsCard. -/
import Derived.Test.YthngjkaphfkmmaaDoorPLF0
import Derived.Test.YthngjkaphfkmmaaDoorPLF1
import Derived.Below
import Derived.Laws.AppendOwn
import Derived.Laws.OwnMore
import Derived.BigQuiet
import Derived.Deep.QuietTactic
import Derived.Handy
import Derived.ProofKit
import Derived.Test.YthngjkaphfkmmaaDoorRows
import Derived.WalkKit
import Derived.WalkLawsBesides
import Derived.WalkSpells
import Derived.Lib.Builder
import Derived.Laws.Cover4
import Derived.Outline
import Derived.OpenShut
import Derived.ChangeSame
import Derived.ChangeMaps5
import Derived.Deep.DeepHandedRow
import Derived.LaidSub
import Derived.Lib.LaidTab
import Derived.Test.YthngjkaphfkmmaaDoorCards
import Derived.Test.YthngjkaphfkmmaaDoorTie
/-! LnP -/
namespace Go.Proofs.YthngjkaphfkmmaaDoor
open Go.RowKit Go.Proofs.YthngjkaphfkmmaaDoorW.PrintWords Go.Proofs.YthngjkaphfkmmaaDoor.X Go.IntWalk
set_option linter.unusedVariables false
set_option linter.unusedSimpArgs false
theorem rdm {L : List (List UInt8)} {i : Nat} (h : i < L.length) : rdOf ByteArray.empty (L.map BA) (i : Int) = BA L[i] := by
  simp [rdOf, h]
theorem take_next {L : List (List UInt8)} {i : Nat} (hi : i < L.length) : L.take (i + 1) = L.take i ++ [L[i]] := by
  rw [List.take_add_one, List.getElem?_eq_getElem hi]
  rfl
theorem head_at (L : List (List UInt8)) (h : 0 < L.length) : L.headD [] = L[0] := by
  cases L with
  | nil => exact absurd h (Nat.lt_irrefl 0)
  | cons a b => rfl
theorem wsucc (i : Nat) (h : i < 9223372036854775807) : wrap64 ((i : Int) + 1) = ((i + 1 : Nat) : Int) := by rw [wrap64_in _ (by omega)]; omega
theorem wpred (i : Nat) (h : i < 9223372036854775807) : wrap64 (((i + 1 : Nat) : Int) - 1) = (i : Int) := by rw [wrap64_in _ (by omega)]; omega
theorem snoc_drop (l : List UInt8) (c : UInt8) : (l ++ [c]).drop l.length = [c] := by simp
theorem suffix_cr (s : List UInt8) (hs : s.length < 9223372036854775807) : strings_TrimSuffix.f (BA s) (⟨#[13]⟩ : ByteArray) = some (BA (crL s)) := by
  unfold strings_TrimSuffix.f stringslite_TrimSuffix.f stringslite_HasSuffix.f
  rcases List.eq_nil_or_concat s with rfl | ⟨l, c, rfl⟩
  · rfl
  · rw [List.concat_eq_append]
    have e1 : ((BA (l ++ [c])).size : Int) = ((l.length + 1 : Nat) : Int) := by rw [ba_size]; simp
    have e2 : (((⟨#[13]⟩ : ByteArray).size : Nat) : Int) = 1 := rfl
    have hl : l.length < 9223372036854775807 := by simp at hs; omega
    rw [e1, e2, wpred _ hl, if_pos (by omega), if_pos (by omega), if_pos (by omega)]
    have e3 : (BA (l ++ [c])).extract (l.length : Int).toNat (BA (l ++ [c])).size = BA [c] := by
      rw [extract_tail, ba_list, Int.toNat_natCast, snoc_drop]
    have e4 : (BA (l ++ [c])).extract 0 (l.length : Int).toNat = BA l := by
      rw [extract_head, ba_list, Int.toNat_natCast, List.take_left']
      rfl
    rw [e3, e4, Option.bind_some]
    have e5 : ((BA [c]).toList == (⟨#[13]⟩ : ByteArray).toList) = (c == 13) := by rw [toList_data, toList_data]; simp [BA]
    rw [e5]
    have e6 : crL (l ++ [c]) = if c = 13 then l else l ++ [c] := by unfold crL; simp
    rw [e6]
    by_cases hc : c = 13
    · rw [if_pos hc, if_pos (by simpa using hc), if_pos (by omega), if_pos (by omega)]
      rfl
    · rw [if_neg hc, if_neg (by simpa using hc)]
      rfl
theorem trim_f (p : List UInt8) (hp : p.length ≤ 9223372036854775807) : strings_Trim.f (BA p) (⟨#[32, 9]⟩ : ByteArray) = some (BA (bareL p)) := by
  unfold strings_Trim.f
  rw [if_pos ⟨by rw [ba_size]; exact hp, by decide, by decide⟩]
  rw [show (⟨#[32, 9]⟩ : ByteArray).data.toList = [32, 9] from rfl, ba_list, trim_blank]
  rfl
theorem cut_hash (s : List UInt8) (hs : s.length ≤ 9223372036854775807) : strings_Cut.f (BA s) (⟨#[35]⟩ : ByteArray) = some (BA (dataL s), BA (noteL s), s.contains 35) := by
  unfold strings_Cut.f
  rw [if_pos (Or.inr ⟨rfl, by rw [ba_size]; exact hs⟩)]
  rw [show (⟨#[35]⟩ : ByteArray).data.toList = [35] from rfl, ba_list, cut_35]
  rfl
theorem split_semi (s : List UInt8) (hs : s.length < 4294967281) : strings_Split.f (BA s) (⟨#[59]⟩ : ByteArray) = some ((splitC 59 s).map BA) := by
  unfold strings_Split.f
  rw [if_pos ⟨by rw [ba_size]; exact hs, by decide⟩]
  rw [show (⟨#[59]⟩ : ByteArray) = BA [59] from rfl, splitB_one, ba_list]
def someF (L : List (List UInt8)) : Bool := decide (1 < L.length) || (L.headD [] != [])
theorem some_end (num : Int) (L : List (List UInt8)) (note : ByteArray) (hne : L ≠ []) :
    (if ((L.map BA).length : Int) > 1 then (some (num, L.map BA, note, true)) else (if 0 < ((L.map BA).length : Int) then (some (num, L.map BA, note, ((rdOf ByteArray.empty (L.map BA) 0).toList != ([] : List UInt8)))) else (none))) = some (num, L.map BA, note, someF L) := by
  unfold someF
  rw [List.length_map]
  have hl : 0 < L.length := List.length_pos_iff.2 hne
  by_cases h : 1 < L.length
  · rw [if_pos (by omega), decide_eq_true h, Bool.true_or]
  · rw [if_neg (by omega), if_pos (by omega), decide_eq_false h, Bool.false_or]
    have := rdm (L := L) (i := 0) hl
    rw [show ((0 : Nat) : Int) = 0 from rfl] at this
    rw [this, toList_data, ba_list]
    cases L with
    | nil => exact absurd rfl hne
    | cons p L => rfl
theorem cut_loop (L : List (List UInt8)) (num : Int) (note : ByteArray) (hL : L.length ≤ 1048577) (hne : L ≠ []) (hp : ∀ p ∈ L, p.length ≤ 9223372036854775807) : ∀ (m i : Nat), i + m = L.length →
    Ev (fun k => line_cut.l0 k (L.map BA) (((L.map BA).length : Nat) : Int) (i : Int) num (((L.take i).map bareL).map BA) note) (num, (L.map bareL).map BA, note, someF (L.map bareL))
  | 0, i, hm => by
    refine Ev.step (f := fun k => some _) (fun k => ?_) (Ev.now _)
    simp only [line_cut.l0]
    rw [if_neg (by rw [List.length_map]; omega), List.take_of_length_le (by omega)]
    exact some_end num (L.map bareL) note (by simpa using hne)
  | m + 1, i, hm => by
    have hi : i < L.length := by omega
    have ih := cut_loop L num note hL hne hp m (i + 1) (by omega)
    refine Ev.step (f := fun k => line_cut.l0 k (L.map BA) (((L.map BA).length : Nat) : Int) ((i + 1 : Nat) : Int) num (((L.take (i + 1)).map bareL).map BA) note) (fun k => ?_) ih
    simp only [line_cut.l0]
    rw [if_pos (by rw [List.length_map]; omega), if_pos (by omega), if_pos (by rw [List.length_map]; omega), rdm hi, trim_f _ (hp _ (List.getElem_mem hi)), Option.bind_some, wsucc i (by omega)]
    rw [if_pos (by simp; omega)]
    rw [take_next hi, List.map_append, List.map_append]
    rfl
theorem crL_len (s : List UInt8) : (crL s).length ≤ s.length := by unfold crL; split <;> simp
theorem dataL_len (s : List UInt8) : (dataL s).length ≤ s.length := (List.takeWhile_sublist _).length_le
theorem noteL_len (s : List UInt8) : (noteL s).length ≤ s.length := by
  unfold noteL
  have := (List.dropWhile_sublist (l := s) (· != 35)).length_le
  simp
  omega
theorem lnV_some (n : Int) (s : List UInt8) : (lnV n s).some = someF (lnV n s).fields := rfl
theorem line_cut_ev (s : List UInt8) (n : Int) (hs : s.length ≤ 1048576) : Ev (fun k => line_cut.f k (BA s) n) (n, (lnV n s).fields.map BA, BA (lnV n s).note, (lnV n s).some) := by
  have h1 := crL_len s
  have h2 := dataL_len (crL s)
  have h3 := noteL_len (crL s)
  have h4 := splitC_len 59 (dataL (crL s))
  have hl := cut_loop (splitC 59 (dataL (crL s))) n (BA (bareL (noteL (crL s)))) (by omega) (splitC_ne _ _) (fun p hp => by have := splitC_part 59 _ p hp; omega) (splitC 59 (dataL (crL s))).length 0 (by omega)
  refine Ev.congr (fun k => ?_) hl
  unfold line_cut.f
  rw [suffix_cr s (by omega), Option.bind_some, cut_hash _ (by omega), Option.bind_some]
  dsimp only
  rw [trim_f _ (by omega), Option.bind_some, split_semi _ (by omega), Option.bind_some]
  rfl
theorem byte_blank (b : UInt8) : (blankB b = true) ↔ ((b.toNat : Int) = 32 ∨ (b.toNat : Int) = 9) := by
  unfold blankB
  rw [Bool.or_eq_true, beq_iff_eq, beq_iff_eq]
  exact or_congr (byte_eq b 32).symm (byte_eq b 9).symm
theorem bare_back : ∀ (m : Nat) (l : List UInt8), l.length ≤ m → l.length < 9223372036854775807 → Ev (fun k => posternref09_bare.l1 k (BA l)) (BA ((l.reverse.dropWhile blankB).reverse))
  | m, l, hm, h63 => by
    rcases List.eq_nil_or_concat l with rfl | ⟨r, c, rfl⟩
    · refine Ev.step (f := fun k => some (BA [])) (fun k => ?_) (Ev.now _)
      simp only [posternref09_bare.l1]
      rfl
    · rw [List.concat_eq_append] at *
      have hl : r.length < 9223372036854775807 := by simp at h63; omega
      have e1 : ((BA (r ++ [c])).size : Int) = ((r.length + 1 : Nat) : Int) := by rw [ba_size]; simp
      have hb : bt (BA (r ++ [c])) (r.length : Int) = (c.toNat : Int) := by
        rw [bt_get _ r.length (by rw [ba_list]; simp)]
        simp [ba_list]
      have e4 : (BA (r ++ [c])).extract 0 (r.length : Int).toNat = BA r := by
        rw [extract_head, ba_list, Int.toNat_natCast, List.take_left']
        rfl
      rw [List.reverse_append]
      by_cases hc : blankB c = true
      · obtain ⟨m', rfl⟩ : ∃ m', m = m' + 1 := ⟨m - 1, by simp at hm; omega⟩
        have ih := bare_back m' r (by simp at hm; omega) hl
        have e : ([c].reverse ++ r.reverse).dropWhile blankB = r.reverse.dropWhile blankB := by simp [List.dropWhile_cons, hc]
        rw [e]
        refine Ev.step (f := fun k => posternref09_bare.l1 k (BA r)) (fun k => ?_) ih
        simp only [posternref09_bare.l1]
        rw [e1, wpred _ hl, if_pos (by omega), if_pos (by omega), if_pos (by omega), hb, e4]
        rcases (byte_blank c).1 hc with h | h
        · rw [if_pos h, if_pos (by omega)]
        · rw [if_neg (by omega), if_pos h, if_pos (by omega)]
      · have e : ([c].reverse ++ r.reverse).dropWhile blankB = c :: r.reverse := by simp [List.dropWhile_cons, hc]
        rw [e, List.reverse_cons, List.reverse_reverse]
        refine Ev.step (f := fun k => some (BA (r ++ [c]))) (fun k => ?_) (Ev.now _)
        have hn := mt (byte_blank c).2 hc
        simp only [posternref09_bare.l1]
        rw [e1, wpred _ hl, if_pos (by omega), if_pos (by omega), if_pos (by omega), hb, if_neg (fun h => hn (.inl h)), if_neg (fun h => hn (.inr h))]
theorem bare_front : ∀ (l : List UInt8), l.length < 9223372036854775807 → Ev (fun k => posternref09_bare.l0 k (BA l)) (BA (((l.dropWhile blankB).reverse.dropWhile blankB).reverse))
  | [], h63 => by
    refine Ev.step (f := fun k => posternref09_bare.j1 k (BA [])) (fun k => ?_) (Ev.step (f := fun k => posternref09_bare.l1 k (BA [])) (fun k => ?_) (bare_back 0 [] (Nat.le_refl _) h63))
    · simp only [posternref09_bare.l0]
      rfl
    · simp only [posternref09_bare.j1]
  | c :: l, h63 => by
    have hl : l.length < 9223372036854775807 := by simp at h63; omega
    have e1 : ((BA (c :: l)).size : Int) = ((l.length + 1 : Nat) : Int) := by rw [ba_size]; simp
    have hb : bt (BA (c :: l)) 0 = (c.toNat : Int) := by
      have := bt_get (BA (c :: l)) 0 (by rw [ba_list]; simp)
      simpa [ba_list] using this
    have e4 : (BA (c :: l)).extract 1 (BA (c :: l)).size = BA l := by rw [extract_tail, ba_list]; rfl
    by_cases hc : blankB c = true
    · have ih := bare_front l hl
      rw [show (c :: l).dropWhile blankB = l.dropWhile blankB from by simp [List.dropWhile_cons, hc]]
      refine Ev.step (f := fun k => posternref09_bare.l0 k (BA l)) (fun k => ?_) ih
      simp only [posternref09_bare.l0]
      rw [e1, if_pos (by omega), if_pos (by omega), hb, e4]
      rcases (byte_blank c).1 hc with h | h
      · rw [if_pos h, if_pos (by omega)]
      · rw [if_neg (by omega), if_pos h, if_pos (by omega)]
    · rw [show (c :: l).dropWhile blankB = c :: l from by simp [List.dropWhile_cons, hc]]
      have hn := mt (byte_blank c).2 hc
      refine Ev.step (f := fun k => posternref09_bare.j1 k (BA (c :: l))) (fun k => ?_) (Ev.step (f := fun k => posternref09_bare.l1 k (BA (c :: l))) (fun k => ?_) (bare_back _ (c :: l) (Nat.le_refl _) h63))
      · simp only [posternref09_bare.l0]
        rw [e1, if_pos (by omega), if_pos (by omega), hb, if_neg (fun h => hn (.inl h)), if_neg (fun h => hn (.inr h))]
      · simp only [posternref09_bare.j1]
theorem bare_ev (l : List UInt8) (h : l.length < 9223372036854775807) : Ev (fun k => posternref09_bare.f k (BA l)) (BA (bareL l)) := by
  have := bare_front l h
  rw [← bareL_front] at this
  exact Ev.congr (fun k => rfl) this
theorem one_loop (L : List (List UInt8)) (num : Int) (note : ByteArray) (hL : L.length ≤ 1048577) (hp : ∀ p ∈ L, p.length < 9223372036854775807) : ∀ (m i : Nat), i + m = L.length →
    Ev (fun k => posternref09_one.l1 k (L.map BA) (i : Int) num (((L.take i).map bareL).map BA) note) (num, (L.map bareL).map BA, note)
  | 0, i, hm => by
    refine Ev.step (f := fun k => some _) (fun k => ?_) (Ev.now _)
    simp only [posternref09_one.l1]
    rw [if_neg (by rw [List.length_map]; omega), List.take_of_length_le (by omega)]
  | m + 1, i, hm => by
    have hi : i < L.length := by omega
    have ih := one_loop L num note hL hp m (i + 1) (by omega)
    refine Ev.step (f := fun k => (posternref09_bare.f k (BA L[i])).bind fun t => posternref09_one.l1 k (L.map BA) ((i + 1 : Nat) : Int) num (((L.take i).map bareL).map BA ++ [t]) note) (fun k => ?_) ?_
    · simp only [posternref09_one.l1]
      rw [if_pos (by rw [List.length_map]; omega), if_pos (by omega), rdm hi, wsucc i (by omega)]
      have hfew : (((L.take i).map bareL).map BA).length < 8796093022208 := by simp; omega
      simp only [if_pos hfew]
    · refine Ev.bind (bare_ev _ (hp _ (List.getElem_mem hi))) ?_
      have e : ((L.take i).map bareL).map BA ++ [BA (bareL L[i])] = ((L.take (i + 1)).map bareL).map BA := by
        rw [take_next hi, List.map_append, List.map_append]
        rfl
      rw [e]
      exact ih
theorem hash_at (s : List UInt8) (num : Int) (hs : s.length ≤ 1048576) : ∀ (m i : Nat), i + m = s.length → (∀ j, j < i → s[j]? ≠ some 35) →
    Ev (fun k => posternref09_one.l0 k (BA s) (i : Int) num (⟨#[]⟩ : ByteArray)) (num, ((splitC 59 (dataL s)).map bareL).map BA, BA (bareL (noteL s)))
  | m, i, hm, hj => by
    have hz : ((BA s).size : Int) = (s.length : Int) := by rw [ba_size]
    -- the place is found
    have found : ∀ (f : Nat → Option (Int × List ByteArray × ByteArray)), (∀ k, f (k + 1) = posternref09_one.j3 k (BA s) (i : Int) num (⟨#[]⟩ : ByteArray)) → (i = s.length ∨ s[i]? = some 35) → Ev f (num, ((splitC 59 (dataL s)).map bareL).map BA, BA (bareL (noteL s))) := by
      intro f hf hi
      have hd : dataL s = s.take i := by
        unfold dataL
        rw [show s.takeWhile (· != 35) = s.take i from ?_]
        clear hf hm hz hs
        induction s generalizing i with
        | nil => simp
        | cons b s ih =>
          cases i with
          | zero =>
            rcases hi with hi | hi
            · simp at hi
            · have hb : b = 35 := by simpa using hi
              subst hb
              simp
          | succ i =>
            have hb : b ≠ 35 := fun e => hj 0 (by omega) (by simp [e])
            have := ih i (fun j hj' => by have := hj (j + 1) (by omega); simpa using this) (by simpa using hi)
            simp [hb, this]
      have hn : noteL s = s.drop (i + 1) := by
        unfold noteL
        have : s.dropWhile (· != 35) = s.drop i := by
          have e := List.takeWhile_append_dropWhile (p := (· != 35)) (l := s)
          rw [show s.takeWhile (· != 35) = s.take i from hd] at e
          conv at e => rhs; rw [← List.take_append_drop i s]
          exact List.append_cancel_left e
        rw [this, List.drop_drop]
      have hsl := splitC_len 59 (dataL s)
      have hdl := dataL_len s
      have j4 : Ev (fun k => posternref09_one.j4 k (BA s) (i : Int) num (BA (bareL (noteL s)))) (num, ((splitC 59 (dataL s)).map bareL).map BA, BA (bareL (noteL s))) := by
        refine Ev.step (f := fun k => (posternref09_cut.f k (BA (dataL s)) 59).bind fun t => posternref09_one.l1 k t 0 num [] (BA (bareL (noteL s)))) (fun k => ?_) ?_
        · simp only [posternref09_one.j4]
          have e4 : (BA s).extract 0 (i : Int).toNat = BA (dataL s) := by rw [extract_head, ba_list, Int.toNat_natCast, hd]
          rw [if_pos (by omega), if_pos (by omega), e4]
        · refine Ev.bind (ref_cut (BA (dataL s)) 59 (by rw [ba_size]; omega)) ?_
          rw [ba_list]
          exact one_loop (splitC 59 (dataL s)) num _ (by omega) (fun p hp => by have := splitC_part 59 _ p hp; omega) _ 0 (Nat.zero_add _)
      rcases Nat.lt_or_ge i s.length with hlt | hge
      · refine Ev.step hf (Ev.step (f := fun k => (posternref09_bare.f k (BA (noteL s))).bind fun t => posternref09_one.j4 k (BA s) (i : Int) num t) (fun k => ?_) ?_)
        · simp only [posternref09_one.j3]
          have e4 : (BA s).extract ((i + 1 : Nat) : Int).toNat (BA s).size = BA (noteL s) := by rw [extract_tail, ba_list, Int.toNat_natCast, hn]
          rw [if_pos (by omega), wsucc i (by omega), if_pos (by omega), if_pos (by omega), e4]
        · refine Ev.bind (bare_ev _ (by have := noteL_len s; omega)) j4
      · refine Ev.step hf (Ev.step (f := fun k => posternref09_one.j4 k (BA s) (i : Int) num (⟨#[]⟩ : ByteArray)) (fun k => ?_) ?_)
        · simp only [posternref09_one.j3]
          rw [if_neg (by omega)]
        · have e : noteL s = [] := by rw [hn]; exact List.drop_of_length_le (by omega)
          rw [e] at j4 ⊢
          exact j4
    cases m with
    | zero =>
      refine found _ (fun k => ?_) (.inl (by omega))
      simp only [posternref09_one.l0]
      rw [if_neg (by omega)]
    | succ m =>
      have hi : i < s.length := by omega
      have hb := bt_get (BA s) i (by rw [ba_list]; exact hi)
      simp only [ba_list] at hb
      by_cases hc : s[i] = 35
      · refine found _ (fun k => ?_) (.inr (by rw [List.getElem?_eq_getElem hi, hc]))
        simp only [posternref09_one.l0]
        rw [if_pos (by omega), if_pos (by omega), hb, if_pos (show (s[i].toNat : Int) = 35 from (byte_eq _ 35).2 hc)]
      · have ih := hash_at s num hs m (i + 1) (by omega) (fun j hj' => by
          by_cases e : j = i
          · subst e
            rw [List.getElem?_eq_getElem hi]
            intro h
            exact hc (Option.some.inj h)
          · exact hj j (by omega))
        refine Ev.step (f := fun k => posternref09_one.l0 k (BA s) ((i + 1 : Nat) : Int) num (⟨#[]⟩ : ByteArray)) (fun k => ?_) ih
        simp only [posternref09_one.l0]
        rw [if_pos (by omega), if_pos (by omega), hb, if_neg (show ¬ (s[i].toNat : Int) = 35 from mt (byte_eq _ 35).1 hc), wsucc i (by omega)]
theorem one_ev (s : List UInt8) (n : Int) (hs : s.length ≤ 1048576) : Ev (fun k => posternref09_one.f k (BA s) n) (n, (lnV n s).fields.map BA, BA (lnV n s).note) := by
  have j1 : Ev (fun k => posternref09_one.j1 k (BA (crL s)) n) (n, (lnV n s).fields.map BA, BA (lnV n s).note) := by
    refine Ev.step (f := fun k => posternref09_one.l0 k (BA (crL s)) ((0 : Nat) : Int) n (⟨#[]⟩ : ByteArray)) (fun k => by simp only [posternref09_one.j1]; rfl) ?_
    exact hash_at (crL s) n (by have := crL_len s; omega) (crL s).length 0 (Nat.zero_add _) (fun j h => absurd h (Nat.not_lt_zero _))
  rcases List.eq_nil_or_concat s with h0 | ⟨l, c, h0⟩
  · subst h0
    refine Ev.congr (f := fun k => posternref09_one.j0 k (BA []) n false) (fun k => rfl) (Ev.step (f := fun k => posternref09_one.j1 k (BA []) n) (fun k => ?_) j1)
    simp only [posternref09_one.j0, Bool.false_eq_true, if_false]
  · rw [List.concat_eq_append] at h0
    have e1 : ((BA s).size : Int) = ((l.length + 1 : Nat) : Int) := by rw [ba_size, h0]; simp
    have hl : l.length < 9223372036854775807 := by rw [h0] at hs; simp at hs; omega
    have hb : bt (BA s) (l.length : Int) = (c.toNat : Int) := by
      rw [bt_get _ l.length (by rw [ba_list, h0]; simp)]
      simp [ba_list, h0]
    refine Ev.congr (f := fun k => posternref09_one.j0 k (BA s) n ((c.toNat : Int) == 13)) (fun k => ?_) (Ev.step (f := fun k => posternref09_one.j1 k (BA (crL s)) n) (fun k => ?_) j1)
    · unfold posternref09_one.f
      rw [e1, wpred _ hl, if_pos (by omega), if_pos (by omega), if_pos (by omega), hb]
    · simp only [posternref09_one.j0]
      have e4 : (BA s).extract 0 (l.length : Int).toNat = BA l := by
        rw [extract_head, ba_list, Int.toNat_natCast, h0, List.take_left']
        rfl
      have e6 : crL s = if c = 13 then l else s := by rw [h0]; unfold crL; simp
      rw [e6]
      by_cases hc : c = 13
      · rw [if_pos hc, if_pos (by rw [hc]; rfl), e1, wpred _ hl, if_pos (by omega), if_pos (by omega), e4]
      · have hne : ((c.toNat : Int) == 13) = false := by
          rw [beq_eq_false_iff_ne]
          exact fun e => hc ((byte_eq c 13).1 e)
        rw [if_neg hc, hne]
        simp
def LnV.s (x : LnV) : S58 := ⟨x.num, x.fields.map BA, BA x.note⟩
def LnV.d (x : LnV) : S60 := ⟨x.num, x.fields.map BA, BA x.note⟩
theorem linesFrom_len : ∀ (ps : List (List UInt8)) (n : Int), (linesFrom n ps).length ≤ ps.length
  | [], _ => Nat.le_refl _
  | p :: ps, n => by
    rw [linesFrom, List.length_append, List.length_cons]
    have := linesFrom_len ps (n + 1)
    split <;> simp <;> omega
theorem lines_loop (L : List (List UInt8)) (hL : L.length ≤ 1048577) (hp : ∀ p ∈ L, p.length ≤ 1048576) : ∀ (m i : Nat), i + m = L.length →
    Ev (fun k => posternref09_Lines.l0 k (L.map BA) ((linesFrom 1 (L.take i)).map LnV.d) (i : Int)) ((linesFrom 1 L).map LnV.d, (L.length : Int))
  | 0, i, hm => by
    refine Ev.step (f := fun k => some _) (fun k => ?_) (Ev.now _)
    simp only [posternref09_Lines.l0]
    rw [if_neg (by rw [List.length_map]; omega), List.take_of_length_le (by omega), List.length_map]
  | m + 1, i, hm => by
    have hi : i < L.length := by omega
    have ih := lines_loop L hL hp m (i + 1) (by omega)
    have htk : L.take (i + 1) = L.take i ++ [L[i]] := by
      rw [List.take_add_one, List.getElem?_eq_getElem hi]
      rfl
    have hlen : (L.take i).length = i := by simp; omega
    have hnew : linesFrom 1 (L.take (i + 1)) = linesFrom 1 (L.take i) ++ (if (lnV ((i : Int) + 1) L[i]).some = true then [lnV ((i : Int) + 1) L[i]] else []) := by
      rw [htk, linesFrom_append, hlen, Int.add_comm 1]
      simp [linesFrom]
    rw [hnew] at ih
    have hlt := linesFrom_len (L.take i) 1
    rw [hlen] at hlt
    have h1 := one_ev L[i] ((i : Int) + 1) (hp _ (List.getElem_mem hi))
    refine Ev.step (fun k => ?_) (Ev.bind (f := fun k bt208 => (if (bt208.2.1.length : Int) > 1 then (if ((linesFrom 1 (L.take i)).map LnV.d).length < 2932031007402 then (posternref09_Lines.l0 k (L.map BA) ((linesFrom 1 (L.take i)).map LnV.d ++ [(⟨bt208.1, bt208.2.1, bt208.2.2⟩ : S60)]) ((i + 1 : Nat) : Int)) else (none)) else (if 0 < (bt208.2.1.length : Int) then (if (rdOf ByteArray.empty bt208.2.1 0).toList = ([] : List UInt8) then (posternref09_Lines.l0 k (L.map BA) ((linesFrom 1 (L.take i)).map LnV.d) ((i + 1 : Nat) : Int)) else (if ((linesFrom 1 (L.take i)).map LnV.d).length < 2932031007402 then (posternref09_Lines.l0 k (L.map BA) ((linesFrom 1 (L.take i)).map LnV.d ++ [(⟨bt208.1, bt208.2.1, bt208.2.2⟩ : S60)]) ((i + 1 : Nat) : Int)) else (none))) else (none)))) h1 ?_)
    · simp only [posternref09_Lines.l0]
      rw [if_pos (by rw [List.length_map]; omega), if_pos (by omega), rdm hi, wsucc i (by omega)]
      rw [show (((i + 1 : Nat) : Int)) = (i : Int) + 1 from by omega]
    · refine Ev.congr (fun k => ?_) ih
      dsimp only
      have hne : (lnV ((i : Int) + 1) L[i]).fields ≠ [] := by simp [lnV, splitC_ne]
      have hpos : 0 < (lnV ((i : Int) + 1) L[i]).fields.length := List.length_pos_iff.2 hne
      have hfew : ((linesFrom 1 (L.take i)).map LnV.d).length < 2932031007402 := by rw [List.length_map]; omega
      have hd : ((linesFrom 1 (L.take i)) ++ [lnV ((i : Int) + 1) L[i]]).map LnV.d = (linesFrom 1 (L.take i)).map LnV.d ++ [(⟨(i : Int) + 1, (lnV ((i : Int) + 1) L[i]).fields.map BA, BA (lnV ((i : Int) + 1) L[i]).note⟩ : S60)] := by
        rw [List.map_append]
        rfl
      rw [lnV_some]
      have hr := rdm hpos
      rw [show ((0 : Nat) : Int) = 0 from rfl] at hr
      rw [List.length_map, hr, if_pos hfew]
      unfold someF
      by_cases h2 : 1 < (lnV ((i : Int) + 1) L[i]).fields.length
      · rw [if_pos (by omega), decide_eq_true h2, Bool.true_or, if_pos rfl, hd]
      · rw [if_neg (by omega), if_pos (by omega), decide_eq_false h2, Bool.false_or]
        rw [head_at _ hpos, toList_data, ba_list]
        by_cases h3 : (lnV ((i : Int) + 1) L[i]).fields[0] = []
        · rw [if_pos h3, if_neg (by simp [h3]), List.append_nil]
        · rw [if_neg h3, if_pos (by simp [h3]), hd]
theorem refLines_ev (s : List UInt8) (hs : s.length ≤ 1048576) : Ev (fun k => posternref09_Lines.f k (BA s)) ((linesL s).map LnV.d, ((piecesL s).length : Int)) := by
  have hsl := splitC_len 10 s
  have hpt := splitC_part 10 s
  have loop : ∀ L : List (List UInt8), L.length ≤ 1048577 → (∀ p ∈ L, p.length ≤ 1048576) → Ev (fun k => posternref09_Lines.j0 k (L.map BA)) ((linesFrom 1 L).map LnV.d, (L.length : Int)) := by
    intro L h1 h2
    refine Ev.step (f := fun k => posternref09_Lines.l0 k (L.map BA) ((linesFrom 1 (L.take 0)).map LnV.d) ((0 : Nat) : Int)) (fun k => ?_) (lines_loop L h1 h2 L.length 0 (Nat.zero_add _))
    simp only [posternref09_Lines.j0]
    rfl
  unfold posternref09_Lines.f
  refine Ev.bind (ref_cut (BA s) 10 (by rw [ba_size]; omega)) ?_
  rw [ba_list]
  unfold linesL piecesL
  rcases List.eq_nil_or_concat (splitC 10 s) with h0 | ⟨L, p, h0⟩
  · exact absurd h0 (splitC_ne _ _)
  · rw [List.concat_eq_append] at h0
    rw [h0] at hsl hpt ⊢
    have hl : L.length ≤ 1048576 := by simp at hsl; omega
    have e1 : ((((L ++ [p]).map BA).length : Nat) : Int) = ((L.length + 1 : Nat) : Int) := by simp
    have e2 : rdOf ByteArray.empty ((L ++ [p]).map BA) (L.length : Int) = BA p := by
      rw [rdm (i := L.length) (by simp)]
      simp
    have e3 : ((L ++ [p]).map BA).take (L.length : Int).toNat = L.map BA := by
      rw [Int.toNat_natCast, ← List.map_take, List.take_left']
      rfl
    by_cases hp0 : p = []
    · rw [if_pos (by simp [hp0]), List.dropLast_concat]
      refine Ev.congr (f := fun k => posternref09_Lines.j0 k (L.map BA)) (fun k => ?_) (loop L (by omega) (fun q hq => by have := hpt q (by simp [hq]); omega))
      rw [e1, wpred _ (by omega), if_pos (by omega), if_pos (by omega), e2, toList_data, ba_list, if_pos hp0, if_pos (by omega), e3]
    · rw [if_neg (by simp [hp0])]
      refine Ev.congr (f := fun k => posternref09_Lines.j0 k ((L ++ [p]).map BA)) (fun k => ?_) (loop (L ++ [p]) (by simp; omega) (fun q hq => by have := hpt q hq; omega))
      rw [e1, wpred _ (by omega), if_pos (by omega), if_pos (by omega), e2, toList_data, ba_list, if_neg hp0]
theorem same_loop (F : List ByteArray) (a b : Int) (s t : ByteArray) (hF : F.length < 9223372036854775807) : ∀ (m i : Nat), i + m = F.length → Ev (fun k => posternlaw09_same.l0 k (i : Int) a F s b F t) true
  | 0, i, hm => by
    refine Ev.step (f := fun k => some true) (fun k => ?_) (Ev.now _)
    simp only [posternlaw09_same.l0]
    rw [if_neg (by omega)]
  | m + 1, i, hm => by
    refine Ev.step (f := fun k => posternlaw09_same.l0 k ((i + 1 : Nat) : Int) a F s b F t) (fun k => ?_) (same_loop F a b s t hF m (i + 1) (by omega))
    simp only [posternlaw09_same.l0]
    rw [if_pos (by omega), if_pos (by omega), if_pos (by omega), if_pos trivial, wsucc i (by omega)]
theorem same_ev (x : LnV) (hx : x.fields.length < 9223372036854775807) : Ev (fun k => posternlaw09_same.f k x.s.f0 x.s.f1 x.s.f2 x.d.f0 x.d.f1 x.d.f2) true := by
  refine Ev.congr (f := fun k => posternlaw09_same.j0 k false x.num (x.fields.map BA) (BA x.note) x.num (x.fields.map BA) (BA x.note)) (fun k => ?_) (Ev.step (f := fun k => posternlaw09_same.l0 k ((0 : Nat) : Int) x.num (x.fields.map BA) (BA x.note) x.num (x.fields.map BA) (BA x.note)) (fun k => ?_) (same_loop _ _ _ _ _ (by simpa using hx) _ 0 (Nat.zero_add _)))
  · unfold posternlaw09_same.f
    rw [if_pos (by rfl), if_pos (by rfl)]
    congr 1
    simp [LnV.s, LnV.d]
  · simp only [posternlaw09_same.j0]
    rfl
theorem same_lines_loop (L : List LnV) (hL : L.length < 9223372036854775807) (hx : ∀ x ∈ L, x.fields.length < 9223372036854775807) : ∀ (m i : Nat), i + m = L.length → Ev (fun k => posternlaw09_lines.l0 k (L.map LnV.s) (L.map LnV.d) (i : Int)) true
  | 0, i, hm => by
    refine Ev.step (f := fun k => some true) (fun k => ?_) (Ev.now _)
    simp only [posternlaw09_lines.l0]
    rw [if_neg (by rw [List.length_map]; omega)]
  | m + 1, i, hm => by
    have hi : i < L.length := by omega
    have e1 : rd_T58 (L.map LnV.s) (i : Int) = L[i].s := by simp [rd_T58, hi]
    have e2 : rd_T60 (L.map LnV.d) (i : Int) = L[i].d := by simp [rd_T60, hi]
    refine Ev.step (fun k => ?_) (Ev.bind (f := fun k (t236 : Bool) => (if t236 = true then (posternlaw09_lines.l0 k (L.map LnV.s) (L.map LnV.d) ((i + 1 : Nat) : Int)) else (some false))) (same_ev L[i] (hx _ (List.getElem_mem hi))) ?_)
    · simp only [posternlaw09_lines.l0]
      rw [if_pos (by rw [List.length_map]; omega), if_pos (by omega), if_pos (by rw [List.length_map]; omega), e1, e2, wsucc i (by omega)]
    · refine Ev.congr (fun k => ?_) (same_lines_loop L hL hx m (i + 1) (by omega))
      rw [if_pos rfl]
theorem lines_ev (L : List LnV) (hL : L.length < 9223372036854775807) (hx : ∀ x ∈ L, x.fields.length < 9223372036854775807) : Ev (fun k => posternlaw09_lines.f k (L.map LnV.s) (L.map LnV.d)) true := by
  refine Ev.congr (f := fun k => posternlaw09_lines.l0 k (L.map LnV.s) (L.map LnV.d) ((0 : Nat) : Int)) (fun k => ?_) (same_lines_loop L hL hx _ 0 (Nat.zero_add _))
  unfold posternlaw09_lines.f
  rw [if_pos (by simp)]
  rfl
end Go.Proofs.YthngjkaphfkmmaaDoor
/-! LnM -/
namespace Go.Proofs.YthngjkaphfkmmaaDoor
open Go Go.RowKit
set_option linter.unusedVariables false
set_option linter.unusedSimpArgs false
/-- Blocks outside of S are as they were. -/
structure Kp (S : Nat → Prop) (w w' : World) : Prop where
  os : w'.os = w.os
  tape : w'.tape = w.tape
  output : w'.output = w.output
  size : w.heap.size ≤ w'.heap.size
  block : ∀ k, k < w.heap.size → ¬ S k → w'.heap[k]? = w.heap[k]?
theorem Kp.refl (S : Nat → Prop) (w : World) : Kp S w w := ⟨rfl, rfl, rfl, Nat.le_refl _, fun _ _ _ => rfl⟩
theorem Kp.trans {S : Nat → Prop} {a b c : World} (h : Kp S a b) (k : Kp S b c) : Kp S a c :=
  ⟨k.os.trans h.os, k.tape.trans h.tape, k.output.trans h.output, Nat.le_trans h.size k.size, fun i hi hs => (k.block i (Nat.lt_of_lt_of_le hi h.size) hs).trans (h.block i hi hs)⟩
theorem Kp.mono {S T : Nat → Prop} {a b : World} (h : Kp S a b) (hS : ∀ k, k < a.heap.size → S k → T k) : Kp T a b :=
  ⟨h.os, h.tape, h.output, h.size, fun i hi ht => h.block i hi (fun hs => ht (hS i hi hs))⟩
theorem Kp.of_below {S : Nat → Prop} {a b : World} (h : Below a.heap.size a b) : Kp S a b := ⟨h.os, h.tape, h.output, h.size, fun i hi _ => h.block i hi⟩
theorem Kp.cell {S : Nat → Prop} {a b : World} (h : Kp S a b) {p : Addr} (hp : p.block < a.heap.size) (hs : ¬ S p.block) : b.cell? p = a.cell? p := World.cell?_of_block (h.block p.block hp hs)
theorem Kp.alloc (S : Nat → Prop) (w : World) (o : Obj) : Kp S w (w.alloc o) := ⟨rfl, rfl, rfl, by simp, fun k hk _ => by first | exact heap_alloc_old w o k hk | exact heap_alloc_old w o hk⟩
theorem Kp.own {S : Nat → Prop} {a b : World} (h : Kp S a b) {base : Nat} {e : TypeId} {size n : Nat} {v : Value} {xs : List Value} (ho : a.ownsRow base e size v n xs) (hs : ∀ k, v.ownBlock = some k → ¬ S k) : b.ownsRow base e size v n xs := by
  refine ⟨ho.1, ?_⟩
  rcases ho.2 with hn | ⟨g, cap, cur, rfl, hb, hgg, rest⟩
  · exact .inl hn
  · refine .inr ⟨g, cap, cur, rfl, hb, ?_, rest⟩
    rw [h.block g (Array.getElem?_eq_some_iff.1 hgg).1 (hs g rfl)]
    exact hgg
/-- Texts at an address, outside of S. -/
def RdS (W : World) (S : Nat → Prop) (A : Option Addr) (l : List (List UInt8)) : Prop :=
  ∀ i p, l[i]? = some p → ∃ g o, A = some ⟨g, o, none⟩ ∧ g < W.heap.size ∧ ¬ S g ∧ W.cell? ⟨g, o + i, none⟩ = some (.string (BA p))
theorem RdS.keep {W W' : World} {S : Nat → Prop} {A : Option Addr} {l : List (List UInt8)} (h : RdS W S A l) (hk : Kp S W W') : RdS W' S A l := by
  intro i p hi
  obtain ⟨g, o, hA, hg, hs, hc⟩ := h i p hi
  exact ⟨g, o, hA, Nat.lt_of_lt_of_le hg hk.size, hs, (hk.cell (p := ⟨g, o + i, none⟩) hg hs).trans hc⟩
theorem RdS.mono {W : World} {S T : Nat → Prop} {A : Option Addr} {l : List (List UInt8)} (h : RdS W S A l) (hS : ∀ k, k < W.heap.size → T k → S k) : RdS W T A l := by
  intro i p hi
  obtain ⟨g, o, hA, hg, hs, hc⟩ := h i p hi
  exact ⟨g, o, hA, hg, fun ht => hs (hS g hg ht), hc⟩
/-- A line's cells. -/
def lc (x : LnV) (A : Option Addr) (c : Nat) : List Value := [.int .i64 x.num, .slice A x.fields.length c, .string (BA x.note)]
/-- The cells of lines whose fields lie outside of S. -/
def LnC (W : World) (S : Nat → Prop) : List LnV → List Value → Prop
  | [], cs => cs = []
  | x :: L, cs => ∃ A c rest, cs = lc x A c ++ rest ∧ RdS W S A x.fields ∧ LnC W S L rest
theorem LnC.keep {W W' : World} {S : Nat → Prop} (hk : Kp S W W') : ∀ {L : List LnV} {cs : List Value}, LnC W S L cs → LnC W' S L cs
  | [], _, h => h
  | x :: L, cs, ⟨A, c, rest, e, h1, h2⟩ => ⟨A, c, rest, e, h1.keep hk, LnC.keep hk h2⟩
theorem LnC.mono {W : World} {S T : Nat → Prop} (hS : ∀ k, k < W.heap.size → T k → S k) : ∀ {L : List LnV} {cs : List Value}, LnC W S L cs → LnC W T L cs
  | [], _, h => h
  | x :: L, cs, ⟨A, c, rest, e, h1, h2⟩ => ⟨A, c, rest, e, h1.mono hS, LnC.mono hS h2⟩
theorem LnC.append {W : World} {S : Nat → Prop} {M : List LnV} {ds : List Value} (hM : LnC W S M ds) : ∀ {L : List LnV} {cs : List Value}, LnC W S L cs → LnC W S (L ++ M) (cs ++ ds)
  | [], cs, h => by
    have h : cs = [] := h
    subst h
    exact hM
  | x :: L, cs, ⟨A, c, rest, e, h1, h2⟩ => ⟨A, c, rest ++ ds, by rw [e, List.append_assoc], h1, LnC.append hM h2⟩
/-- Lines at an address. -/
def RdL (W : World) (A : Option Addr) (L : List LnV) : Prop := ∀ i x, L[i]? = some x → ∃ g o A' c, A = some ⟨g, o, none⟩ ∧ g < W.heap.size ∧
  (∀ j, j < 3 → W.cell? ⟨g, o + (i * 3 + j), none⟩ = (lc x A' c)[j]?) ∧ RdS W (fun _ => False) A' x.fields
theorem RdL.keep {W W' : World} {A : Option Addr} {L : List LnV} (h : RdL W A L) (hb : Below W.heap.size W W') : RdL W' A L := by
  intro i x hi
  obtain ⟨g, o, A', c, hA, hg, hc, hf⟩ := h i x hi
  exact ⟨g, o, A', c, hA, Nat.lt_of_lt_of_le hg hb.size, fun j hj => (hb.cell (p := ⟨g, o + (i * 3 + j), none⟩) hg).trans (hc j hj), hf.keep (Kp.of_below hb)⟩
end Go.Proofs.YthngjkaphfkmmaaDoor
/-! Ext -/
namespace Go.Proofs.YthngjkaphfkmmaaDoor
open Go.RowKit
set_option linter.unusedVariables false
set_option linter.unusedSimpArgs false
/-- What stands behind a call that let all stand that was there. -/
theorem after {W w1 : World} (hb : Below W.heap.size W w1) : (∀ b o, b < W.heap.size → w1.cell? ⟨b, o, none⟩ = W.cell? ⟨b, o, none⟩) ∧ (∀ b o, b < W.heap.size → w1.frozen? ⟨b, o, none⟩ = W.frozen? ⟨b, o, none⟩) ∧ W.heap.size ≤ w1.heap.size :=
  ⟨fun b o h => hb.cell (p := ⟨b, o, none⟩) h, fun b o h => hb.frozen (p := ⟨b, o, none⟩) h, hb.size⟩
/-- A world in which all that was in w0 is as it was. -/
structure Ext (w0 : World) where
  wd : World
  below : Below w0.heap.size w0 wd
instance (w0 : World) : Nonempty (Ext w0) := ⟨⟨w0, Below.refl _ _⟩⟩
@[go_sem] theorem Ext.cell {w0 : World} (x : Ext w0) {b o : Nat} (h : b < w0.heap.size) : x.wd.cell? ⟨b, o, none⟩ = w0.cell? ⟨b, o, none⟩ := x.below.cell (p := ⟨b, o, none⟩) h
end Go.Proofs.YthngjkaphfkmmaaDoor
/-! LnFeed -/
namespace Go.Proofs.YthngjkaphfkmmaaDoor
open Go.RowKit Go.Proofs.YthngjkaphfkmmaaDoorW.PrintWords Go.Proofs.YthngjkaphfkmmaaDoor.X
set_option linter.unusedVariables false
set_option linter.unusedSimpArgs false
/-- A reader: what it keeps, how many lines it told. -/
def RdB (W : World) (g : Nat) (s : List UInt8) (n : Nat) : Prop := W.heap[g]? = some (.cells #[.string (BA s), .int .i64 n] 81 (0, 0))
theorem RdB.kp {W W' : World} {S : Nat → Prop} {g n : Nat} {s : List UInt8} (h : RdB W g s n) (hk : Kp S W W') (hs : ¬ S g) : RdB W' g s n := (hk.block g (blk_lt h) hs).trans h
theorem RdB.below {W W' : World} {g n : Nat} {s : List UInt8} (h : RdB W g s n) (hb : Below W.heap.size W W') : RdB W' g s n := blk_below h hb
theorem Kp.set {S : Nat → Prop} {a b : World} (h : Kp S a b) {p : Addr} (hp : S p.block ∨ a.heap.size ≤ p.block) (u : Value) : Kp S a (b.setCell p u) :=
  ⟨h.os, h.tape, h.output, by simpa using h.size, fun k hk hs => (Below.heap_setCell b p u k (fun e => by rcases hp with hp | hp; exact hs (e ▸ hp); omega)).trans (h.block k hk hs)⟩
theorem Kp.gw {S : Nat → Prop} {a b : World} (h : Kp S a b) (hG : GW a) (hs : ¬ S 0) : GW b := by
  obtain ⟨m, hm⟩ := hG.maxLen
  exact ⟨⟨m, (h.cell (p := ⟨0, 0, none⟩) (World.block_lt_of_cell? _ _ hm) hs).trans hm⟩⟩
theorem gw_apart {W : World} {g n : Nat} {s : List UInt8} (hG : GW W) (h : RdB W g s n) : 0 ≠ g := by
  rintro rfl
  obtain ⟨m, hm⟩ := hG.maxLen
  have := (blk_cell h 0).symm.trans hm
  simp at this
theorem cut_nl (s : List UInt8) (hs : s.length ≤ 9223372036854775807) : strings_Cut.f (BA s) (⟨#[10]⟩ : ByteArray) = some (BA (s.takeWhile (· != 10)), BA ((s.dropWhile (· != 10)).drop 1), s.contains 10) := by
  unfold strings_Cut.f
  rw [if_pos (Or.inr ⟨rfl, by rw [ba_size]; exact hs⟩)]
  rw [show (⟨#[10]⟩ : ByteArray).data.toList = [10] from rfl, ba_list, cut_byte]
  rfl
theorem R_put_old {α : Type} {d : Kd α} {e : Nat} {W : World} {B : Nat} {ok : Nat → Prop} {v : Value} {xs : List α} (h : d.R e W B ok v xs) {p : Addr} (hg : p.block < B) (u : Value) : d.R e (W.setCell p u) B ok v xs :=
  Kd.R_mono (Kd.R_far (Kd.R_bound h) (fun k hk => by have := hk.2.1; omega) u) (fun k hk => hk.1)
theorem info_line : (Tryd.prog.info? 58).map (fun i => (i.zero, i.size, i.bytes)) = some (some (.agg #[(.int .i64 0), (.slice none 0 0), (.string ⟨#[]⟩)]), 3, 48) := by kernel_rfl
def strLen : Value → Nat
  | .string s => s.size
  | _ => 0
/-- A line out of a text: the program's cut. -/
theorem cut_walk (s : List UInt8) (n : Int) (hs : s.length ≤ 1048576) (w : World) (hG : GW w) :
    Calls Tryd.prog 32 #[.string (BA s), .int .i64 n] w fun e w' => ∃ v A c, e = .returned (.tuple #[.agg #[.int .i64 n, v, .string (BA (lnV n s).note)], .bool (lnV n s).some]) ∧ v = .slice A (lnV n s).fields.length c ∧ Kd.R Kd.string 9 w' w.heap.size (fun _ => True) v ((lnV n s).fields.map BA) ∧ Below w.heap.size w w' := by
  obtain ⟨k, hk⟩ := (line_cut_ev s n hs).rounds
  refine (line_cut.calls k _ _ _ _ _ _ w hG hk).mono ?_
  rintro e w' ⟨v, rfl, hr, hb⟩
  obtain ⟨A, c, hv⟩ := Kd.R_slice hr
  exact ⟨v, A, c, rfl, by rw [hv, List.length_map], hr, hb⟩
/-- Where Feed stands: the pieces cut off so far, what is left. -/
def FeedRel (w : World) (g : Nat) (kept s : List UInt8) (n : Nat) (out rest : Value) (W : World) : Prop := ∃ (P : List (List UInt8)) (R : List UInt8), rest = .string (BA R) ∧ wholeL s = P ++ wholeL R ∧ keptL s = keptL R ∧ R.length ≤ s.length ∧
  RdB W g kept (n + P.length) ∧ Kd.R k58 58 W w.heap.size (fun _ => True) out ((linesFrom (n + 1) P).map LnV.s) ∧ Kp (· = g) w W
theorem blk_put2 {W : World} {g n : Nat} {s : List UInt8} (h : RdB W g s n) (m : Nat) (v : Value) (hv : v = .int .i64 m) : RdB (W.setCell ⟨g, 1, none⟩ v) g s m := by
  subst hv
  exact blk_put h 1 _ rfl
set_option maxHeartbeats 4000000 in
set_option maxRecDepth 100000 in
theorem feed_walk (kept piece : List UInt8) (n g : Nat) (w : World) (hG : GW w) (hg : RdB w g kept n) (hl : kept.length + piece.length ≤ 1048576) (hn : n ≤ 1048576) :
    Calls Tryd.prog 22 #[.pointer (some ⟨g, 0, none⟩), .string (BA piece)] w fun e w' => ∃ v, e = .returned v ∧ Kd.R k58 58 w' w.heap.size (fun _ => True) v ((linesFrom (n + 1) (wholeL (kept ++ piece))).map LnV.s) ∧
      Kp (· = g) w w' ∧ RdB w' g (keptL (kept ++ piece)) (n + (wholeL (kept ++ piece)).length) := by
  have HG := Lib.hid hG
  have HB := Lib.hid hg
  have hne := gw_apart hG hg
  have HNE := Lib.hid hne
  have hlen : (kept ++ piece).length ≤ 1048576 := by simpa using hl
  have k0 := (blk_cell hg 0).trans (show _ = some (Value.string (BA kept)) from rfl)
  have happ : (BA kept) ++ (BA piece) = BA (kept ++ piece) := ba_ext (by simp [BA])
  have HAPP := Lib.hid happ
  have hsz : (9223372036854775807 < (BA kept).size + (BA piece).size) = False := eq_false (by rw [ba_size, ba_size]; omega)
  clear hG hg hne happ
  go_enter Tryd.func22, Tryd.ntmps22
  go_wp2_with fail
  rw [HAPP.out]
  go_loopw [5, 6] (fun out rest W => FeedRel w g kept (kept ++ piece) n out rest W) (fun _ rest _ => strLen rest)
  case atStart => exact ⟨[], kept ++ piece, rfl, rfl, rfl, Nat.le_refl _, HB.out, Kd.R_nil _ _ _ _ _, Kp.refl _ _⟩
  case round =>
    obtain ⟨P, R, rfl, hw, hk, hR, hb, ho, hkp⟩ := hrel
    have HW := Lib.hid hw
    have HK := Lib.hid hk
    have HB2 := Lib.hid hb
    have HO := Lib.hid ho
    have HP := Lib.hid hkp
    have HG2 := Lib.hid (hkp.gw HG.out HNE.out)
    clear hw hk hb ho hkp k0
    go_wp2_with fail
    refine (strings_Cut.calls (BA R) (⟨#[10]⟩ : ByteArray) _ _ _ _ HG2.out (cut_nl R (by omega))).mono ?_
    rintro e w1 ⟨rfl, hd⟩
    have hb1 := hd.below
    have HB3 := Lib.hid (HB2.out.below hb1)
    have HO3 := Lib.hid (Kd.R_below HO.out hb1)
    have HP3 := Lib.hid (HP.out.trans (Kp.of_below hb1))
    have HG3 := Lib.hid (HG2.out.keep hb1)
    have hwc := whole_cut R
    clear hd hb1 HB2 HO HP HG2
    cases hc : R.contains 10 with
    | false =>
      obtain ⟨e1, e2⟩ := hwc.1 hc
      have HE := Lib.hid (And.intro e1 e2)
      clear hwc e1 e2
      have k0 := (blk_cell HB3.out 0).trans (show _ = some (Value.string (BA kept)) from rfl)
      have f0 := blk_frozen HB3.out 0
      go_wp2_with fail
      go_returns
      have hlast : linesFrom (n + 1) (wholeL (kept ++ piece)) = linesFrom (n + 1) P := by rw [HW.out, HE.out.1, List.append_nil]
      have hlen2 : (wholeL (kept ++ piece)).length = P.length := by rw [HW.out, HE.out.1, List.append_nil]
      have hkept : keptL (kept ++ piece) = R := by rw [HK.out, HE.out.2]
      rw [hlast, hlen2, hkept]
      refine ⟨_, rfl, ?_, HP3.out.set (.inl rfl) _, ?_⟩
      · exact R_put_old HO3.out (p := ⟨g, 0, none⟩) (blk_lt HB.out) _
      · exact blk_put HB3.out 0 _ rfl
    | true =>
      obtain ⟨e1, e2⟩ := hwc.2 hc
      have HE := Lib.hid (And.intro e1 e2)
      have hPn : P.length ≤ 1048577 := by
        have h1 := split_parts (kept ++ piece)
        have h2 := splitC_len 10 (kept ++ piece)
        rw [h1, HW.out] at h2
        simp at h2
        omega
      have hone : (R.takeWhile (· != 10)).length ≤ R.length := (List.takeWhile_sublist _).length_le
      have hmore : ((R.dropWhile (· != 10)).drop 1).length < R.length := by
        have h1 := (List.dropWhile_sublist (l := R) (· != 10)).length_le
        have h2 : R ≠ [] := by rintro rfl; simp at hc
        have h3 := List.length_pos_iff.2 h2
        rw [List.length_drop]
        omega
      clear hwc e1 e2
      generalize R.takeWhile (· != 10) = one at *
      generalize (R.dropWhile (· != 10)).drop 1 = more at *
      obtain ⟨m, hm⟩ : ∃ m, m = n + P.length := ⟨_, rfl⟩
      rw [← hm] at HB3
      have hmb : m ≤ 3000000 := by omega
      have HM := Lib.hid hm
      clear hm
      have k1 := (blk_cell HB3.out 1).trans (show _ = some (Value.int .i64 (m : Int)) from rfl)
      have f1 := blk_frozen HB3.out 1
      have hlt := blk_lt HB3.out
      go_wp2_with fail
      obtain ⟨z, hz⟩ : ∃ z : Int, z = (m : Int) + 1 := ⟨_, rfl⟩
      rw [← hz]
      have hz' : Value.int .i64 z = .int .i64 ((m + 1 : Nat) : Int) := by rw [hz]; rfl
      have HB4 : Hid (RdB (w1.setCell ⟨g, 1, none⟩ (.int .i64 z)) g kept (m + 1)) := Lib.hid (blk_put2 HB3.out (m + 1) _ hz')
      have HO4 := Lib.hid (R_put_old HO3.out (p := ⟨g, 1, none⟩) (blk_lt HB.out) (.int .i64 z))
      have HP4 := Lib.hid (HP3.out.set (p := ⟨g, 1, none⟩) (.inl rfl) (.int .i64 z))
      have HG4 := Lib.hid (HP4.out.gw HG.out HNE.out)
      have HZ := Lib.hid hz
      clear HB3 HO3 HP3 HG3 k1 f1 hlt hz hz'
      generalize w1.setCell ⟨g, 1, none⟩ (.int .i64 z) = w2 at *
      refine (cut_walk one z (by omega) w2 HG4.out).mono ?_
      rintro e w3 ⟨v3, A3, c3, rfl, rfl, hr3, hb3⟩
      have HB5 := Lib.hid (HB4.out.below hb3)
      have HO5 := Lib.hid (Kd.R_below HO4.out hb3)
      have HP5 := Lib.hid (HP4.out.trans (Kp.of_below hb3))
      have HF5 := Lib.hid (Kd.R_lower hr3 HP4.out.size)
      clear HB4 HO4 HP4 HG4 hr3 hb3
      have hm1 : (lnV z one).fields.length ≤ 1048577 := by
        have h1 := splitC_len 59 (dataL (crL one))
        have h2 := dataL_len (crL one)
        have h3 := crL_len one
        simp [lnV]
        omega
      have hnew : linesFrom (n + 1) (P ++ [one]) = linesFrom (n + 1) P ++ (if (lnV z one).some = true then [lnV z one] else []) := by
        rw [linesFrom_append]
        have : (n : Int) + 1 + (P.length : Int) = z := by rw [HZ.out, HM.out]; omega
        rw [this]
        simp [linesFrom]
      have HN := Lib.hid hnew
      have hPl : (linesFrom (n + 1) P).length ≤ 1048577 := Nat.le_trans (linesFrom_len P _) hPn
      have hlast : n + (P ++ [one]).length = m + 1 := by rw [HM.out]; simp; omega
      have HL := Lib.hid hlast
      clear hnew hlast
      have hnum : (lnV z one).num = z := rfl
      cases hsome : (lnV z one).some with
      | false =>
        have HS := Lib.hid hsome
        clear hsome hnum
        go_wp2_with fail
        refine ⟨⟨P ++ [one], more, rfl, ?_, by rw [HK.out, HE.out.2], by omega, ?_, ?_, ?_⟩, by show more.length < R.length; omega⟩
        · rw [HW.out, HE.out.1, List.append_assoc]
          rfl
        · rw [HL.out]
          exact HB5.out.below ((Below.refl _ _).alloc (Nat.le_refl _) _)
        · rw [HN.out, HS.out, if_neg (by decide), List.append_nil]
          exact Kd.R_alloc HO5.out _
        · exact HP5.out.trans (Kp.alloc _ _ _)
      | true =>
        have HS := Lib.hid hsome
        clear hsome hnum
        have hk3 := HP5.out.size
        have hg3 := blk_lt HB.out
        go_upto_region 13 with fail
        have HX6 : Hid (Below w3.heap.size w3 (w3.alloc (.cells #[.int .i64 z, .slice A3 (lnV z one).fields.length c3, .string (BA (lnV z one).note)] 58))) := Lib.hid ((Below.refl _ _).alloc (Nat.le_refl _) _)
        have hbx := blk_new w3 (.cells #[.int .i64 z, .slice A3 (lnV z one).fields.length c3, .string (BA (lnV z one).note)] 58)
        have HO6 := Lib.hid (Kd.R_alloc (Kd.R_elderB HO5.out w3.heap.size (Nat.le_refl _)) (.cells #[.int .i64 z, .slice A3 (lnV z one).fields.length c3, .string (BA (lnV z one).note)] 58))
        have HF6 := Lib.hid (Kd.R_alloc (Kd.R_apart' (Kd.R_elderB HF5.out w3.heap.size (Nat.le_refl _)) (Kd.R_typed HO5.out) (by decide)) (.cells #[.int .i64 z, .slice A3 (lnV z one).fields.length c3, .string (BA (lnV z one).note)] 58))
        have hsz6 : w3.heap.size + 1 = (w3.alloc (.cells #[.int .i64 z, .slice A3 (lnV z one).fields.length c3, .string (BA (lnV z one).note)] 58)).heap.size := by simp
        generalize w3.alloc (.cells #[.int .i64 z, .slice A3 (lnV z one).fields.length c3, .string (BA (lnV z one).note)] 58) = w4 at *
        have c0 := (blk_cell hbx 0).trans (show _ = some (Value.int .i64 z) from rfl)
        have c1 := (blk_cell hbx 1).trans (show _ = some (Value.slice A3 (lnV z one).fields.length c3) from rfl)
        have c2 := (blk_cell hbx 2).trans (show _ = some (Value.string (BA (lnV z one).note)) from rfl)
        generalize hb3 : w3.heap.size = b3 at *
        have HSZ := Lib.hid hsz6
        have HK3 := Lib.hid hk3
        have HB3 := Lib.hid hb3
        clear hbx hsz6 hk3 hb3
        go_wp2_with (at_builtin; refine Kd.R_append k58 (w0 := w3) w.heap.size rfl (.tmp 51) (.tmp 53) 47 58 (.agg #[(.int .i64 0), (.slice none 0 0), (.string ⟨#[]⟩)]) 48 rfl Tryd.underlying47 info_line rfl (by decide) (by omega) u5 ((linesFrom (n + 1) P).map LnV.s) (lnV z one).s [.int .i64 z, .slice A3 (lnV z one).fields.length c3, .string (BA (lnV z one).note)] (fun k => True ∧ k ≠ b3) (fun k => (True ∧ k ≠ b3) ∧ some k ≠ u5.ownBlock) rfl rfl (k58_mkM _ _ _ (lnV z one).s HF6.out) (fun k hk => hk) (fun k hk => ⟨trivial, by have := HSZ.out; omega⟩) HO6.out (HX6.out.mono HK3.out) (by have := HSZ.out; have := HK3.out; omega) (by rw [List.length_map]; omega) ?_; intro v4 w5 ho4 hb4 hg4 hat4)
        refine ⟨⟨P ++ [one], more, rfl, ?_, by rw [HK.out, HE.out.2], by omega, ?_, ?_, ?_⟩, by show more.length < R.length; omega⟩
        · rw [HW.out, HE.out.1, List.append_assoc]
          rfl
        · rw [HL.out]
          exact (hb4.block g hg3).trans HB5.out
        · rw [HN.out, HS.out, if_pos rfl, List.map_append]
          exact Kd.R_mono ho4 (fun _ _ => trivial)
        · exact ⟨hb4.os.trans HP5.out.os, hb4.tape.trans HP5.out.tape, hb4.output.trans HP5.out.output, Nat.le_trans HP5.out.size hb4.size, fun k hk hs => (hb4.block k hk).trans (HP5.out.block k hk hs)⟩
/-- A row of one element, new. -/
theorem R_one_new {α : Type} {d : Kd α} (e : Nat) {w : World} {base : Nat} {ok okp : Nat → Prop} {p : α} {cs : List Value} (hp : d.M w base okp p cs) (hb : base ≤ w.heap.size) (hok : ∀ k, okp k → ok k) (hbs : ok w.heap.size) :
    d.R e (w.alloc (.cells cs.toArray e)) base ok (.slice (some ⟨w.heap.size, 0, none⟩) 1 1) [p] := by
  refine ⟨fun k hk => by simp [Value.ownBlock] at hk; exact hk ▸ hbs, cs, ?_, ?_⟩
  · have hl := d.K_len (d.K_of_M hp)
    exact ⟨by simp [hl], .inr ⟨w.heap.size, 1, cs.toArray, rfl, hb, heap_alloc_new w _, Nat.le_refl _, by decide, by simp [hl], by simp; exact List.take_of_length_le (by omega)⟩⟩
  · have h1 : d.M (w.alloc (.cells cs.toArray e)) base (fun k => ok k ∧ some k ≠ (Value.slice (some ⟨w.heap.size, 0, none⟩) 1 1).ownBlock) p cs := by
      refine d.M_mono (fun k hk => ?_) (Kd.M_below (d.M_bound hp) ((Below.refl _ _).alloc (Nat.le_refl _) _))
      refine ⟨hok k hk.1, ?_⟩
      simp [Value.ownBlock]
      omega
    exact (Reps.none _ _).snoc h1 (d.K_len (d.K_of_M hp))
/-- What is kept is told. -/
def endL (kept : List UInt8) (n : Nat) : List LnV := if kept = [] then [] else linesFrom (n + 1) [kept]
def endN (kept : List UInt8) (n : Nat) : Nat := if kept = [] then n else n + 1
set_option maxHeartbeats 4000000 in
set_option maxRecDepth 100000 in
theorem end_walk (kept : List UInt8) (n g : Nat) (w : World) (hG : GW w) (hg : RdB w g kept n) (hl : kept.length ≤ 1048576) (hn : n ≤ 3000000) :
    Calls Tryd.prog 23 #[.pointer (some ⟨g, 0, none⟩)] w fun e w' => ∃ v, e = .returned v ∧ Kd.R k58 58 w' w.heap.size (fun _ => True) v ((endL kept n).map LnV.s) ∧ Kp (· = g) w w' ∧ RdB w' g [] (endN kept n) := by
  have HG := Lib.hid hG
  have HB := Lib.hid hg
  have HNE := Lib.hid (gw_apart hG hg)
  have k0 := (blk_cell hg 0).trans (show _ = some (Value.string (BA kept)) from rfl)
  have k1 := (blk_cell hg 1).trans (show _ = some (Value.int .i64 n) from rfl)
  have f0 := blk_frozen hg 0
  have f1 := blk_frozen hg 1
  have hlt := blk_lt hg
  clear hG hg
  by_cases h0 : kept = []
  · subst h0
    have e1 : (BA []).toList = [] := by rw [toList_data]; rfl
    go_enter Tryd.func23, Tryd.ntmps23
    go_wp2_with fail
    go_returns
    exact ⟨_, rfl, by rw [endL, if_pos rfl]; exact Kd.R_nil _ _ _ _ _, Kp.refl _ _, by rw [endN, if_pos rfl]; exact HB.out⟩
  · have e1 : (BA kept).toList.isEmpty = false := by rw [toList_data, ba_list]; cases kept with | nil => exact absurd rfl h0 | cons _ _ => rfl
    have e2 : ((BA kept).toList == []) = false := by rw [toList_data, ba_list]; cases kept with | nil => exact absurd rfl h0 | cons _ _ => rfl
    have H0 := Lib.hid h0
    clear h0
    go_enter Tryd.func23, Tryd.ntmps23
    go_wp2_with fail
    obtain ⟨z, hz⟩ : ∃ z : Int, z = (n : Int) + 1 := ⟨_, rfl⟩
    rw [← hz]
    have hz' : Value.int .i64 z = .int .i64 ((n + 1 : Nat) : Int) := by rw [hz]; rfl
    have HB2 : Hid (RdB ((w.setCell ⟨g, 0, none⟩ (.string ⟨#[]⟩)).setCell ⟨g, 1, none⟩ (.int .i64 z)) g [] (n + 1)) := Lib.hid (by
      rw [hz']
      exact blk_put (blk_put HB.out 0 _ rfl) 1 _ rfl)
    have HP2 := Lib.hid (((Kp.refl (· = g) w).set (p := ⟨g, 0, none⟩) (.inl rfl) (.string ⟨#[]⟩)).set (p := ⟨g, 1, none⟩) (.inl rfl) (.int .i64 z))
    have HG2 := Lib.hid (HP2.out.gw HG.out HNE.out)
    have HZ := Lib.hid hz
    clear k0 k1 f0 f1 hlt hz hz' e1 e2
    generalize (w.setCell ⟨g, 0, none⟩ (.string ⟨#[]⟩)).setCell ⟨g, 1, none⟩ (.int .i64 z) = w2 at *
    refine (cut_walk kept z hl w2 HG2.out).mono ?_
    rintro e w3 ⟨v3, A3, c3, rfl, rfl, hr3, hb3⟩
    have HB5 := Lib.hid (HB2.out.below hb3)
    have HP5 := Lib.hid (HP2.out.trans (Kp.of_below hb3))
    have HF5 := Lib.hid (Kd.R_lower hr3 HP2.out.size)
    clear HB2 HP2 HG2 hr3 hb3
    have hnew : endL kept n = if (lnV z kept).some = true then [lnV z kept] else [] := by
      rw [endL, if_neg H0.out, ← HZ.out]
      simp [linesFrom]
    have hend : endN kept n = n + 1 := by rw [endN, if_neg H0.out]
    have HN := Lib.hid hnew
    have HE := Lib.hid hend
    clear hnew hend
    cases hsome : (lnV z kept).some with
    | false =>
      have HS := Lib.hid hsome
      clear hsome
      go_wp2_with fail
      go_returns
      refine ⟨_, rfl, ?_, HP5.out.trans (Kp.alloc _ _ _), ?_⟩
      · rw [HN.out, HS.out, if_neg (by decide)]
        exact Kd.R_nil _ _ _ _ _
      · rw [HE.out]
        exact HB5.out.below ((Below.refl _ _).alloc (Nat.le_refl _) _)
    | true =>
      have HS := Lib.hid hsome
      clear hsome
      go_wp2_with fail
      go_returns
      refine ⟨_, rfl, ?_, (HP5.out.trans (Kp.alloc _ _ _)).trans (Kp.alloc _ _ _), ?_⟩
      · rw [HN.out, HS.out, if_pos rfl]
        have hb := R_one_new (d := k58) 58 (ok := fun _ => True) (k58_mkM _ _ _ (lnV z kept).s (Kd.R_alloc HF5.out (.cells #[.int .i64 z, .slice A3 (lnV z kept).fields.length c3, .string (BA (lnV z kept).note)] 58))) (by have := HP5.out.size; simp; omega) (fun _ _ => trivial) trivial
        simpa [LnV.s, lnV] using hb
      · rw [HE.out]
        exact (HB5.out.below ((Below.refl _ _).alloc (Nat.le_refl _) _)).below ((Below.refl _ _).alloc (Nat.le_refl _) _)
set_option maxHeartbeats 1000000 in
theorem rdnum_walk (kept : List UInt8) (n g : Nat) (w : World) (hg : RdB w g kept n) :
    Calls Tryd.prog 24 #[.pointer (some ⟨g, 0, none⟩)] w fun e w' => e = .returned (.int .i64 n) ∧ w' = w := by
  have k1 := (blk_cell hg 1).trans (show _ = some (Value.int .i64 n) from rfl)
  clear hg
  go_enter Tryd.func24, Tryd.ntmps24
  go_wp2_with fail
  go_returns
  exact ⟨rfl, rfl⟩
/-- The nil reader. -/
theorem feed_nil (s : ByteArray) (w : World) : Calls Tryd.prog 22 #[.pointer none, .string s] w fun e w' => e = .returned (.slice none 0 0) ∧ w' = w := by
  go_enter Tryd.func22, Tryd.ntmps22
  go_wp2_with fail
  go_returns
  exact ⟨rfl, rfl⟩
theorem end_nil (w : World) : Calls Tryd.prog 23 #[.pointer none] w fun e w' => e = .returned (.slice none 0 0) ∧ w' = w := by
  go_enter Tryd.func23, Tryd.ntmps23
  go_wp2_with fail
  go_returns
  exact ⟨rfl, rfl⟩
theorem number_nil (w : World) : Calls Tryd.prog 24 #[.pointer none] w fun e w' => e = .returned (.int .i64 0) ∧ w' = w := by
  go_enter Tryd.func24, Tryd.ntmps24
  go_wp2_with fail
  go_returns
  exact ⟨rfl, rfl⟩
theorem new_walk (w : World) : Calls Tryd.prog 21 #[] w fun e w' => ∃ g, e = .returned (.pointer (some ⟨g, 0, none⟩)) ∧ RdB w' g [] 0 ∧ w.heap.size ≤ g ∧ Below w.heap.size w w' := by
  refine (line_NewReader.calls ⟨#[]⟩ 0 w w (Below.refl _ _) rfl).mono ?_
  rintro e w' ⟨g, rfl, ⟨h1, h2⟩, h3, h4⟩
  exact ⟨g, rfl, h1, h2, h3⟩
end Go.Proofs.YthngjkaphfkmmaaDoor
/-! LnFeeds -/
namespace Go.Proofs.YthngjkaphfkmmaaDoor
open Go.RowKit Go.Proofs.YthngjkaphfkmmaaDoorW.PrintWords Go.Proofs.YthngjkaphfkmmaaDoor.X
set_option linter.unusedVariables false
set_option linter.unusedSimpArgs false
/-- Two readers, two rows of lines. -/
structure FS (w W : World) (ga gb : Nat) (x y : Value) (X Y : List LnV) (ka kb : List UInt8) (na nb : Nat) : Prop where
  rx : Kd.R k58 58 W w.heap.size (fun k => True ∧ some k ≠ y.ownBlock) x (X.map LnV.s)
  ry : Kd.R k58 58 W w.heap.size (fun k => True ∧ some k ≠ x.ownBlock) y (Y.map LnV.s)
  ba : RdB W ga ka na
  bb : RdB W gb kb nb
  ne : ga ≠ gb
  la : w.heap.size ≤ ga
  lb : w.heap.size ≤ gb
  below : Below w.heap.size w W
section
variable {w W W' : World} {ga gb : Nat} {x y : Value} {X Y : List LnV} {ka kb : List UInt8} {na nb : Nat}
theorem FS.swap (h : FS w W ga gb x y X Y ka kb na nb) : FS w W gb ga y x Y X kb ka nb na := ⟨h.ry, h.rx, h.bb, h.ba, h.ne.symm, h.lb, h.la, h.below⟩
theorem FS.keep (h : FS w W ga gb x y X Y ka kb na nb) (hb : Below W.heap.size W W') : FS w W' ga gb x y X Y ka kb na nb :=
  ⟨Kd.R_below h.rx hb, Kd.R_below h.ry hb, h.ba.below hb, h.bb.below hb, h.ne, h.la, h.lb, below_step h.below hb⟩
theorem R_kp {ok : Nat → Prop} {B g n : Nat} {s : List UInt8} {v : Value} {xs : List S58} (h : Kd.R k58 58 W B ok v xs) (hg : RdB W g s n) (hk : Kp (· = g) W W') : Kd.R k58 58 W' B ok v xs :=
  Kd.R_mono (Kd.R_step (Kd.R_types h hg (by decide)) (fun k hk' hlt => hk.block k hlt hk'.2)) (fun k hk => hk.1)
theorem Kp.below_of {S : Nat → Prop} {B : Nat} (h : Below B w W) (hB : B ≤ w.heap.size) (hk : Kp S W W') (hS : ∀ k, S k → B ≤ k) : Below B w W' :=
  ⟨hk.os.trans h.os, hk.tape.trans h.tape, hk.output.trans h.output, Nat.le_trans h.size hk.size, fun k hk' =>
    (hk.block k (by have := h.size; omega) (fun hs => by have := hS k hs; omega)).trans (h.block k hk')⟩
/-- x = append(x, ..) of what a reader told. -/
theorem FS.append {P : Program} {ops : Array Oper} {rest : List Oper} {o : Oper} {a : Act} {Q : Exit → Act → World → Prop} (h : FS w W ga gb x y X Y ka kb na nb) {ka' : List UInt8} {na' : Nat} {v : Value} {Z : List LnV}
    (hkp : Kp (· = ga) W W') (hrd : RdB W' ga ka' na') (hv : Kd.R k58 58 W' W.heap.size (fun _ => True) v (Z.map LnV.s)) (hlen : (X.length + Z.length) * 48 ≤ 140737488355328)
    (hgd : Region.wanted o (yielded ops a.tmps) = true) (s u : Operand) (ho : o.op = .call { callee := .builtin .append, args := #[s, u], argTypes := #[47, 47] })
    (ht : P.underlying 47 = some (.slice 58)) (hinfo : (P.info? 58).map (fun i => (i.zero, i.size, i.bytes)) = some (some (.agg #[(.int .i64 0), (.slice none 0 0), (.string ⟨#[]⟩)]), 3, 48))
    (hs : a.eval s = x) (hu : a.eval u = v)
    (K : ∀ v1 w1, FS w w1 ga gb v1 y (X ++ Z) Y ka' kb na' nb → (∀ {B : Nat} {r : Value} {rs : List S60}, Kd.R k60 60 W B (fun _ => True) r rs → Kd.R k60 60 w1 B (fun _ => True) r rs) → wpList P ops Q rest (a.put o.dst v1) w1) : wpList P ops Q (o :: rest) a W' := by
  have hrx := R_kp h.rx h.ba hkp
  have hry := R_kp h.ry h.ba hkp
  have hbb : RdB W' gb kb nb := h.bb.kp hkp h.ne.symm
  have hbel : Below w.heap.size w W' := hkp.below_of h.below (Nat.le_refl _) (fun k hk => by have := h.la; omega)
  obtain ⟨A, c, rfl, hle, hR⟩ := OwnRow.reads (Kd.R_bound hv).2
  have hxl := Kd.R_lt h.rx
  have hyl := Kd.R_lt h.ry
  have hsz := hkp.size
  rw [List.length_map] at hu hle hR
  suffices key : if Region.wanted o (yielded ops a.tmps) = true then Oper.wp P o a W' (wpList P ops Q rest) Q else wpList P ops Q rest (a.put o.dst undef) W' by
    rw [if_pos hgd] at key
    rw [wpList, if_pos hgd]
    exact .inl key
  refine Kd.R_append_rows_step k58 (w0 := w) (Kc := wpList P ops Q rest) w.heap.size hgd s u 47 58 _ 48 ho ht hinfo rfl (by decide) (by omega) x (X.map LnV.s) (Z.map LnV.s) A Z.length c (fun k => True ∧ some k ≠ y.ownBlock) (fun k => (True ∧ some k ≠ y.ownBlock) ∧ some k ≠ x.ownBlock) hs hu hrx hR
    (fun z cs hz => k58.M_mono (fun k hk => ?_) (k58.M_lower h.below.size hz)) (fun k hk => hk) (fun k hk => ⟨trivial, fun e => by have := hyl k e.symm; omega⟩) hbel (Nat.le_trans h.below.size hsz) (by rw [List.length_map]; exact hlen) ?_
  · obtain ⟨⟨_, h1, _⟩, _⟩ := hk
    exact ⟨⟨trivial, fun e => by have := hyl k e.symm; omega⟩, fun e => by have := hxl k e.symm; omega⟩
  · intro v1 w1 hr1 hb1 hg1 hat1
    have hnx : some ga ≠ x.ownBlock := Kd.R_ne hrx hrd (by decide)
    have hnb : some gb ≠ x.ownBlock := Kd.R_ne hrx hbb (by decide)
    refine K v1 w1 ⟨by rw [List.map_append]; exact hr1, Kd.R_after hry hg1 hat1, (hg1.block ga (blk_lt hrd) hnx).trans hrd, (hg1.block gb (blk_lt hbb) hnb).trans hbb, h.ne, h.la, h.lb, hb1⟩ (fun {B r rs} hr => ?_)
    have hr' : Kd.R k60 60 W' B (fun _ => True) r rs := Kd.R_mono (Kd.R_step (Kd.R_types hr h.ba (by decide)) (fun k hk' hlt => hkp.block k hlt hk'.2)) (fun k hk => hk.1)
    exact Kd.R_over' hr' (Kd.R_typed hrx) (by decide) hg1
end
theorem whole_parts (s : List UInt8) : (∀ p ∈ wholeL s, p.length ≤ s.length) ∧ (wholeL s).length ≤ s.length ∧ (keptL s).length ≤ s.length := by
  have h1 := split_parts s
  have h2 := splitC_len 10 s
  have h3 := splitC_part 10 s
  rw [h1] at h2 h3
  simp at h2
  exact ⟨fun p hp => h3 p (List.mem_append_left _ hp), h2, h3 _ (by simp)⟩
theorem lnV_fields (n : Int) (s : List UInt8) : (lnV n s).fields.length ≤ s.length + 1 := by
  have h1 := splitC_len 59 (dataL (crL s))
  have h2 := dataL_len (crL s)
  have h3 := crL_len s
  simp [lnV]
  omega
theorem linesFrom_fields : ∀ (ps : List (List UInt8)) (n : Int) (M : Nat), (∀ p ∈ ps, p.length ≤ M) → ∀ x ∈ linesFrom n ps, x.fields.length ≤ M + 1
  | [], _, _, _, x, hx => by simp [linesFrom] at hx
  | p :: ps, n, M, h, x, hx => by
    rw [linesFrom] at hx
    rcases List.mem_append.1 hx with hx | hx
    · have hl := lnV_fields n p
      have hp := h p (by simp)
      split at hx
      · have : x = lnV n p := by simpa using hx
        rw [this]
        omega
      · cases hx
    · exact linesFrom_fields ps (n + 1) M (fun q hq => h q (by simp [hq])) x hx
theorem linesL_fields (s : List UInt8) (hs : s.length ≤ 1048576) : (∀ x ∈ linesL s, x.fields.length < 9223372036854775807) ∧ (linesL s).length < 9223372036854775807 := by
  obtain ⟨h1, h2, h3⟩ := whole_parts s
  have hp : ∀ p ∈ piecesL s, p.length ≤ s.length := by
    rw [pieces_eq]
    intro p hp
    rcases List.mem_append.1 hp with hp | hp
    · exact h1 p hp
    · split at hp
      · cases hp
      · have : p = keptL s := by simpa using hp
        rw [this]
        exact h3
  constructor
  · intro x hx
    have := linesFrom_fields _ _ _ hp x hx
    omega
  · have h4 := linesFrom_len (piecesL s) 1
    rw [pieces_eq] at h4
    have h5 : (wholeL s ++ if keptL s = [] then [] else [keptL s]).length ≤ s.length + 1 := by
      rw [List.length_append]
      split <;> simp <;> omega
    unfold linesL
    rw [pieces_eq]
    omega
/-- The program's lines are the document's: the rows are told the same. -/
theorem lines_walk (L : List LnV) (A A' : Option Addr) (c c' : Nat) (w : World) (hr : Kd.C k58 w A L.length (L.map LnV.s)) (hc : L.length ≤ c) (hr' : Kd.C k60 w A' L.length (L.map LnV.d)) (hc' : L.length ≤ c')
    (hL : L.length < 9223372036854775807) (hx : ∀ x ∈ L, x.fields.length < 9223372036854775807) :
    Calls Tryd.prog 18 #[.slice A L.length c, .slice A' L.length c'] w fun e w' => e = .returned (.bool true) ∧ Below w.heap.size w w' := by
  obtain ⟨k, hk⟩ := (lines_ev L hL hx).rounds
  have e1 : (L.map LnV.s).length = L.length := by simp
  have e2 : (L.map LnV.d).length = L.length := by simp
  have := posternlaw09_lines.calls k A c (L.map LnV.s) A' c' (L.map LnV.d) true w (by rw [e1]; exact hr) (by rw [e1]; exact hc) (by rw [e2]; exact hr') (by rw [e2]; exact hc') hk
  rw [e1, e2] at this
  exact this
theorem refLines_walk (s : List UInt8) (hs : s.length ≤ 1048576) (w : World) : Calls Tryd.prog 15 #[.string (BA s)] w fun e w' => ∃ A c, e = .returned (.tuple #[.slice A (linesL s).length c, .int .i64 ((piecesL s).length : Int)]) ∧ (linesL s).length ≤ c ∧ Kd.C k60 w' A (linesL s).length ((linesL s).map LnV.d) ∧ Below w.heap.size w w' ∧
    Kd.R k60 60 w' w.heap.size (fun _ => True) (.slice A (linesL s).length c) ((linesL s).map LnV.d) := by
  obtain ⟨k, hk⟩ := (refLines_ev s hs).rounds
  refine (posternref09_Lines.calls k (BA s) _ _ w hk).mono ?_
  rintro e w' ⟨v, rfl, hr, hb⟩
  have hr := Kd.S_R hr
  obtain ⟨A, c, rfl, hle, hC⟩ := Kd.R_reads hr
  rw [List.length_map] at hle hC hr
  exact ⟨A, c, by rw [List.length_map], hle, hC, hb, hr⟩
theorem lines_R {w : World} {A : Option Addr} {B n c : Nat} {ok : Nat → Prop} {L : List LnV} (h : Kd.R k60 60 w B ok (.slice A n c) (L.map LnV.d)) : L.length ≤ c ∧ Kd.C k60 w A L.length (L.map LnV.d) := by
  have hh := Kd.R_reads' h
  rw [List.length_map] at hh
  exact ⟨by omega, hh.2.2⟩
/-- What is told of a whole text: what was told, and what was kept. -/
theorem lines_end (P : List UInt8) : linesL P = linesFrom 1 (wholeL P) ++ endL (keptL P) (wholeL P).length := by
  rw [lines_all, endL]
theorem pieces_end (P : List UInt8) : (piecesL P).length = endN (keptL P) (wholeL P).length := by
  rw [pieces_eq, endN, List.length_append]
  split <;> simp
/-- A text's end, cut off behind the last line's end. -/
theorem head_at_end (s : List UInt8) : ∃ h, h = (headL s).length ∧ headL s = s.take h ∧ h ≤ s.length ∧ (∀ j (hj : j < s.length), h ≤ j → s[j] ≠ 10) ∧ (h = 0 ∨ ∃ (hj : h - 1 < s.length), s[h - 1] = 10) := by
  obtain ⟨e, he, hn, _, _⟩ := head_kept s
  generalize headL s = H at *
  generalize keptL s = K at *
  subst e
  refine ⟨_, rfl, ?_, by simp, ?_, ?_⟩
  · rw [List.take_left']
    rfl
  · intro j hj hle
    rw [List.getElem_append_right hle]
    exact hn _ (List.getElem_mem _)
  · rcases he with he | he
    · left; rw [he]; rfl
    · right
      have hne : H ≠ [] := by intro h; rw [h] at he; cases he
      have hpos := List.length_pos_iff.2 hne
      have hlt : H.length - 1 < H.length := by omega
      refine ⟨by simp; omega, ?_⟩
      rw [List.getElem_append_left hlt]
      rw [List.getLast?_eq_getElem?, List.getElem?_eq_getElem hlt] at he
      exact Option.some.inj he
end Go.Proofs.YthngjkaphfkmmaaDoor
/-! LnFeedsLaw -/
namespace Go.Proofs.YthngjkaphfkmmaaDoor
open Go.RowKit Go.Proofs.YthngjkaphfkmmaaDoorW.PrintWords Go.Proofs.YthngjkaphfkmmaaDoor.X
set_option linter.unusedVariables false
set_option linter.unusedSimpArgs false
/-- Where the law's loop stands: k pieces of both texts are fed. -/
def FeedsRel (w : World) (L1 L2 : List (List UInt8)) (ga gb : Nat) (p q x y i : Value) (W : World) : Prop := ∃ k : Nat, k ≤ max L1.length L2.length ∧ i = .int .i64 k ∧ p = .string (BA (L1.take k).flatten) ∧ q = .string (BA (L2.take k).flatten) ∧
  FS w W ga gb x y (linesFrom 1 (wholeL (L1.take k).flatten)) (linesFrom 1 (wholeL (L2.take k).flatten)) (keptL (L1.take k).flatten) (keptL (L2.take k).flatten) (wholeL (L1.take k).flatten).length (wholeL (L2.take k).flatten).length
def intOf : Value → Int
  | .int _ i => i
  | _ => 0
theorem flat_take (L : List (List UInt8)) (k : Nat) : (L.take k).flatten.length ≤ L.flatten.length := by
  conv => rhs; rw [← List.take_append_drop k L, List.flatten_append, List.length_append]
  omega
theorem flat_next {L : List (List UInt8)} {k : Nat} (h : k < L.length) : (L.take (k + 1)).flatten = (L.take k).flatten ++ L[k] := by
  rw [take_next h, List.flatten_append]
  simp
theorem nl_ne {P : List UInt8} {j : Nat} (h : j < P.length) (hn : P[j] ≠ 10) : ((((BA P)[j]'h).toNat : Int) != 10) = true := by
  rw [bne_iff_ne]
  intro e
  have e2 : (((BA P)[j]'h).toNat) = 10 := by omega
  exact hn (UInt8.toNat_inj.1 e2)
theorem nl_eq {P : List UInt8} {j : Nat} (h : j < P.length) (hn : P[j] = 10) : ((((BA P)[j]'h).toNat : Int) != 10) = false := by
  rw [bne_eq_false_iff_eq, show (BA P)[j]'h = P[j] from rfl, hn]
  rfl
theorem R_made_nil {α : Type} (d : Kd α) (e : Nat) (w : World) (base : Nat) (ok : Nat → Prop) (hb : base ≤ w.heap.size) (hok : ok w.heap.size) : d.R e (w.alloc (.cells #[] e)) base ok (.slice (some ⟨w.heap.size, 0, none⟩) 0 0) [] := by
  refine ⟨fun k hk => by simp [Value.ownBlock] at hk; exact hk ▸ hok, [], ?_, Reps.none _ _⟩
  exact ⟨by simp, .inr ⟨w.heap.size, 0, #[], rfl, hb, heap_alloc_new w _, Nat.le_refl _, by decide, by simp, by simp⟩⟩
set_option maxHeartbeats 4000000 in
set_option maxRecDepth 100000 in
theorem lineFeeds_walk (L1 L2 : List (List UInt8)) (A1 A2 : Option Addr) (c1 c2 : Nat) (w : World) (hG : GW w) (h1 : Kd.C Kd.string w A1 L1.length (L1.map BA)) (h2 : Kd.C Kd.string w A2 L2.length (L2.map BA))
    (hb1 : L1.flatten.length ≤ 1048576) (hb2 : L2.flatten.length ≤ 1048576) (hl1 : L1.length ≤ 1048576) (hl2 : L2.length ≤ 1048576) :
    Calls Tryd.prog 5 #[.slice A1 L1.length c1, .slice A2 L2.length c2] w fun e w' => e = .returned (.bool true) ∧ Below w.heap.size w w' := by
  have HG := Lib.hid hG
  have HC1 := Lib.hid h1
  have HC2 := Lib.hid h2
  clear hG h1 h2
  go_enter Tryd.func5, Tryd.ntmps5
  go_wp2_with fail
  refine (new_walk _).mono ?_
  rintro e w1 ⟨ga, rfl, ha, hla, hbe1⟩
  have HA := Lib.hid ha
  have HLA := Lib.hid hla
  have HE := Lib.hid hbe1
  clear ha hla hbe1
  go_wp2_with fail
  refine (new_walk _).mono ?_
  rintro e w2 ⟨gb, rfl, hb, hlb, hbe2⟩
  have hne : ga ≠ gb := by have := blk_lt HA.out; omega
  have HA2 := Lib.hid (HA.out.below hbe2)
  have HB2 := Lib.hid hb
  have HLB2 := Lib.hid (Nat.le_trans HE.out.size hlb)
  have HE2 := Lib.hid (below_step HE.out hbe2)
  have HNE := Lib.hid hne
  clear HA hb hlb hbe2 HE hne
  go_wp2_with fail
  refine (posternlaw09_awake.calls true _ awake_true).mono ?_
  rintro e w3 ⟨rfl, hd⟩
  have hbe3 := hd.below
  have HA3 := Lib.hid (HA2.out.below hbe3)
  have HB3 := Lib.hid (HB2.out.below hbe3)
  have HE3 := Lib.hid (below_step HE2.out hbe3)
  clear hd hbe3 HA2 HB2 HE2
  go_wp2_with (first
    | (go_at_call 22; refine (feed_nil _ _).mono ?_; rintro e w' ⟨rfl, rfl⟩)
    | (go_at_call 23; refine (end_nil _).mono ?_; rintro e w' ⟨rfl, rfl⟩)
    | (go_at_call 24; refine (number_nil _).mono ?_; rintro e w' ⟨rfl, rfl⟩))
  have hlt3 := HE3.out.size
  have FS0 : FS w ((w'.alloc (.cells #[] 58)).alloc (.cells #[] 58)) ga gb (.slice (some ⟨w'.heap.size, 0, none⟩) 0 0) (.slice (some ⟨w'.heap.size + 1, 0, none⟩) 0 0) [] [] [] [] 0 0 := by
    have hs : (w'.alloc (.cells #[] 58)).heap.size = w'.heap.size + 1 := by simp
    have hb' : Below w'.heap.size w' ((w'.alloc (.cells #[] 58)).alloc (.cells #[] 58)) := ((Below.refl _ _).alloc (Nat.le_refl _) _).alloc (by simp) _
    refine ⟨?_, ?_, HA3.out.below hb', HB3.out.below hb', HNE.out, HLA.out, HLB2.out, below_step HE3.out hb'⟩
    · exact Kd.R_alloc (R_made_nil _ _ _ _ _ hlt3 ⟨trivial, by simp [Value.ownBlock]⟩) _
    · have := R_made_nil k58 58 (w'.alloc (.cells #[] 58)) w.heap.size (fun k => True ∧ some k ≠ (Value.slice (some ⟨w'.heap.size, 0, none⟩) 0 0).ownBlock) (by simp; omega) ⟨trivial, by simp [Value.ownBlock]⟩
      rw [hs] at this
      exact this
  have FS0 := Lib.hid FS0
  clear hlt3
  go_loopw [8, 9, 10, 11, 12] (fun p q x y i W => FeedsRel w L1 L2 ga gb p q x y i W) (fun _ _ _ _ i _ => max L1.length L2.length - (intOf i).toNat)
  case atStart => exact ⟨0, Nat.zero_le _, rfl, rfl, rfl, FS0.out⟩
  case round =>
    obtain ⟨k, hk, rfl, rfl, rfl, hfs⟩ := hrel
    have HF := Lib.hid hfs
    clear hfs FS0 HA3 HB3 HE3
    by_cases hmax : k < max L1.length L2.length
    · have hp1 : (L1.take k).flatten.length ≤ 1048576 := Nat.le_trans (flat_take L1 k) hb1
      have hp2 : (L2.take k).flatten.length ≤ 1048576 := Nat.le_trans (flat_take L2 k) hb2
      obtain ⟨P, hP⟩ : ∃ P, P = (L1.take k).flatten := ⟨_, rfl⟩
      obtain ⟨Q, hQ⟩ : ∃ Q, Q = (L2.take k).flatten := ⟨_, rfl⟩
      rw [← hP, ← hQ] at HF
      rw [← hP] at hp1 ⊢
      rw [← hQ] at hp2 ⊢
      have HPQ := Lib.hid (And.intro hP hQ)
      clear hP hQ
      by_cases hk1 : k < L1.length
      case' pos =>
        -- the first text goes on
        obtain ⟨ad, hA, hx⟩ := Kd.at_string (Kd.C_below HC1.out HF.out.below) (k : Int) (by omega) (by omega)
        subst hA
        rw [rdm hk1, Int.toNat_natCast] at hx
        have hn1 : L1[k].length + P.length ≤ 1048576 := by
          have h1 := flat_take L1 (k + 1)
          rw [flat_next hk1, List.length_append, ← HPQ.out.1] at h1
          omega
        have hflat := flat_next hk1
        rw [← HPQ.out.1] at hflat
        have HFL := Lib.hid hflat
        clear hflat
        generalize L1[k] = piece at *
        have hsz : (9223372036854775807 < (BA P).size + (BA piece).size) = False := eq_false (by rw [ba_size, ba_size]; omega)
        have hadd : BA P ++ BA piece = BA (P ++ piece) := ba_ext (by simp [BA])
        go_wp2_with fail
        have hwp := whole_parts P
        have hwq := whole_parts (P ++ piece)
        have hle := linesFrom_len (wholeL P) 1
        have hle2 := linesFrom_len (wholeL (keptL P ++ piece)) (((wholeL P).length : Int) + 1)
        have hwa := whole_append P piece
        rw [hwa, List.length_append, List.length_append] at hwq
        refine (feed_walk (keptL P) piece (wholeL P).length ga _ (HG.out.keep HF.out.below) HF.out.ba (by omega) (by omega)).mono ?_
        rintro e w4 ⟨v4, rfl, hr4, hk4, hd4⟩
        have hst : linesFrom 1 (wholeL (P ++ piece)) = linesFrom 1 (wholeL P) ++ linesFrom (((wholeL P).length : Int) + 1) (wholeL (keptL P ++ piece)) := by
          rw [hwa, linesFrom_append, Int.add_comm 1]
        rw [← kept_append, ← List.length_append, ← hwa] at hd4
        have HS4 := Lib.hid hst
        have HD4 := Lib.hid hd4
        have HK4 := Lib.hid hk4
        have HR4 := Lib.hid hr4
        have hll : ((linesFrom 1 (wholeL P)).length + (linesFrom (((wholeL P).length : Int) + 1) (wholeL (keptL P ++ piece))).length) * 48 ≤ 140737488355328 := by omega
        clear hwp hwq hle hle2 hwa hst hd4 hk4 hr4 hx hsz hadd
        go_upto_region 13 with (at_builtin; refine FS.append HF.out HK4.out HD4.out HR4.out hll rfl (.tmp 73) (.tmp 79) rfl Tryd.underlying47 info_line rfl rfl ?_; intro x5 w5 hfs _)
        rw [← HS4.out] at hfs
        rw [← HFL.out] at hfs ⊢
        clear HS4 HD4 HK4 HR4 HFL hll hn1 HF
      case' neg =>
        -- it is at its end
        go_upto_region 13 with fail
        have hfs := HF.out
        have e1 : (L1.take (k + 1)).flatten = P := by rw [HPQ.out.1, List.take_of_length_le (by omega), List.take_of_length_le (by omega)]
        rw [← e1] at hfs ⊢
        clear e1 HF
        generalize u10 = x5 at *
        generalize wr = w5 at *
      all_goals
        have HF5 := Lib.hid hfs.swap
        clear hfs
        have hp1 := Nat.le_trans (flat_take L1 (k + 1)) hb1
        obtain ⟨P1, hP1⟩ : ∃ P1, P1 = (L1.take (k + 1)).flatten := ⟨_, rfl⟩
        rw [← hP1] at HF5 hp1 ⊢
        have HP1 := Lib.hid hP1
        clear hP1
        rcases Nat.lt_or_ge k L2.length with hk2 | hk2
        case' inl =>
          -- the second text goes on
          obtain ⟨ad, hA, hx⟩ := Kd.at_string (Kd.C_below HC2.out HF5.out.below) (k : Int) (by omega) (by omega)
          subst hA
          rw [rdm hk2, Int.toNat_natCast] at hx
          have hn1 : L2[k].length + Q.length ≤ 1048576 := by
            have h1 := flat_take L2 (k + 1)
            rw [flat_next hk2, List.length_append, ← HPQ.out.2] at h1
            omega
          have hflat := flat_next hk2
          rw [← HPQ.out.2] at hflat
          have HFL := Lib.hid hflat
          clear hflat
          generalize L2[k] = piece at *
          have hsz : (9223372036854775807 < (BA Q).size + (BA piece).size) = False := eq_false (by rw [ba_size, ba_size]; omega)
          have hadd : BA Q ++ BA piece = BA (Q ++ piece) := ba_ext (by simp [BA])
          go_wp2_with fail
          have hwp := whole_parts Q
          have hwq := whole_parts (Q ++ piece)
          have hle := linesFrom_len (wholeL Q) 1
          have hle2 := linesFrom_len (wholeL (keptL Q ++ piece)) (((wholeL Q).length : Int) + 1)
          have hwa := whole_append Q piece
          rw [hwa, List.length_append, List.length_append] at hwq
          refine (feed_walk (keptL Q) piece (wholeL Q).length gb _ (HG.out.keep HF5.out.below) HF5.out.ba (by omega) (by omega)).mono ?_
          rintro e w4 ⟨v4, rfl, hr4, hk4, hd4⟩
          have hst : linesFrom 1 (wholeL (Q ++ piece)) = linesFrom 1 (wholeL Q) ++ linesFrom (((wholeL Q).length : Int) + 1) (wholeL (keptL Q ++ piece)) := by
            rw [hwa, linesFrom_append, Int.add_comm 1]
          rw [← kept_append, ← List.length_append, ← hwa] at hd4
          have HS4 := Lib.hid hst
          have HD4 := Lib.hid hd4
          have HK4 := Lib.hid hk4
          have HR4 := Lib.hid hr4
          have hll : ((linesFrom 1 (wholeL Q)).length + (linesFrom (((wholeL Q).length : Int) + 1) (wholeL (keptL Q ++ piece))).length) * 48 ≤ 140737488355328 := by omega
          clear hwp hwq hle hle2 hwa hst hd4 hk4 hr4 hx hsz hadd
          go_upto_region 16 with (at_builtin; refine FS.append HF5.out HK4.out HD4.out HR4.out hll rfl (.tmp 91) (.tmp 97) rfl Tryd.underlying47 info_line rfl rfl ?_; intro y6 w6 hfs _)
          rw [← HS4.out] at hfs
          rw [← HFL.out] at hfs ⊢
          clear HS4 HD4 HK4 HR4 HFL hll hn1 HF5
        case' inr =>
          -- it is at its end
          first
          | (exfalso; clear hp1 hp2; omega)
          | (replace hk2 := Nat.not_lt.2 hk2
             go_upto_region 16 with fail
             have hfs := HF5.out
             have e1 : (L2.take (k + 1)).flatten = Q := by rw [HPQ.out.2, List.take_of_length_le (by omega), List.take_of_length_le (by omega)]
             rw [← e1] at hfs ⊢
             clear e1 HF5
             generalize u11 = y6 at *
             generalize w5 = w6 at *)
        all_goals
          have HF6 := Lib.hid hfs.swap
          clear hfs
          have hp2 := Nat.le_trans (flat_take L2 (k + 1)) hb2
          obtain ⟨Q1, hQ1⟩ : ∃ Q1, Q1 = (L2.take (k + 1)).flatten := ⟨_, rfl⟩
          rw [← hQ1] at HF6 hp2 ⊢
          have HQ1 := Lib.hid hQ1
          clear hQ1
          obtain ⟨h, hh, hht, hhl, hhr, hhz⟩ := head_at_end P1
          have HHR := Lib.hid hhr
          have HHZ := Lib.hid hhz
          have HHT := Lib.hid (And.intro hh hht)
          clear hh hht hhr hhz
          go_wp2_with fail
          go_loopw [13] (fun c W => ∃ j : Nat, c = .int .i64 j ∧ h ≤ j ∧ j ≤ P1.length ∧ W = w6) (fun c _ => (intOf c).toNat)
          case atStart => exact ⟨P1.length, by rw [ba_size], hhl, Nat.le_refl _, rfl⟩
          case round =>
            obtain ⟨j, rfl, hj1, hj2, hw⟩ := hrel
            obtain rfl := hw.symm
            by_cases hjh : h < j
            · obtain ⟨j', rfl⟩ : ∃ j', j = j' + 1 := ⟨j - 1, by omega⟩
              have hj3 : j' < P1.length := by omega
              have hj4 : j' < (BA P1).size := hj3
              have hbb : ((((BA P1)[j']'hj4).toNat : Int) != 10) = true := nl_ne hj3 (HHR.out j' hj3 (by omega))
              go_wp2_with fail
              exact ⟨⟨j', by simp, by omega, by omega, by first | rfl | trivial⟩, by simp [intOf]⟩
            · obtain rfl : j = h := by omega
              clear hjh hj1 hj2
              have hend : headL P1 = (BA P1).data.toList.take j := HHT.out.2
              have HEND := Lib.hid hend
              clear hend
              rcases j with _ | j'
              all_goals try
                have hj3 : j' < P1.length := by omega
                have hj4 : j' < (BA P1).size := hj3
                have hbb : ((((BA P1)[j']'hj4).toNat : Int) != 10) = false := nl_eq hj3 (by
                  rcases HHZ.out with h0 | ⟨_, h0⟩
                  · omega
                  · exact h0)
              all_goals
                go_wp2_with fail
                first
                | rw [show ByteArray.empty = BA (headL P1) from ba_ext (by rw [HEND.out]; rfl)]
                | rw [show (BA P1).extract 0 (j' + 1) = BA (headL P1) from by rw [extract_head, HEND.out]]
                have hhp : (headL P1).length ≤ 1048576 := by rw [HEND.out, ba_list, List.length_take]; omega
                refine (refLines_walk (headL P1) hhp _).mono ?_
                rintro e w7 ⟨A7, c7, rfl, hle7, hC7, hb7, _⟩
                rw [lines_head] at hle7 hC7
                rw [lines_head, pieces_head]
                have HF7 := Lib.hid (HF6.out.keep hb7)
                obtain ⟨Ax, cx, rfl, hlx, hCx⟩ := Kd.R_reads HF7.out.rx
                rw [List.length_map] at hlx hCx
                rw [List.length_map] at HF6 HF7 ⊢
                have HC7 := Lib.hid hC7
                have HCX := Lib.hid hCx
                have hf1 := linesFrom_fields (wholeL P1) 1 P1.length (whole_parts P1).1
                have hf2 := linesFrom_len (wholeL P1) 1
                have hf3 := (whole_parts P1).2.1
                have HF1 := Lib.hid hf1
                clear hC7 hCx hb7 hf1
                go_wp2_with fail
                refine (lines_walk (linesFrom 1 (wholeL P1)) Ax A7 cx c7 _ HCX.out hlx HC7.out hle7 (by omega) (fun x hx => by have := HF1.out x hx; omega)).mono ?_
                rintro e w8 ⟨rfl, hb8⟩
                have HF8 := Lib.hid (HF7.out.keep hb8)
                clear hb8 HF7
                go_wp2_with fail
                refine (rdnum_walk _ _ _ _ HF8.out.ba).mono ?_
                rintro e w9 ⟨rfl, rfl⟩
                go_wp2_with fail
                exact ⟨⟨k + 1, by omega, by simp, by rw [HP1.out], by rw [HQ1.out], by rw [← HP1.out, ← HQ1.out]; exact HF8.out⟩, by simp [intOf]; omega⟩
    · -- both texts are fed
      have e1 : (L1.take k).flatten = L1.flatten := by rw [List.take_of_length_le (by omega)]
      have e2 : (L2.take k).flatten = L2.flatten := by rw [List.take_of_length_le (by omega)]
      rw [e1, e2] at HF ⊢
      clear e1 e2
      generalize L1.flatten = P at *
      generalize L2.flatten = Q at *
      have hk1 : ¬ k < L1.length := by omega
      have hk2 : ¬ k < L2.length := by omega
      clear hmax hk
      go_wp2_with fail
      refine (refLines_walk P hb1 _).mono ?_
      rintro e w4 ⟨A4, c4, rfl, _, _, hbe4, hr4⟩
      have HF4 := Lib.hid (HF.out.keep hbe4)
      have HR4 := Lib.hid hr4
      clear HF hr4 hbe4
      go_wp2_with fail
      refine (refLines_walk Q hb2 _).mono ?_
      rintro e w5 ⟨A5, c5, rfl, _, _, hbe5, hr5⟩
      have HF5 := Lib.hid (HF4.out.keep hbe5)
      have HR45 := Lib.hid (Kd.R_below HR4.out hbe5)
      have HR5 := Lib.hid hr5
      clear HF4 HR4 hr5 hbe5
      have hwp := whole_parts P
      have hwq := whole_parts Q
      have hlp := linesFrom_len (wholeL P) 1
      have hlq := linesFrom_len (wholeL Q) 1
      have hep : ((linesFrom 1 (wholeL P)).length + (endL (keptL P) (wholeL P).length).length) * 48 ≤ 140737488355328 := by
        have := linesFrom_len [keptL P] ((wholeL P).length + 1)
        unfold endL
        split <;> simp at * <;> omega
      have heq : ((linesFrom 1 (wholeL Q)).length + (endL (keptL Q) (wholeL Q).length).length) * 48 ≤ 140737488355328 := by
        have := linesFrom_len [keptL Q] ((wholeL Q).length + 1)
        unfold endL
        split <;> simp at * <;> omega
      have HLP := Lib.hid (linesL_fields P hb1)
      have HLQ := Lib.hid (linesL_fields Q hb2)
      go_wp2_with fail
      refine (end_walk (keptL P) (wholeL P).length ga _ (HG.out.keep HF5.out.below) HF5.out.ba (by omega) (by omega)).mono ?_
      rintro e w6 ⟨v6, rfl, hr6, hk6, hd6⟩
      have HR6 := Lib.hid hr6
      have HK6 := Lib.hid hk6
      have HD6 := Lib.hid hd6
      clear hr6 hk6 hd6
      go_wp2_with (at_builtin; refine FS.append HF5.out HK6.out HD6.out HR6.out hep rfl (.tmp 139) (.tmp 141) rfl Tryd.underlying47 info_line rfl rfl ?_; intro x7 w7 hf7 hm7)
      rw [← lines_end] at hf7
      have HR7 := Lib.hid (hm7 HR45.out)
      have HR75 := Lib.hid (hm7 HR5.out)
      have hcl7 := lines_R HR7.out
      have HCL7 := Lib.hid hcl7
      obtain ⟨Ax, cx, rfl, hlx, hCx⟩ := Kd.R_reads hf7.rx
      rw [List.length_map] at hlx hCx
      rw [List.length_map] at hf7 ⊢
      have HF7 := Lib.hid hf7
      have HCX := Lib.hid (And.intro hlx hCx)
      clear hm7 hcl7 hf7 hlx hCx
      refine (lines_walk (linesL P) Ax A4 cx c4 _ HCX.out.2 HCX.out.1 HCL7.out.2 HCL7.out.1 HLP.out.2 HLP.out.1).mono ?_
      rintro e w8 ⟨rfl, hb8⟩
      have HF8 := Lib.hid (HF7.out.keep hb8).swap
      have HR8 := Lib.hid (Kd.R_below HR75.out hb8)
      clear HCX HCL7 HR7 HR75 HF7 hb8
      go_wp2_with fail
      refine (end_walk (keptL Q) (wholeL Q).length gb _ (HG.out.keep HF8.out.below) HF8.out.ba (by omega) (by omega)).mono ?_
      rintro e w9 ⟨v9, rfl, hr9, hk9, hd9⟩
      have HR9 := Lib.hid hr9
      have HK9 := Lib.hid hk9
      have HD9 := Lib.hid hd9
      clear hr9 hk9 hd9
      go_wp2_with (at_builtin; refine FS.append HF8.out HK9.out HD9.out HR9.out heq rfl (.tmp 146) (.tmp 148) rfl Tryd.underlying47 info_line rfl rfl ?_; intro y10 w10 hf10 hm10)
      rw [← lines_end] at hf10
      have hcl10 := lines_R (hm10 HR8.out)
      have HCL10 := Lib.hid hcl10
      obtain ⟨Ay, cy, rfl, hly, hCy⟩ := Kd.R_reads hf10.rx
      rw [List.length_map] at hly hCy
      rw [List.length_map] at hf10 ⊢
      have HF10 := Lib.hid hf10
      have HCY := Lib.hid (And.intro hly hCy)
      clear hm10 hcl10 hf10 hly hCy
      refine (lines_walk (linesL Q) Ay A5 cy c5 _ HCY.out.2 HCY.out.1 HCL10.out.2 HCL10.out.1 HLQ.out.2 HLQ.out.1).mono ?_
      rintro e w11 ⟨rfl, hb11⟩
      have HF11 := Lib.hid (HF10.out.keep hb11)
      clear HCY HCL10 HF10 hb11
      rw [pieces_end, pieces_end]
      generalize endN (keptL P) (wholeL P).length = np at *
      generalize endN (keptL Q) (wholeL Q).length = nq at *
      go_wp2_with fail
      refine (rdnum_walk _ _ _ _ HF11.out.bb).mono ?_
      rintro e w12 ⟨rfl, rfl⟩
      go_wp2_with fail
      refine (rdnum_walk _ _ _ _ HF11.out.ba).mono ?_
      rintro e w13 ⟨rfl, rfl⟩
      go_wp2_with fail
      go_returns
      exact ⟨rfl, HF11.out.below⟩
end Go.Proofs.YthngjkaphfkmmaaDoor
/-! Frame -/
namespace Go.Proofs.YthngjkaphfkmmaaDoor
open Go.RowKit Go.WideShapes Go.ChangeShapes Go.ChangeAt
set_option linter.unusedVariables false
set_option linter.unusedSimpArgs false
section
variable {H : Type} {enc : TypeId × Value → H} {P : Program}
theorem law_below {f : Func} {s : ChangeSpec} {apart fresh handsOn again : Bool} {W W' : World} {args : Array Value} {v : Value} {ds gs : List (DataW H)} {before pa pv : List MemPlace}
    (hW : DataW.Whole enc P f.params.toList s.vars apart W args.toList ds gs before)
    (hres : ∀ (b : Nat) (sp : Nat → Bool) (hd : Bool), DataW.TrodAll enc P W' b sp hd f.resultTypes.toList (v.resultList f.resultTypes.size) (s.fn H (ds ++ gs)).results [])
    (hargs : ∀ sp : Nat → Bool, (∀ p ∈ before, sp p.block = true) → DataW.TrodAll enc P W' 0 sp true f.params.toList args.toList (s.fn H (ds ++ gs)).args pa)
    (hvars : ∀ sp : Nat → Bool, (∀ p ∈ before, sp p.block = true) → DataW.TrodVars enc P W' sp s.vars (s.fn H (ds ++ gs)).vars pv)
    (hps : before = pa ++ pv) (hb : Below W.heap.size W W')
    (hok : ∀ (j : Nat) (t : TypeId) (r : Value), f.resultTypes[j]? = some t → (v.resultList f.resultTypes.size)[j]? = some r → Value.okWide P W' .any 0 t r) :
    s.post enc P f apart fresh handsOn again W args v W' := by
  have hlt : ∀ p ∈ before, p.block < W.heap.size := fun p hp => hW.lt p hp
  have hold : ∀ p ∈ before, (fun b => decide (b < W.heap.size)) p.block = true := fun p hp => by simpa using hlt p hp
  refine ⟨ds, gs, before, [], pa, pv, hW, hres _ _ _, hargs _ hold, hvars _ hold, World.keptBut_mono (fun p hp => ⟨hp, ?_⟩) (hb.frame (· ∈ before)), fun _ => ?_⟩
  · rw [hps, List.mem_append] at hp
    exact Or.inr hp
  · obtain ⟨_, _, _, _, _, hz, hn⟩ := hW
    refine ⟨hok, _, _, ([] ++ pa) ++ pv, ⟨[] ++ pa, pv, trodAll_append (hargs _ (fun _ _ => rfl)) (hres _ _ _), hvars _ (fun _ _ => rfl), rfl, ?_, ?_⟩, ?_⟩
    · intro b off hp
      have hin : MemPlace.cell b off ∈ before := by rw [hps]; simpa using hp
      rw [hb.frozen (hlt _ hin)]
      exact hz b off hin
    · intro ha
      have := hn ha
      rw [hps] at this
      simpa using this
    · intro p hp _
      rw [hps]
      simpa using hp
/-- All arguments read as they did, where all stays that was there. -/
theorem args_stay (hl : laidOutB P = true) {W W' : World} (hB : Below W.heap.size W W') {sp : Nat → Bool} :
    ∀ (ts : List TypeId) (vs : List Value) (ds : List (DataW H)) (ps : List MemPlace), (∀ t ∈ ts, P.readableRec t = true ∧ t < P.types.size) → DataW.TrodAll enc P W 0 (fun _ => true) true ts vs ds ps →
      (∀ p ∈ ps, p.block < W.heap.size) → (∀ p ∈ ps, sp p.block = true) → DataW.TrodAll enc P W' 0 sp true ts vs ds ps
  | [], vs, ds, ps, _, h, _, _ => by
    obtain ⟨rfl, rfl, rfl⟩ := trodAll_nil h
    exact trodAll_mk0
  | t :: ts, vs, ds, ps, hr, h, hlt, hs => by
    obtain ⟨v, vs1, d, ds1, a, b, rfl, rfl, rfl, h1, h2⟩ := trodAll_cons h
    have hlt' := hlt
    exact trodAll_cons_mk (WideElems.Trod_stays hl (hr t (by simp)).1 (hr t (by simp)).2 h1 (fun x hx => hB.same (hlt x (by simp [hx]))) (fun x hx => hs x (by simp [hx])))
      (args_stay hl hB ts vs1 ds1 b (fun t ht => hr t (by simp [ht])) h2 (fun p hp => hlt p (by simp [hp])) (fun p hp => hs p (by simp [hp])))
/-- THE STEP OF A LAW's ROW. -/
theorem law_post {f : Func} {s : ChangeSpec} {tb : TypeId} {W W' : World} {args : Array Value} {ds : List (DataW H)} {before : List MemPlace} (hv : s.vars = []) (hfn : s.fn H ds = { results := [.lit (.bool true)], args := ds })
    (hres : f.resultTypes = #[tb]) (hb : P.underlying tb = some .bool) (hl : laidOutB P = true) (hr : ∀ t ∈ f.params.toList, P.readableRec t = true ∧ t < P.types.size)
    (hW : DataW.Whole enc P f.params.toList s.vars false W args.toList ds [] before) (hB : Below W.heap.size W W') : s.post enc P f false true false false W args (.bool true) W' := by
  have hW' := hW
  obtain ⟨p, q, hA, hV, hpq, hfz, hnd⟩ := hW
  have hA : DataW.TrodAll enc P W 0 (fun _ => true) true f.params.toList args.toList ds p := hA
  rw [hv] at hV
  obtain ⟨_, rfl⟩ := trodVars_none hV
  have hlt : ∀ x ∈ before, x.block < W.heap.size := fun x hx => hW'.lt x hx
  subst hpq
  refine law_below (pa := p) (pv := []) hW' ?_ ?_ ?_ (by simp) hB ?_
  · intro b sp hd
    rw [List.append_nil, hfn, hres]
    exact trodAll_cons_mk (shut_bool hb true) trodAll_mk0
  · intro sp hs
    rw [List.append_nil, hfn]
    exact args_stay hl hB _ _ _ _ hr hA (fun x hx => hlt x (by simp [hx])) (fun x hx => hs x (by simp [hx]))
  · intro sp hs
    rw [List.append_nil, hfn, hv]
    rfl
  · exact ok_one hres rfl (okWide_bool_mk hb true)
end
end Go.Proofs.YthngjkaphfkmmaaDoor
/-! OpenTexts -/
namespace Go.Proofs.YthngjkaphfkmmaaDoor
open Go.RowKit Go.WideShapes Go.ChangeShapes Go.ChangeAt Go.Proofs.YthngjkaphfkmmaaDoorW.PrintWords
set_option linter.unusedVariables false
set_option linter.unusedSimpArgs false
section
variable {H : Type} {enc : TypeId × Value → H} {W : World} {base : Nat} {sp : Nat → Bool} {held : Bool}
theorem strCells1 : Tryd.prog.cellsOf 9 = 1 := by kernel_rfl
set_option maxRecDepth 100000 in
theorem texts_open {base2 : Nat} {v : Value} {d : DataW H} {ps : List MemPlace} (hval : Value.okWide Tryd.prog W .any base2 56 v) (h : DataW.Trod enc Tryd.prog W base sp held 56 v d ps) :
    ∃ (A : Option Addr) (c : Nat) (l : List (List UInt8)), v = .slice A l.length c ∧ l.length ≤ c ∧ Kd.C Kd.string W A l.length (l.map BA) ∧ l.flatten.length + l.length ≤ Rows.uptoBulk d := by
  obtain ⟨a0, len0, cap0, rfl⟩ := okWide_slice Tryd.underlying56 hval
  obtain ⟨fuel, hf⟩ := h
  rcases DataW.trod_slice Tryd.underlying56 hf with ⟨hcs, _⟩ | ⟨a, len, cap, elems, rest, n, _, hcs, hx, hb, hl, hm, hlen, hel, hsp, hns⟩
  · simp [Value.cells] at hcs
    obtain ⟨rfl, rfl, rfl⟩ := hcs
    exact ⟨none, 0, [], rfl, Nat.le_refl _, ⟨rfl, by decide, fun h => absurd h (by decide)⟩, Nat.zero_le _⟩
  · simp [Value.cells] at hcs
    obtain ⟨rfl, rfl, rfl⟩ := hcs
    rw [strCells1] at hel
    have key : ∀ m, m ≤ len0 → ∃ l : List (List UInt8), l.length = m ∧ (∀ i p, l[i]? = some p → W.cell? (a.add i) = some (.string (BA p))) ∧ l.flatten.length + l.length ≤ Rows.uptoBulkAll ((elems.take m).map (·.1)) := by
      intro m
      induction m with
      | zero => exact fun _ => ⟨[], rfl, fun i p h => by simp at h, Nat.zero_le _⟩
      | succ m ih =>
        intro hm'
        obtain ⟨l, e, hk, hbk⟩ := ih (by omega)
        have he := hel m (by omega)
        rw [List.getElem?_eq_getElem (by omega), Option.bind_eq_some_iff] at he
        obtain ⟨cs, hc, ht⟩ := he
        obtain ⟨s, rfl, hxs, _⟩ := DataW.trod_string Tryd.underlying9 ht
        have hc' := (World.cells?_some hc).2.2 0 (by omega)
        rw [Nat.mul_one] at hc'
        have hcell : W.cell? (a.add m) = some (.string s) := by
          have e0 : (a.add m).add 0 = a.add m := by simp [Addr.add]
          rw [e0] at hc'
          simpa using hc'
        refine ⟨l ++ [s.data.toList], by simp [e], fun i z hz => ?_, ?_⟩
        · rcases Nat.lt_or_ge i l.length with hi | hi
          · rw [List.getElem?_append_left hi] at hz
            exact hk i z hz
          · rw [List.getElem?_append_right hi] at hz
            have hi2 : i = m := by
              rcases Nat.lt_or_ge (i - l.length) 1 with h | h
              · omega
              · rw [List.getElem?_eq_none (by simpa using h)] at hz; cases hz
            subst hi2
            rw [e, Nat.sub_self] at hz
            obtain rfl := (Option.some.inj hz)
            rw [ba_of]
            exact hcell
        · have hbulk : ∀ (xs : List (DataW H)) (y : DataW H), Rows.uptoBulkAll (xs ++ [y]) = Rows.uptoBulkAll xs + Rows.uptoBulk y := by
            intro xs y
            induction xs with
            | nil => simp [Rows.uptoBulkAll]
            | cons x xs ih => simp only [List.cons_append, Rows.uptoBulkAll, ih]; omega
          rw [List.take_add_one, List.getElem?_eq_getElem (by omega), List.map_append]
          have hel1 : (elems[m]'(by omega)).1 = .lit (.string s.data.toList) := congrArg Prod.fst hxs
          simp only [Option.toList, List.map_cons, List.map_nil]
          rw [hbulk, hel1, Rows.uptoBulk, List.flatten_append, List.length_append, List.length_append]
          simp only [List.flatten_cons, List.flatten_nil, List.append_nil, List.length_cons, List.length_nil]
          omega
    obtain ⟨l, hll, hlk, hbk⟩ := key len0 (Nat.le_refl _)
    have hd : Rows.uptoBulkAll ((elems.take len0).map (·.1)) ≤ Rows.uptoBulk d := by
      have e : d = _ := congrArg Prod.fst hx
      rw [e, List.take_of_length_le (by omega)]
      simp only [Rows.uptoBulk]
      omega
    refine ⟨some a, cap0, l, by rw [hll], by rw [hll]; exact hl, ⟨by rw [List.length_map], by rw [hll]; exact Nat.le_trans hl (Nat.le_trans hm (by decide)), fun _ => ⟨a, rfl, fun j p hj => ?_⟩⟩, by omega⟩
    rw [List.getElem?_map] at hj
    cases hlj : l[j]? with
    | none => rw [hlj] at hj; cases hj
    | some q =>
      rw [hlj] at hj
      obtain rfl := Option.some.inj hj
      refine ⟨[.string (BA q)], rfl, rfl, fun i u hi => ?_⟩
      match i, hi with
      | 0, hi =>
        obtain rfl := Option.some.inj hi
        have := hlk j q hlj
        have e : (a.add (j * 1)).add 0 = a.add j := by simp [Addr.add]
        rw [show j * Kd.string.sz = j from Nat.mul_one j]
        simpa [Addr.add] using this
      | i + 1, hi => cases hi
end
end Go.Proofs.YthngjkaphfkmmaaDoor
/-! LineFeedsCard -/
namespace Go.Proofs.YthngjkaphfkmmaaDoor.fnLineFeeds
open Go.ChangeShapes Go.WideShapes Go.ChangeAt Go.RowKit Go.Proofs.YthngjkaphfkmmaaDoor
set_option linter.unusedVariables false
theorem own : ownKnob Tryd.prog.godebug = none := by kernel_rfl
theorem laidOut : laidOutB Tryd.prog = true := by kernel_rfl
theorem gw_of {W : World} (h : W.ShapedOpen Tryd.prog) (hL : laidMetH Tryd.prog Rows.lineFeedsUptoRow.laid W) : GW W where
  maxLen := Tryd.laysM219.s1_3 W h
set_option maxRecDepth 100000 in
theorem contract (H : Type) (enc : TypeId × Value → H) (W : World) (base : Nat) (args : Array Value) (ds gs : List (DataW H)) (before : List MemPlace)
    (hval : ∀ (j : Nat) t v, Tryd.f5.params[j]? = some t → args[j]? = some v → Value.okWide Tryd.prog W .any base t v)
    (hW : DataW.Whole enc Tryd.prog Tryd.f5.params.toList Rows.lineFeedsSpec.vars false W args.toList ds gs before) (hk : Rows.uptoSmall H (ds ++ gs) = true) (hL : laidMetH Tryd.prog Rows.lineFeedsUptoRow.laid W) (hsh : W.ShapedOpen Tryd.prog) :
    Calls Tryd.prog 5 args W fun e W' => ∃ v, e = .returned v ∧ Rows.lineFeedsSpec.post enc Tryd.prog Tryd.f5 false true false false W args v W' := by
  have hW' := hW
  obtain ⟨p, q, hA0, hV, rfl, hfz, hnd⟩ := hW
  have hA : DataW.TrodAll enc Tryd.prog W 0 (fun _ => true) true Tryd.f5.params.toList args.toList ds p := hA0
  rw [Tryd.params5] at hA hval
  obtain ⟨v0, vs0, d0, ds0, p0, q0, hargs, rfl, rfl, h0, r0⟩ := trodAll_cons hA
  obtain ⟨v1, vs1, d1, ds1, p1, q1, rfl, rfl, rfl, h1, r1⟩ := trodAll_cons r0
  obtain ⟨rfl, rfl, rfl⟩ := trodAll_nil r1
  obtain rfl : args = #[v0, v1] := by cases args; simp_all
  obtain ⟨rfl, rfl⟩ := trodVars_none hV
  obtain ⟨A0, c0, l0, rfl, hc0, hC0, hk0⟩ := texts_open (hval 0 56 v0 rfl rfl) h0
  obtain ⟨A1, c1, l1, rfl, hc1, hC1, hk1⟩ := texts_open (hval 1 56 v1 rfl rfl) h1
  clear hA0
  have hb : Rows.uptoBulkAll _ ≤ 1048576 := of_decide_eq_true hk
  simp only [Rows.uptoBulkAll, Rows.uptoBulk, List.append_nil] at hb
  have hG := gw_of hsh hL
  refine (lineFeeds_walk l0 l1 A0 A1 c0 c1 W hG hC0 hC1 (by omega) (by omega) (by omega) (by omega)).mono fun e W' ⟨he, hg⟩ => ?_
  subst he
  exact ⟨_, rfl, law_post (s := Rows.lineFeedsSpec) (f := Tryd.f5) rfl rfl (tb := 4) rfl Tryd.underlying4 laidOut (by rw [Tryd.params5]; intro t ht; simp at ht; subst ht; exact ⟨by kernel_rfl, of_decide_eq_true (by kernel_rfl)⟩) hW' hg⟩
def accepts : List Nat := [128, 191, 160, 191, 128, 159, 144, 191, 128, 143, 0, 0, 0, 0, 0, 0, 0, 0, 0, 0, 0, 0, 0, 0, 0, 0, 0, 0, 0, 0, 0, 0]
/-- A world for the witness: the settled one, the tables holding what their initialisers lay. -/
noncomputable def laidWorld (os : Os) : World := { World.holding Tryd.prog os ⟨#[], #[], []⟩ with heap := (((World.holding Tryd.prog os ⟨#[], #[], []⟩).heap.modify 2 fun | .cells _ t frozen => .cells (accepts.map fun (z : Nat) => Value.int .u8 z).toArray t frozen | o => o).modify 1 fun | .cells _ t frozen => .cells (Go.Pinned.utf8FirstZ.map fun (z : Nat) => Value.int .u8 z).toArray t frozen | o => o) }
theorem laid_met (os : Os) : laidMet Tryd.prog Rows.lineFeedsUptoRow.laid ((laidWorld os).forCall (fun _ _ => 0) ⟨#[], #[.slice none 0 0, .slice none 0 0], []⟩).memory :=
  laidMet_of_run' 8 (by kernel_rfl) (by kernel_rfl)
theorem reads (os : Os) {H : Type} (enc : TypeId × Value → H) : ∃ places, DataW.whole enc Tryd.prog ((laidWorld os).forCall (fun _ _ => 0) ⟨#[], #[.slice none 0 0, .slice none 0 0], []⟩).memory Tryd.f5.params.toList Rows.lineFeedsSpec.vars false (#[.slice none 0 0, .slice none 0 0] : Array Value).toList 8 = some ([.nil, .nil], [], places) :=
  ⟨[], by kernel_rfl⟩
set_option maxRecDepth 100000 in
theorem lifted (os : Os) (started : os.Started) (H : Type) (enc : TypeId × Value → H) (F : Stop.Interp) :
    ReturnsInHanded {} Tryd.checked os 5 .any ((Rows.OpenSpec.upto Rows.lineFeedsSpec).preRow enc Tryd.prog Tryd.f5 Rows.lineFeedsUptoRow.domain false Rows.lineFeedsUptoRow.laid) (((Rows.OpenSpec.upto Rows.lineFeedsSpec).at F).post enc Tryd.prog Tryd.f5 false true false false) := by
  obtain ⟨places, hx⟩ := reads os enc
  refine returnsInHanded_of_row (C := Tryd.checked) (s := Rows.OpenSpec.upto Rows.lineFeedsSpec) own started (by kernel_rfl) Tryd.func5
    (witness_row_at (enc := enc) (C := Tryd.checked) false (laidWorld os) #[.slice none 0 0, .slice none 0 0] rfl (by kernel_rfl) (by kernel_rfl) (by kernel_rfl)
      (OpenSpec.preRow_of_cond 8 hx (by kernel_rfl) (fun k hk => by cases hk; kernel_rfl) (by kernel_rfl) (laid_met os))) ?_
  intro W base args ds gs before hval hW _ hcond _ hL hsh _
  exact contract H enc W base args ds gs before hval hW (hcond _ rfl) hL hsh
theorem said : Rows.LineFeedsUptoSaid :=
  OpenClaim.holds_of_cond 5 Tryd.f5 rfl rfl rfl rfl rfl rfl rfl ⟨rfl, rfl, rfl, rfl, rfl⟩ rfl rfl rfl rfl rfl (by kernel_rfl) Tryd.func5 (by kernel_rfl)
    (of_decide_eq_true (by kernel_rfl)) (by unfold Func.isWrapper; first | (rw [if_pos (by decide +kernel)]; kernel_rfl) | (rw [if_neg (by decide +kernel)]; exact ⟨rfl, rfl⟩))
    (fun os started H enc _ F => by rw [OpenClaim.pre_eq_preRow]; exact lifted os started H enc F)
/-- No parameter wants a stand-in; the program's own looks are off. -/
theorem plain (f : FuncId) (fn : Func) (hf : Tryd.pinned.checked.prog.funcNamed "postern/posternlaw09.LineFeeds" = some f) (hfn : Tryd.pinned.checked.prog.funcs[f]? = some fn) :
    false = Tryd.pinned.checked.prog.looks [] ∧ ∀ (j : Nat) t, fn.params[j]? = some t → Tryd.pinned.checked.prog.wantsStandIn t = false := by
  obtain rfl : f = 5 := Option.some.inj ((show Tryd.prog.funcNamed "postern/posternlaw09.LineFeeds" = some 5 by kernel_rfl).symm.trans hf) |>.symm
  obtain rfl : fn = Tryd.f5 := (Option.some.inj (Tryd.func5.symm.trans hfn)).symm
  refine ⟨by kernel_rfl, fun j t ht => ?_⟩
  rw [Tryd.params5] at ht
  have hm := Array.mem_of_getElem? ht
  simp at hm
  subst hm
  exact (show Tryd.prog.wantsStandIn 56 = false by kernel_rfl)
theorem card : Rows.LineFeedsUptoCardSaid :=
  Claim7.holds_tied_plain_at .later [] _ _ _ _ said (fun _ h => by cases h) (by kernel_rfl) (fun _ h => by cases h) lineFeedsUpto_row_tie rfl ⟨rfl, rfl⟩ (by kernel_rfl) rfl plain (by kernel_rfl)
#print axioms card
end Go.Proofs.YthngjkaphfkmmaaDoor.fnLineFeeds
