/- Several texts in one (wip/gen/pack.py): LnP LnM Ext LnFeed LnSeq LnFeeds InRound LnRead LnReadW SeqB LnReads LnReadsLaw Frame LineReadsCard. -/
import Derived.Test.YthngjkaphfkmmaaDoorPLR0
import Derived.Test.YthngjkaphfkmmaaDoorPLR1
import Derived.Below
import Derived.Laws.AppendOwn
import Derived.Laws.OwnMore
import Derived.BigQuiet
import Derived.Deep.QuietTactic
import Derived.Handy
import Derived.ProofKit
import Derived.Test.YthngjkaphfkmmaaDoorRows
import Derived.WalkKit
import Derived.WalkLawsBesides
import Derived.WalkSpells
import Derived.Lib.Builder
import Derived.LoopIn
import Derived.LoopNIn
import Derived.OwnWalkIn
import Derived.RangeFuncBound
import Derived.RangeFuncCalls
import Derived.RangeFuncLeaves
import Derived.RangeFuncNested
import Derived.Shelf.Abstract
import Derived.Shelf.RegionOpen
import Derived.TacticsInMore
import Derived.Laws.Cover4
import Derived.Outline
import Derived.OrdersIn
import Derived.Maps.OwnIn
import Derived.Laws.EntriesVeiled
import Derived.OpenShut
import Derived.ChangeMaps5
import Derived.Deep.DeepHandedRow
import Derived.LaidSub
import Derived.Lib.LaidTab
import Derived.Test.YthngjkaphfkmmaaDoorCards
import Derived.Test.YthngjkaphfkmmaaDoorTie
/-! LnP -/
namespace Go.Proofs.YthngjkaphfkmmaaDoor
open Go.RowKit Go.Proofs.YthngjkaphfkmmaaDoorW.PrintWords Go.Proofs.YthngjkaphfkmmaaDoor.X Go.IntWalk
set_option linter.unusedVariables false
set_option linter.unusedSimpArgs false
theorem rdm {L : List (List UInt8)} {i : Nat} (h : i < L.length) : rdOf ByteArray.empty (L.map BA) (i : Int) = BA L[i] := by
  simp [rdOf, h]
theorem take_next {L : List (List UInt8)} {i : Nat} (hi : i < L.length) : L.take (i + 1) = L.take i ++ [L[i]] := by
  rw [List.take_add_one, List.getElem?_eq_getElem hi]
  rfl
theorem head_at (L : List (List UInt8)) (h : 0 < L.length) : L.headD [] = L[0] := by
  cases L with
  | nil => exact absurd h (Nat.lt_irrefl 0)
  | cons a b => rfl
theorem wsucc (i : Nat) (h : i < 9223372036854775807) : wrap64 ((i : Int) + 1) = ((i + 1 : Nat) : Int) := by rw [wrap64_in _ (by omega)]; omega
theorem wpred (i : Nat) (h : i < 9223372036854775807) : wrap64 (((i + 1 : Nat) : Int) - 1) = (i : Int) := by rw [wrap64_in _ (by omega)]; omega
theorem snoc_drop (l : List UInt8) (c : UInt8) : (l ++ [c]).drop l.length = [c] := by simp
theorem suffix_cr (s : List UInt8) (hs : s.length < 9223372036854775807) : strings_TrimSuffix.f (BA s) (⟨#[13]⟩ : ByteArray) = some (BA (crL s)) := by
  unfold strings_TrimSuffix.f stringslite_TrimSuffix.f stringslite_HasSuffix.f
  rcases List.eq_nil_or_concat s with rfl | ⟨l, c, rfl⟩
  · rfl
  · rw [List.concat_eq_append]
    have e1 : ((BA (l ++ [c])).size : Int) = ((l.length + 1 : Nat) : Int) := by rw [ba_size]; simp
    have e2 : (((⟨#[13]⟩ : ByteArray).size : Nat) : Int) = 1 := rfl
    have hl : l.length < 9223372036854775807 := by simp at hs; omega
    rw [e1, e2, wpred _ hl, if_pos (by omega), if_pos (by omega), if_pos (by omega)]
    have e3 : (BA (l ++ [c])).extract (l.length : Int).toNat (BA (l ++ [c])).size = BA [c] := by
      rw [extract_tail, ba_list, Int.toNat_natCast, snoc_drop]
    have e4 : (BA (l ++ [c])).extract 0 (l.length : Int).toNat = BA l := by
      rw [extract_head, ba_list, Int.toNat_natCast, List.take_left']
      rfl
    rw [e3, e4, Option.bind_some]
    have e5 : ((BA [c]).toList == (⟨#[13]⟩ : ByteArray).toList) = (c == 13) := by rw [toList_data, toList_data]; simp [BA]
    rw [e5]
    have e6 : crL (l ++ [c]) = if c = 13 then l else l ++ [c] := by unfold crL; simp
    rw [e6]
    by_cases hc : c = 13
    · rw [if_pos hc, if_pos (by simpa using hc), if_pos (by omega), if_pos (by omega)]
      rfl
    · rw [if_neg hc, if_neg (by simpa using hc)]
      rfl
theorem trim_f (p : List UInt8) (hp : p.length ≤ 9223372036854775807) : strings_Trim.f (BA p) (⟨#[32, 9]⟩ : ByteArray) = some (BA (bareL p)) := by
  unfold strings_Trim.f
  rw [if_pos ⟨by rw [ba_size]; exact hp, by decide, by decide⟩]
  rw [show (⟨#[32, 9]⟩ : ByteArray).data.toList = [32, 9] from rfl, ba_list, trim_blank]
  rfl
theorem cut_hash (s : List UInt8) (hs : s.length ≤ 9223372036854775807) : strings_Cut.f (BA s) (⟨#[35]⟩ : ByteArray) = some (BA (dataL s), BA (noteL s), s.contains 35) := by
  unfold strings_Cut.f
  rw [if_pos (Or.inr ⟨rfl, by rw [ba_size]; exact hs⟩)]
  rw [show (⟨#[35]⟩ : ByteArray).data.toList = [35] from rfl, ba_list, cut_35]
  rfl
theorem split_semi (s : List UInt8) (hs : s.length < 4294967281) : strings_Split.f (BA s) (⟨#[59]⟩ : ByteArray) = some ((splitC 59 s).map BA) := by
  unfold strings_Split.f
  rw [if_pos ⟨by rw [ba_size]; exact hs, by decide⟩]
  rw [show (⟨#[59]⟩ : ByteArray) = BA [59] from rfl, splitB_one, ba_list]
def someF (L : List (List UInt8)) : Bool := decide (1 < L.length) || (L.headD [] != [])
theorem some_end (num : Int) (L : List (List UInt8)) (note : ByteArray) (hne : L ≠ []) :
    (if ((L.map BA).length : Int) > 1 then (some (num, L.map BA, note, true)) else (if 0 < ((L.map BA).length : Int) then (some (num, L.map BA, note, ((rdOf ByteArray.empty (L.map BA) 0).toList != ([] : List UInt8)))) else (none))) = some (num, L.map BA, note, someF L) := by
  unfold someF
  rw [List.length_map]
  have hl : 0 < L.length := List.length_pos_iff.2 hne
  by_cases h : 1 < L.length
  · rw [if_pos (by omega), decide_eq_true h, Bool.true_or]
  · rw [if_neg (by omega), if_pos (by omega), decide_eq_false h, Bool.false_or]
    have := rdm (L := L) (i := 0) hl
    rw [show ((0 : Nat) : Int) = 0 from rfl] at this
    rw [this, toList_data, ba_list]
    cases L with
    | nil => exact absurd rfl hne
    | cons p L => rfl
theorem cut_loop (L : List (List UInt8)) (num : Int) (note : ByteArray) (hL : L.length ≤ 1048577) (hne : L ≠ []) (hp : ∀ p ∈ L, p.length ≤ 9223372036854775807) : ∀ (m i : Nat), i + m = L.length →
    Ev (fun k => line_cut.l0 k (L.map BA) (((L.map BA).length : Nat) : Int) (i : Int) num (((L.take i).map bareL).map BA) note) (num, (L.map bareL).map BA, note, someF (L.map bareL))
  | 0, i, hm => by
    refine Ev.step (f := fun k => some _) (fun k => ?_) (Ev.now _)
    simp only [line_cut.l0]
    rw [if_neg (by rw [List.length_map]; omega), List.take_of_length_le (by omega)]
    exact some_end num (L.map bareL) note (by simpa using hne)
  | m + 1, i, hm => by
    have hi : i < L.length := by omega
    have ih := cut_loop L num note hL hne hp m (i + 1) (by omega)
    refine Ev.step (f := fun k => line_cut.l0 k (L.map BA) (((L.map BA).length : Nat) : Int) ((i + 1 : Nat) : Int) num (((L.take (i + 1)).map bareL).map BA) note) (fun k => ?_) ih
    simp only [line_cut.l0]
    rw [if_pos (by rw [List.length_map]; omega), if_pos (by omega), if_pos (by rw [List.length_map]; omega), rdm hi, trim_f _ (hp _ (List.getElem_mem hi)), Option.bind_some, wsucc i (by omega)]
    rw [if_pos (by simp; omega)]
    rw [take_next hi, List.map_append, List.map_append]
    rfl
theorem crL_len (s : List UInt8) : (crL s).length ≤ s.length := by unfold crL; split <;> simp
theorem dataL_len (s : List UInt8) : (dataL s).length ≤ s.length := (List.takeWhile_sublist _).length_le
theorem noteL_len (s : List UInt8) : (noteL s).length ≤ s.length := by
  unfold noteL
  have := (List.dropWhile_sublist (l := s) (· != 35)).length_le
  simp
  omega
theorem lnV_some (n : Int) (s : List UInt8) : (lnV n s).some = someF (lnV n s).fields := rfl
theorem line_cut_ev (s : List UInt8) (n : Int) (hs : s.length ≤ 1048576) : Ev (fun k => line_cut.f k (BA s) n) (n, (lnV n s).fields.map BA, BA (lnV n s).note, (lnV n s).some) := by
  have h1 := crL_len s
  have h2 := dataL_len (crL s)
  have h3 := noteL_len (crL s)
  have h4 := splitC_len 59 (dataL (crL s))
  have hl := cut_loop (splitC 59 (dataL (crL s))) n (BA (bareL (noteL (crL s)))) (by omega) (splitC_ne _ _) (fun p hp => by have := splitC_part 59 _ p hp; omega) (splitC 59 (dataL (crL s))).length 0 (by omega)
  refine Ev.congr (fun k => ?_) hl
  unfold line_cut.f
  rw [suffix_cr s (by omega), Option.bind_some, cut_hash _ (by omega), Option.bind_some]
  dsimp only
  rw [trim_f _ (by omega), Option.bind_some, split_semi _ (by omega), Option.bind_some]
  rfl
theorem byte_blank (b : UInt8) : (blankB b = true) ↔ ((b.toNat : Int) = 32 ∨ (b.toNat : Int) = 9) := by
  unfold blankB
  rw [Bool.or_eq_true, beq_iff_eq, beq_iff_eq]
  exact or_congr (byte_eq b 32).symm (byte_eq b 9).symm
theorem bare_back : ∀ (m : Nat) (l : List UInt8), l.length ≤ m → l.length < 9223372036854775807 → Ev (fun k => posternref09_bare.l1 k (BA l)) (BA ((l.reverse.dropWhile blankB).reverse))
  | m, l, hm, h63 => by
    rcases List.eq_nil_or_concat l with rfl | ⟨r, c, rfl⟩
    · refine Ev.step (f := fun k => some (BA [])) (fun k => ?_) (Ev.now _)
      simp only [posternref09_bare.l1]
      rfl
    · rw [List.concat_eq_append] at *
      have hl : r.length < 9223372036854775807 := by simp at h63; omega
      have e1 : ((BA (r ++ [c])).size : Int) = ((r.length + 1 : Nat) : Int) := by rw [ba_size]; simp
      have hb : bt (BA (r ++ [c])) (r.length : Int) = (c.toNat : Int) := by
        rw [bt_get _ r.length (by rw [ba_list]; simp)]
        simp [ba_list]
      have e4 : (BA (r ++ [c])).extract 0 (r.length : Int).toNat = BA r := by
        rw [extract_head, ba_list, Int.toNat_natCast, List.take_left']
        rfl
      rw [List.reverse_append]
      by_cases hc : blankB c = true
      · obtain ⟨m', rfl⟩ : ∃ m', m = m' + 1 := ⟨m - 1, by simp at hm; omega⟩
        have ih := bare_back m' r (by simp at hm; omega) hl
        have e : ([c].reverse ++ r.reverse).dropWhile blankB = r.reverse.dropWhile blankB := by simp [List.dropWhile_cons, hc]
        rw [e]
        refine Ev.step (f := fun k => posternref09_bare.l1 k (BA r)) (fun k => ?_) ih
        simp only [posternref09_bare.l1]
        rw [e1, wpred _ hl, if_pos (by omega), if_pos (by omega), if_pos (by omega), hb, e4]
        rcases (byte_blank c).1 hc with h | h
        · rw [if_pos h, if_pos (by omega)]
        · rw [if_neg (by omega), if_pos h, if_pos (by omega)]
      · have e : ([c].reverse ++ r.reverse).dropWhile blankB = c :: r.reverse := by simp [List.dropWhile_cons, hc]
        rw [e, List.reverse_cons, List.reverse_reverse]
        refine Ev.step (f := fun k => some (BA (r ++ [c]))) (fun k => ?_) (Ev.now _)
        have hn := mt (byte_blank c).2 hc
        simp only [posternref09_bare.l1]
        rw [e1, wpred _ hl, if_pos (by omega), if_pos (by omega), if_pos (by omega), hb, if_neg (fun h => hn (.inl h)), if_neg (fun h => hn (.inr h))]
theorem bare_front : ∀ (l : List UInt8), l.length < 9223372036854775807 → Ev (fun k => posternref09_bare.l0 k (BA l)) (BA (((l.dropWhile blankB).reverse.dropWhile blankB).reverse))
  | [], h63 => by
    refine Ev.step (f := fun k => posternref09_bare.j1 k (BA [])) (fun k => ?_) (Ev.step (f := fun k => posternref09_bare.l1 k (BA [])) (fun k => ?_) (bare_back 0 [] (Nat.le_refl _) h63))
    · simp only [posternref09_bare.l0]
      rfl
    · simp only [posternref09_bare.j1]
  | c :: l, h63 => by
    have hl : l.length < 9223372036854775807 := by simp at h63; omega
    have e1 : ((BA (c :: l)).size : Int) = ((l.length + 1 : Nat) : Int) := by rw [ba_size]; simp
    have hb : bt (BA (c :: l)) 0 = (c.toNat : Int) := by
      have := bt_get (BA (c :: l)) 0 (by rw [ba_list]; simp)
      simpa [ba_list] using this
    have e4 : (BA (c :: l)).extract 1 (BA (c :: l)).size = BA l := by rw [extract_tail, ba_list]; rfl
    by_cases hc : blankB c = true
    · have ih := bare_front l hl
      rw [show (c :: l).dropWhile blankB = l.dropWhile blankB from by simp [List.dropWhile_cons, hc]]
      refine Ev.step (f := fun k => posternref09_bare.l0 k (BA l)) (fun k => ?_) ih
      simp only [posternref09_bare.l0]
      rw [e1, if_pos (by omega), if_pos (by omega), hb, e4]
      rcases (byte_blank c).1 hc with h | h
      · rw [if_pos h, if_pos (by omega)]
      · rw [if_neg (by omega), if_pos h, if_pos (by omega)]
    · rw [show (c :: l).dropWhile blankB = c :: l from by simp [List.dropWhile_cons, hc]]
      have hn := mt (byte_blank c).2 hc
      refine Ev.step (f := fun k => posternref09_bare.j1 k (BA (c :: l))) (fun k => ?_) (Ev.step (f := fun k => posternref09_bare.l1 k (BA (c :: l))) (fun k => ?_) (bare_back _ (c :: l) (Nat.le_refl _) h63))
      · simp only [posternref09_bare.l0]
        rw [e1, if_pos (by omega), if_pos (by omega), hb, if_neg (fun h => hn (.inl h)), if_neg (fun h => hn (.inr h))]
      · simp only [posternref09_bare.j1]
theorem bare_ev (l : List UInt8) (h : l.length < 9223372036854775807) : Ev (fun k => posternref09_bare.f k (BA l)) (BA (bareL l)) := by
  have := bare_front l h
  rw [← bareL_front] at this
  exact Ev.congr (fun k => rfl) this
theorem one_loop (L : List (List UInt8)) (num : Int) (note : ByteArray) (hL : L.length ≤ 1048577) (hp : ∀ p ∈ L, p.length < 9223372036854775807) : ∀ (m i : Nat), i + m = L.length →
    Ev (fun k => posternref09_one.l1 k (L.map BA) (i : Int) num (((L.take i).map bareL).map BA) note) (num, (L.map bareL).map BA, note)
  | 0, i, hm => by
    refine Ev.step (f := fun k => some _) (fun k => ?_) (Ev.now _)
    simp only [posternref09_one.l1]
    rw [if_neg (by rw [List.length_map]; omega), List.take_of_length_le (by omega)]
  | m + 1, i, hm => by
    have hi : i < L.length := by omega
    have ih := one_loop L num note hL hp m (i + 1) (by omega)
    refine Ev.step (f := fun k => (posternref09_bare.f k (BA L[i])).bind fun t => posternref09_one.l1 k (L.map BA) ((i + 1 : Nat) : Int) num (((L.take i).map bareL).map BA ++ [t]) note) (fun k => ?_) ?_
    · simp only [posternref09_one.l1]
      rw [if_pos (by rw [List.length_map]; omega), if_pos (by omega), rdm hi, wsucc i (by omega)]
      have hfew : (((L.take i).map bareL).map BA).length < 8796093022208 := by simp; omega
      simp only [if_pos hfew]
    · refine Ev.bind (bare_ev _ (hp _ (List.getElem_mem hi))) ?_
      have e : ((L.take i).map bareL).map BA ++ [BA (bareL L[i])] = ((L.take (i + 1)).map bareL).map BA := by
        rw [take_next hi, List.map_append, List.map_append]
        rfl
      rw [e]
      exact ih
theorem hash_at (s : List UInt8) (num : Int) (hs : s.length ≤ 1048576) : ∀ (m i : Nat), i + m = s.length → (∀ j, j < i → s[j]? ≠ some 35) →
    Ev (fun k => posternref09_one.l0 k (BA s) (i : Int) num (⟨#[]⟩ : ByteArray)) (num, ((splitC 59 (dataL s)).map bareL).map BA, BA (bareL (noteL s)))
  | m, i, hm, hj => by
    have hz : ((BA s).size : Int) = (s.length : Int) := by rw [ba_size]
    -- the place is found
    have found : ∀ (f : Nat → Option (Int × List ByteArray × ByteArray)), (∀ k, f (k + 1) = posternref09_one.j3 k (BA s) (i : Int) num (⟨#[]⟩ : ByteArray)) → (i = s.length ∨ s[i]? = some 35) → Ev f (num, ((splitC 59 (dataL s)).map bareL).map BA, BA (bareL (noteL s))) := by
      intro f hf hi
      have hd : dataL s = s.take i := by
        unfold dataL
        rw [show s.takeWhile (· != 35) = s.take i from ?_]
        clear hf hm hz hs
        induction s generalizing i with
        | nil => simp
        | cons b s ih =>
          cases i with
          | zero =>
            rcases hi with hi | hi
            · simp at hi
            · have hb : b = 35 := by simpa using hi
              subst hb
              simp
          | succ i =>
            have hb : b ≠ 35 := fun e => hj 0 (by omega) (by simp [e])
            have := ih i (fun j hj' => by have := hj (j + 1) (by omega); simpa using this) (by simpa using hi)
            simp [hb, this]
      have hn : noteL s = s.drop (i + 1) := by
        unfold noteL
        have : s.dropWhile (· != 35) = s.drop i := by
          have e := List.takeWhile_append_dropWhile (p := (· != 35)) (l := s)
          rw [show s.takeWhile (· != 35) = s.take i from hd] at e
          conv at e => rhs; rw [← List.take_append_drop i s]
          exact List.append_cancel_left e
        rw [this, List.drop_drop]
      have hsl := splitC_len 59 (dataL s)
      have hdl := dataL_len s
      have j4 : Ev (fun k => posternref09_one.j4 k (BA s) (i : Int) num (BA (bareL (noteL s)))) (num, ((splitC 59 (dataL s)).map bareL).map BA, BA (bareL (noteL s))) := by
        refine Ev.step (f := fun k => (posternref09_cut.f k (BA (dataL s)) 59).bind fun t => posternref09_one.l1 k t 0 num [] (BA (bareL (noteL s)))) (fun k => ?_) ?_
        · simp only [posternref09_one.j4]
          have e4 : (BA s).extract 0 (i : Int).toNat = BA (dataL s) := by rw [extract_head, ba_list, Int.toNat_natCast, hd]
          rw [if_pos (by omega), if_pos (by omega), e4]
        · refine Ev.bind (ref_cut (BA (dataL s)) 59 (by rw [ba_size]; omega)) ?_
          rw [ba_list]
          exact one_loop (splitC 59 (dataL s)) num _ (by omega) (fun p hp => by have := splitC_part 59 _ p hp; omega) _ 0 (Nat.zero_add _)
      rcases Nat.lt_or_ge i s.length with hlt | hge
      · refine Ev.step hf (Ev.step (f := fun k => (posternref09_bare.f k (BA (noteL s))).bind fun t => posternref09_one.j4 k (BA s) (i : Int) num t) (fun k => ?_) ?_)
        · simp only [posternref09_one.j3]
          have e4 : (BA s).extract ((i + 1 : Nat) : Int).toNat (BA s).size = BA (noteL s) := by rw [extract_tail, ba_list, Int.toNat_natCast, hn]
          rw [if_pos (by omega), wsucc i (by omega), if_pos (by omega), if_pos (by omega), e4]
        · refine Ev.bind (bare_ev _ (by have := noteL_len s; omega)) j4
      · refine Ev.step hf (Ev.step (f := fun k => posternref09_one.j4 k (BA s) (i : Int) num (⟨#[]⟩ : ByteArray)) (fun k => ?_) ?_)
        · simp only [posternref09_one.j3]
          rw [if_neg (by omega)]
        · have e : noteL s = [] := by rw [hn]; exact List.drop_of_length_le (by omega)
          rw [e] at j4 ⊢
          exact j4
    cases m with
    | zero =>
      refine found _ (fun k => ?_) (.inl (by omega))
      simp only [posternref09_one.l0]
      rw [if_neg (by omega)]
    | succ m =>
      have hi : i < s.length := by omega
      have hb := bt_get (BA s) i (by rw [ba_list]; exact hi)
      simp only [ba_list] at hb
      by_cases hc : s[i] = 35
      · refine found _ (fun k => ?_) (.inr (by rw [List.getElem?_eq_getElem hi, hc]))
        simp only [posternref09_one.l0]
        rw [if_pos (by omega), if_pos (by omega), hb, if_pos (show (s[i].toNat : Int) = 35 from (byte_eq _ 35).2 hc)]
      · have ih := hash_at s num hs m (i + 1) (by omega) (fun j hj' => by
          by_cases e : j = i
          · subst e
            rw [List.getElem?_eq_getElem hi]
            intro h
            exact hc (Option.some.inj h)
          · exact hj j (by omega))
        refine Ev.step (f := fun k => posternref09_one.l0 k (BA s) ((i + 1 : Nat) : Int) num (⟨#[]⟩ : ByteArray)) (fun k => ?_) ih
        simp only [posternref09_one.l0]
        rw [if_pos (by omega), if_pos (by omega), hb, if_neg (show ¬ (s[i].toNat : Int) = 35 from mt (byte_eq _ 35).1 hc), wsucc i (by omega)]
theorem one_ev (s : List UInt8) (n : Int) (hs : s.length ≤ 1048576) : Ev (fun k => posternref09_one.f k (BA s) n) (n, (lnV n s).fields.map BA, BA (lnV n s).note) := by
  have j1 : Ev (fun k => posternref09_one.j1 k (BA (crL s)) n) (n, (lnV n s).fields.map BA, BA (lnV n s).note) := by
    refine Ev.step (f := fun k => posternref09_one.l0 k (BA (crL s)) ((0 : Nat) : Int) n (⟨#[]⟩ : ByteArray)) (fun k => by simp only [posternref09_one.j1]; rfl) ?_
    exact hash_at (crL s) n (by have := crL_len s; omega) (crL s).length 0 (Nat.zero_add _) (fun j h => absurd h (Nat.not_lt_zero _))
  rcases List.eq_nil_or_concat s with h0 | ⟨l, c, h0⟩
  · subst h0
    refine Ev.congr (f := fun k => posternref09_one.j0 k (BA []) n false) (fun k => rfl) (Ev.step (f := fun k => posternref09_one.j1 k (BA []) n) (fun k => ?_) j1)
    simp only [posternref09_one.j0, Bool.false_eq_true, if_false]
  · rw [List.concat_eq_append] at h0
    have e1 : ((BA s).size : Int) = ((l.length + 1 : Nat) : Int) := by rw [ba_size, h0]; simp
    have hl : l.length < 9223372036854775807 := by rw [h0] at hs; simp at hs; omega
    have hb : bt (BA s) (l.length : Int) = (c.toNat : Int) := by
      rw [bt_get _ l.length (by rw [ba_list, h0]; simp)]
      simp [ba_list, h0]
    refine Ev.congr (f := fun k => posternref09_one.j0 k (BA s) n ((c.toNat : Int) == 13)) (fun k => ?_) (Ev.step (f := fun k => posternref09_one.j1 k (BA (crL s)) n) (fun k => ?_) j1)
    · unfold posternref09_one.f
      rw [e1, wpred _ hl, if_pos (by omega), if_pos (by omega), if_pos (by omega), hb]
    · simp only [posternref09_one.j0]
      have e4 : (BA s).extract 0 (l.length : Int).toNat = BA l := by
        rw [extract_head, ba_list, Int.toNat_natCast, h0, List.take_left']
        rfl
      have e6 : crL s = if c = 13 then l else s := by rw [h0]; unfold crL; simp
      rw [e6]
      by_cases hc : c = 13
      · rw [if_pos hc, if_pos (by rw [hc]; rfl), e1, wpred _ hl, if_pos (by omega), if_pos (by omega), e4]
      · have hne : ((c.toNat : Int) == 13) = false := by
          rw [beq_eq_false_iff_ne]
          exact fun e => hc ((byte_eq c 13).1 e)
        rw [if_neg hc, hne]
        simp
def LnV.s (x : LnV) : S58 := ⟨x.num, x.fields.map BA, BA x.note⟩
def LnV.d (x : LnV) : S60 := ⟨x.num, x.fields.map BA, BA x.note⟩
theorem linesFrom_len : ∀ (ps : List (List UInt8)) (n : Int), (linesFrom n ps).length ≤ ps.length
  | [], _ => Nat.le_refl _
  | p :: ps, n => by
    rw [linesFrom, List.length_append, List.length_cons]
    have := linesFrom_len ps (n + 1)
    split <;> simp <;> omega
theorem lines_loop (L : List (List UInt8)) (hL : L.length ≤ 1048577) (hp : ∀ p ∈ L, p.length ≤ 1048576) : ∀ (m i : Nat), i + m = L.length →
    Ev (fun k => posternref09_Lines.l0 k (L.map BA) ((linesFrom 1 (L.take i)).map LnV.d) (i : Int)) ((linesFrom 1 L).map LnV.d, (L.length : Int))
  | 0, i, hm => by
    refine Ev.step (f := fun k => some _) (fun k => ?_) (Ev.now _)
    simp only [posternref09_Lines.l0]
    rw [if_neg (by rw [List.length_map]; omega), List.take_of_length_le (by omega), List.length_map]
  | m + 1, i, hm => by
    have hi : i < L.length := by omega
    have ih := lines_loop L hL hp m (i + 1) (by omega)
    have htk : L.take (i + 1) = L.take i ++ [L[i]] := by
      rw [List.take_add_one, List.getElem?_eq_getElem hi]
      rfl
    have hlen : (L.take i).length = i := by simp; omega
    have hnew : linesFrom 1 (L.take (i + 1)) = linesFrom 1 (L.take i) ++ (if (lnV ((i : Int) + 1) L[i]).some = true then [lnV ((i : Int) + 1) L[i]] else []) := by
      rw [htk, linesFrom_append, hlen, Int.add_comm 1]
      simp [linesFrom]
    rw [hnew] at ih
    have hlt := linesFrom_len (L.take i) 1
    rw [hlen] at hlt
    have h1 := one_ev L[i] ((i : Int) + 1) (hp _ (List.getElem_mem hi))
    refine Ev.step (fun k => ?_) (Ev.bind (f := fun k bt208 => (if (bt208.2.1.length : Int) > 1 then (if ((linesFrom 1 (L.take i)).map LnV.d).length < 2932031007402 then (posternref09_Lines.l0 k (L.map BA) ((linesFrom 1 (L.take i)).map LnV.d ++ [(⟨bt208.1, bt208.2.1, bt208.2.2⟩ : S60)]) ((i + 1 : Nat) : Int)) else (none)) else (if 0 < (bt208.2.1.length : Int) then (if (rdOf ByteArray.empty bt208.2.1 0).toList = ([] : List UInt8) then (posternref09_Lines.l0 k (L.map BA) ((linesFrom 1 (L.take i)).map LnV.d) ((i + 1 : Nat) : Int)) else (if ((linesFrom 1 (L.take i)).map LnV.d).length < 2932031007402 then (posternref09_Lines.l0 k (L.map BA) ((linesFrom 1 (L.take i)).map LnV.d ++ [(⟨bt208.1, bt208.2.1, bt208.2.2⟩ : S60)]) ((i + 1 : Nat) : Int)) else (none))) else (none)))) h1 ?_)
    · simp only [posternref09_Lines.l0]
      rw [if_pos (by rw [List.length_map]; omega), if_pos (by omega), rdm hi, wsucc i (by omega)]
      rw [show (((i + 1 : Nat) : Int)) = (i : Int) + 1 from by omega]
    · refine Ev.congr (fun k => ?_) ih
      dsimp only
      have hne : (lnV ((i : Int) + 1) L[i]).fields ≠ [] := by simp [lnV, splitC_ne]
      have hpos : 0 < (lnV ((i : Int) + 1) L[i]).fields.length := List.length_pos_iff.2 hne
      have hfew : ((linesFrom 1 (L.take i)).map LnV.d).length < 2932031007402 := by rw [List.length_map]; omega
      have hd : ((linesFrom 1 (L.take i)) ++ [lnV ((i : Int) + 1) L[i]]).map LnV.d = (linesFrom 1 (L.take i)).map LnV.d ++ [(⟨(i : Int) + 1, (lnV ((i : Int) + 1) L[i]).fields.map BA, BA (lnV ((i : Int) + 1) L[i]).note⟩ : S60)] := by
        rw [List.map_append]
        rfl
      rw [lnV_some]
      have hr := rdm hpos
      rw [show ((0 : Nat) : Int) = 0 from rfl] at hr
      rw [List.length_map, hr, if_pos hfew]
      unfold someF
      by_cases h2 : 1 < (lnV ((i : Int) + 1) L[i]).fields.length
      · rw [if_pos (by omega), decide_eq_true h2, Bool.true_or, if_pos rfl, hd]
      · rw [if_neg (by omega), if_pos (by omega), decide_eq_false h2, Bool.false_or]
        rw [head_at _ hpos, toList_data, ba_list]
        by_cases h3 : (lnV ((i : Int) + 1) L[i]).fields[0] = []
        · rw [if_pos h3, if_neg (by simp [h3]), List.append_nil]
        · rw [if_neg h3, if_pos (by simp [h3]), hd]
theorem refLines_ev (s : List UInt8) (hs : s.length ≤ 1048576) : Ev (fun k => posternref09_Lines.f k (BA s)) ((linesL s).map LnV.d, ((piecesL s).length : Int)) := by
  have hsl := splitC_len 10 s
  have hpt := splitC_part 10 s
  have loop : ∀ L : List (List UInt8), L.length ≤ 1048577 → (∀ p ∈ L, p.length ≤ 1048576) → Ev (fun k => posternref09_Lines.j0 k (L.map BA)) ((linesFrom 1 L).map LnV.d, (L.length : Int)) := by
    intro L h1 h2
    refine Ev.step (f := fun k => posternref09_Lines.l0 k (L.map BA) ((linesFrom 1 (L.take 0)).map LnV.d) ((0 : Nat) : Int)) (fun k => ?_) (lines_loop L h1 h2 L.length 0 (Nat.zero_add _))
    simp only [posternref09_Lines.j0]
    rfl
  unfold posternref09_Lines.f
  refine Ev.bind (ref_cut (BA s) 10 (by rw [ba_size]; omega)) ?_
  rw [ba_list]
  unfold linesL piecesL
  rcases List.eq_nil_or_concat (splitC 10 s) with h0 | ⟨L, p, h0⟩
  · exact absurd h0 (splitC_ne _ _)
  · rw [List.concat_eq_append] at h0
    rw [h0] at hsl hpt ⊢
    have hl : L.length ≤ 1048576 := by simp at hsl; omega
    have e1 : ((((L ++ [p]).map BA).length : Nat) : Int) = ((L.length + 1 : Nat) : Int) := by simp
    have e2 : rdOf ByteArray.empty ((L ++ [p]).map BA) (L.length : Int) = BA p := by
      rw [rdm (i := L.length) (by simp)]
      simp
    have e3 : ((L ++ [p]).map BA).take (L.length : Int).toNat = L.map BA := by
      rw [Int.toNat_natCast, ← List.map_take, List.take_left']
      rfl
    by_cases hp0 : p = []
    · rw [if_pos (by simp [hp0]), List.dropLast_concat]
      refine Ev.congr (f := fun k => posternref09_Lines.j0 k (L.map BA)) (fun k => ?_) (loop L (by omega) (fun q hq => by have := hpt q (by simp [hq]); omega))
      rw [e1, wpred _ (by omega), if_pos (by omega), if_pos (by omega), e2, toList_data, ba_list, if_pos hp0, if_pos (by omega), e3]
    · rw [if_neg (by simp [hp0])]
      refine Ev.congr (f := fun k => posternref09_Lines.j0 k ((L ++ [p]).map BA)) (fun k => ?_) (loop (L ++ [p]) (by simp; omega) (fun q hq => by have := hpt q hq; omega))
      rw [e1, wpred _ (by omega), if_pos (by omega), if_pos (by omega), e2, toList_data, ba_list, if_neg hp0]
theorem same_loop (F : List ByteArray) (a b : Int) (s t : ByteArray) (hF : F.length < 9223372036854775807) : ∀ (m i : Nat), i + m = F.length → Ev (fun k => posternlaw09_same.l0 k (i : Int) a F s b F t) true
  | 0, i, hm => by
    refine Ev.step (f := fun k => some true) (fun k => ?_) (Ev.now _)
    simp only [posternlaw09_same.l0]
    rw [if_neg (by omega)]
  | m + 1, i, hm => by
    refine Ev.step (f := fun k => posternlaw09_same.l0 k ((i + 1 : Nat) : Int) a F s b F t) (fun k => ?_) (same_loop F a b s t hF m (i + 1) (by omega))
    simp only [posternlaw09_same.l0]
    rw [if_pos (by omega), if_pos (by omega), if_pos (by omega), if_pos trivial, wsucc i (by omega)]
theorem same_ev (x : LnV) (hx : x.fields.length < 9223372036854775807) : Ev (fun k => posternlaw09_same.f k x.s.f0 x.s.f1 x.s.f2 x.d.f0 x.d.f1 x.d.f2) true := by
  refine Ev.congr (f := fun k => posternlaw09_same.j0 k false x.num (x.fields.map BA) (BA x.note) x.num (x.fields.map BA) (BA x.note)) (fun k => ?_) (Ev.step (f := fun k => posternlaw09_same.l0 k ((0 : Nat) : Int) x.num (x.fields.map BA) (BA x.note) x.num (x.fields.map BA) (BA x.note)) (fun k => ?_) (same_loop _ _ _ _ _ (by simpa using hx) _ 0 (Nat.zero_add _)))
  · unfold posternlaw09_same.f
    rw [if_pos (by rfl), if_pos (by rfl)]
    congr 1
    simp [LnV.s, LnV.d]
  · simp only [posternlaw09_same.j0]
    rfl
theorem same_lines_loop (L : List LnV) (hL : L.length < 9223372036854775807) (hx : ∀ x ∈ L, x.fields.length < 9223372036854775807) : ∀ (m i : Nat), i + m = L.length → Ev (fun k => posternlaw09_lines.l0 k (L.map LnV.s) (L.map LnV.d) (i : Int)) true
  | 0, i, hm => by
    refine Ev.step (f := fun k => some true) (fun k => ?_) (Ev.now _)
    simp only [posternlaw09_lines.l0]
    rw [if_neg (by rw [List.length_map]; omega)]
  | m + 1, i, hm => by
    have hi : i < L.length := by omega
    have e1 : rd_T58 (L.map LnV.s) (i : Int) = L[i].s := by simp [rd_T58, hi]
    have e2 : rd_T60 (L.map LnV.d) (i : Int) = L[i].d := by simp [rd_T60, hi]
    refine Ev.step (fun k => ?_) (Ev.bind (f := fun k (t236 : Bool) => (if t236 = true then (posternlaw09_lines.l0 k (L.map LnV.s) (L.map LnV.d) ((i + 1 : Nat) : Int)) else (some false))) (same_ev L[i] (hx _ (List.getElem_mem hi))) ?_)
    · simp only [posternlaw09_lines.l0]
      rw [if_pos (by rw [List.length_map]; omega), if_pos (by omega), if_pos (by rw [List.length_map]; omega), e1, e2, wsucc i (by omega)]
    · refine Ev.congr (fun k => ?_) (same_lines_loop L hL hx m (i + 1) (by omega))
      rw [if_pos rfl]
theorem lines_ev (L : List LnV) (hL : L.length < 9223372036854775807) (hx : ∀ x ∈ L, x.fields.length < 9223372036854775807) : Ev (fun k => posternlaw09_lines.f k (L.map LnV.s) (L.map LnV.d)) true := by
  refine Ev.congr (f := fun k => posternlaw09_lines.l0 k (L.map LnV.s) (L.map LnV.d) ((0 : Nat) : Int)) (fun k => ?_) (same_lines_loop L hL hx _ 0 (Nat.zero_add _))
  unfold posternlaw09_lines.f
  rw [if_pos (by simp)]
  rfl
end Go.Proofs.YthngjkaphfkmmaaDoor
/-! LnM -/
namespace Go.Proofs.YthngjkaphfkmmaaDoor
open Go Go.RowKit
set_option linter.unusedVariables false
set_option linter.unusedSimpArgs false
/-- Blocks outside of S are as they were. -/
structure Kp (S : Nat → Prop) (w w' : World) : Prop where
  os : w'.os = w.os
  tape : w'.tape = w.tape
  output : w'.output = w.output
  size : w.heap.size ≤ w'.heap.size
  block : ∀ k, k < w.heap.size → ¬ S k → w'.heap[k]? = w.heap[k]?
theorem Kp.refl (S : Nat → Prop) (w : World) : Kp S w w := ⟨rfl, rfl, rfl, Nat.le_refl _, fun _ _ _ => rfl⟩
theorem Kp.trans {S : Nat → Prop} {a b c : World} (h : Kp S a b) (k : Kp S b c) : Kp S a c :=
  ⟨k.os.trans h.os, k.tape.trans h.tape, k.output.trans h.output, Nat.le_trans h.size k.size, fun i hi hs => (k.block i (Nat.lt_of_lt_of_le hi h.size) hs).trans (h.block i hi hs)⟩
theorem Kp.mono {S T : Nat → Prop} {a b : World} (h : Kp S a b) (hS : ∀ k, k < a.heap.size → S k → T k) : Kp T a b :=
  ⟨h.os, h.tape, h.output, h.size, fun i hi ht => h.block i hi (fun hs => ht (hS i hi hs))⟩
theorem Kp.of_below {S : Nat → Prop} {a b : World} (h : Below a.heap.size a b) : Kp S a b := ⟨h.os, h.tape, h.output, h.size, fun i hi _ => h.block i hi⟩
theorem Kp.cell {S : Nat → Prop} {a b : World} (h : Kp S a b) {p : Addr} (hp : p.block < a.heap.size) (hs : ¬ S p.block) : b.cell? p = a.cell? p := World.cell?_of_block (h.block p.block hp hs)
theorem Kp.alloc (S : Nat → Prop) (w : World) (o : Obj) : Kp S w (w.alloc o) := ⟨rfl, rfl, rfl, by simp, fun k hk _ => by first | exact heap_alloc_old w o k hk | exact heap_alloc_old w o hk⟩
theorem Kp.own {S : Nat → Prop} {a b : World} (h : Kp S a b) {base : Nat} {e : TypeId} {size n : Nat} {v : Value} {xs : List Value} (ho : a.ownsRow base e size v n xs) (hs : ∀ k, v.ownBlock = some k → ¬ S k) : b.ownsRow base e size v n xs := by
  refine ⟨ho.1, ?_⟩
  rcases ho.2 with hn | ⟨g, cap, cur, rfl, hb, hgg, rest⟩
  · exact .inl hn
  · refine .inr ⟨g, cap, cur, rfl, hb, ?_, rest⟩
    rw [h.block g (Array.getElem?_eq_some_iff.1 hgg).1 (hs g rfl)]
    exact hgg
/-- Texts at an address, outside of S. -/
def RdS (W : World) (S : Nat → Prop) (A : Option Addr) (l : List (List UInt8)) : Prop :=
  ∀ i p, l[i]? = some p → ∃ g o, A = some ⟨g, o, none⟩ ∧ g < W.heap.size ∧ ¬ S g ∧ W.cell? ⟨g, o + i, none⟩ = some (.string (BA p))
theorem RdS.keep {W W' : World} {S : Nat → Prop} {A : Option Addr} {l : List (List UInt8)} (h : RdS W S A l) (hk : Kp S W W') : RdS W' S A l := by
  intro i p hi
  obtain ⟨g, o, hA, hg, hs, hc⟩ := h i p hi
  exact ⟨g, o, hA, Nat.lt_of_lt_of_le hg hk.size, hs, (hk.cell (p := ⟨g, o + i, none⟩) hg hs).trans hc⟩
theorem RdS.mono {W : World} {S T : Nat → Prop} {A : Option Addr} {l : List (List UInt8)} (h : RdS W S A l) (hS : ∀ k, k < W.heap.size → T k → S k) : RdS W T A l := by
  intro i p hi
  obtain ⟨g, o, hA, hg, hs, hc⟩ := h i p hi
  exact ⟨g, o, hA, hg, fun ht => hs (hS g hg ht), hc⟩
/-- A line's cells. -/
def lc (x : LnV) (A : Option Addr) (c : Nat) : List Value := [.int .i64 x.num, .slice A x.fields.length c, .string (BA x.note)]
/-- The cells of lines whose fields lie outside of S. -/
def LnC (W : World) (S : Nat → Prop) : List LnV → List Value → Prop
  | [], cs => cs = []
  | x :: L, cs => ∃ A c rest, cs = lc x A c ++ rest ∧ RdS W S A x.fields ∧ LnC W S L rest
theorem LnC.keep {W W' : World} {S : Nat → Prop} (hk : Kp S W W') : ∀ {L : List LnV} {cs : List Value}, LnC W S L cs → LnC W' S L cs
  | [], _, h => h
  | x :: L, cs, ⟨A, c, rest, e, h1, h2⟩ => ⟨A, c, rest, e, h1.keep hk, LnC.keep hk h2⟩
theorem LnC.mono {W : World} {S T : Nat → Prop} (hS : ∀ k, k < W.heap.size → T k → S k) : ∀ {L : List LnV} {cs : List Value}, LnC W S L cs → LnC W T L cs
  | [], _, h => h
  | x :: L, cs, ⟨A, c, rest, e, h1, h2⟩ => ⟨A, c, rest, e, h1.mono hS, LnC.mono hS h2⟩
theorem LnC.append {W : World} {S : Nat → Prop} {M : List LnV} {ds : List Value} (hM : LnC W S M ds) : ∀ {L : List LnV} {cs : List Value}, LnC W S L cs → LnC W S (L ++ M) (cs ++ ds)
  | [], cs, h => by
    have h : cs = [] := h
    subst h
    exact hM
  | x :: L, cs, ⟨A, c, rest, e, h1, h2⟩ => ⟨A, c, rest ++ ds, by rw [e, List.append_assoc], h1, LnC.append hM h2⟩
/-- Lines at an address. -/
def RdL (W : World) (A : Option Addr) (L : List LnV) : Prop := ∀ i x, L[i]? = some x → ∃ g o A' c, A = some ⟨g, o, none⟩ ∧ g < W.heap.size ∧
  (∀ j, j < 3 → W.cell? ⟨g, o + (i * 3 + j), none⟩ = (lc x A' c)[j]?) ∧ RdS W (fun _ => False) A' x.fields
theorem RdL.keep {W W' : World} {A : Option Addr} {L : List LnV} (h : RdL W A L) (hb : Below W.heap.size W W') : RdL W' A L := by
  intro i x hi
  obtain ⟨g, o, A', c, hA, hg, hc, hf⟩ := h i x hi
  exact ⟨g, o, A', c, hA, Nat.lt_of_lt_of_le hg hb.size, fun j hj => (hb.cell (p := ⟨g, o + (i * 3 + j), none⟩) hg).trans (hc j hj), hf.keep (Kp.of_below hb)⟩
end Go.Proofs.YthngjkaphfkmmaaDoor
/-! Ext -/
namespace Go.Proofs.YthngjkaphfkmmaaDoor
open Go.RowKit
set_option linter.unusedVariables false
set_option linter.unusedSimpArgs false
/-- What stands behind a call that let all stand that was there. -/
theorem after {W w1 : World} (hb : Below W.heap.size W w1) : (∀ b o, b < W.heap.size → w1.cell? ⟨b, o, none⟩ = W.cell? ⟨b, o, none⟩) ∧ (∀ b o, b < W.heap.size → w1.frozen? ⟨b, o, none⟩ = W.frozen? ⟨b, o, none⟩) ∧ W.heap.size ≤ w1.heap.size :=
  ⟨fun b o h => hb.cell (p := ⟨b, o, none⟩) h, fun b o h => hb.frozen (p := ⟨b, o, none⟩) h, hb.size⟩
/-- A world in which all that was in w0 is as it was. -/
structure Ext (w0 : World) where
  wd : World
  below : Below w0.heap.size w0 wd
instance (w0 : World) : Nonempty (Ext w0) := ⟨⟨w0, Below.refl _ _⟩⟩
@[go_sem] theorem Ext.cell {w0 : World} (x : Ext w0) {b o : Nat} (h : b < w0.heap.size) : x.wd.cell? ⟨b, o, none⟩ = w0.cell? ⟨b, o, none⟩ := x.below.cell (p := ⟨b, o, none⟩) h
/-- A callee's contract, met in a world that goes on from w. -/
theorem ext_of {P : Program} {f : FuncId} {args : Array Value} {w : World} {x : Ext w} {v : Value} (h : Calls P f args x.wd fun e w' => e = .returned v ∧ Below x.wd.heap.size x.wd w') :
    Calls P f args x.wd fun e w'' => e = .returned v ∧ ∃ y : Ext w, w'' = y.wd :=
  h.mono fun _ w' ⟨he, hb⟩ => ⟨he, ⟨w', x.below.trans (hb.mono x.below.size)⟩, rfl⟩
end Go.Proofs.YthngjkaphfkmmaaDoor
/-! LnFeed -/
namespace Go.Proofs.YthngjkaphfkmmaaDoor
open Go.RowKit Go.Proofs.YthngjkaphfkmmaaDoorW.PrintWords Go.Proofs.YthngjkaphfkmmaaDoor.X
set_option linter.unusedVariables false
set_option linter.unusedSimpArgs false
/-- A reader: what it keeps, how many lines it told. -/
def RdB (W : World) (g : Nat) (s : List UInt8) (n : Nat) : Prop := W.heap[g]? = some (.cells #[.string (BA s), .int .i64 n] 81 (0, 0))
theorem RdB.kp {W W' : World} {S : Nat → Prop} {g n : Nat} {s : List UInt8} (h : RdB W g s n) (hk : Kp S W W') (hs : ¬ S g) : RdB W' g s n := (hk.block g (blk_lt h) hs).trans h
theorem RdB.below {W W' : World} {g n : Nat} {s : List UInt8} (h : RdB W g s n) (hb : Below W.heap.size W W') : RdB W' g s n := blk_below h hb
theorem Kp.set {S : Nat → Prop} {a b : World} (h : Kp S a b) {p : Addr} (hp : S p.block ∨ a.heap.size ≤ p.block) (u : Value) : Kp S a (b.setCell p u) :=
  ⟨h.os, h.tape, h.output, by simpa using h.size, fun k hk hs => (Below.heap_setCell b p u k (fun e => by rcases hp with hp | hp; exact hs (e ▸ hp); omega)).trans (h.block k hk hs)⟩
theorem cut_nl (s : List UInt8) (hs : s.length ≤ 9223372036854775807) : strings_Cut.f (BA s) (⟨#[10]⟩ : ByteArray) = some (BA (s.takeWhile (· != 10)), BA ((s.dropWhile (· != 10)).drop 1), s.contains 10) := by
  unfold strings_Cut.f
  rw [if_pos (Or.inr ⟨rfl, by rw [ba_size]; exact hs⟩)]
  rw [show (⟨#[10]⟩ : ByteArray).data.toList = [10] from rfl, ba_list, cut_byte]
  rfl
theorem info_line : (Tryd.prog.info? 58).map (fun i => (i.zero, i.size, i.bytes)) = some (some (.agg #[(.int .i64 0), (.slice none 0 0), (.string ⟨#[]⟩)]), 3, 48) := by kernel_rfl
def strLen : Value → Nat
  | .string s => s.size
  | _ => 0
/-- A line out of a text: the program's cut. -/
theorem cut_walk (s : List UInt8) (n : Int) (hs : s.length ≤ 1048576) (w : World) (hG : GW w) :
    Calls Tryd.prog 32 #[.string (BA s), .int .i64 n] w fun e w' => ∃ v A c, e = .returned (.tuple #[.agg #[.int .i64 n, v, .string (BA (lnV n s).note)], .bool (lnV n s).some]) ∧ v = .slice A (lnV n s).fields.length c ∧ Kd.R Kd.string 9 w' w.heap.size (fun _ => True) v ((lnV n s).fields.map BA) ∧ Below w.heap.size w w' := by
  obtain ⟨k, hk⟩ := (line_cut_ev s n hs).rounds
  refine (line_cut.calls k _ _ _ _ _ _ w hG hk).mono ?_
  rintro e w' ⟨v, rfl, hr, hb⟩
  obtain ⟨A, c, hv⟩ := Kd.R_slice hr
  exact ⟨v, A, c, rfl, by rw [hv, List.length_map], hr, hb⟩
end Go.Proofs.YthngjkaphfkmmaaDoor
/-! LnSeq -/
namespace Go.Proofs.YthngjkaphfkmmaaDoor
open Go Go.RowKit Go.Proofs.YthngjkaphfkmmaaDoorW.PrintWords Go.Proofs.YthngjkaphfkmmaaDoor.X
set_option linter.unusedVariables false
set_option linter.unusedSimpArgs false
attribute [local go_sem] Oper.semAt_some
/-- A line that is handed over: what it says, where its fields lie. -/
abbrev LnA : Type := LnV × Option Addr × Nat
def LnA.enc (x : LnA) : Array Value := #[.agg #[.int .i64 x.1.num, .slice x.2.1 x.1.fields.length x.2.2, .string (BA x.1.note)]]
def LnA.at (B : Nat) (x : LnA) (W : World) : Prop := Kd.R Kd.string 9 W B (fun _ => True) (.slice x.2.1 x.1.fields.length x.2.2) (x.1.fields.map BA)
theorem while_all {p : UInt8 → Bool} : ∀ {l : List UInt8}, (∀ c ∈ l, p c = true) → l.takeWhile p = l ∧ l.dropWhile p = []
  | [], _ => ⟨rfl, rfl⟩
  | b :: l, h => by
    have hb := h b (by simp)
    obtain ⟨h1, h2⟩ := while_all (l := l) (fun c hc => h c (by simp [hc]))
    simp [hb, h1, h2]
theorem pieces_step {R : List UInt8} (h : R ≠ []) : piecesL R = R.takeWhile (· != 10) :: piecesL ((R.dropWhile (· != 10)).drop 1) := by
  have hw := whole_cut R
  cases hc : R.contains 10 with
  | true =>
    obtain ⟨e1, e2⟩ := hw.2 hc
    rw [pieces_eq, pieces_eq, e1, e2, List.cons_append]
  | false =>
    obtain ⟨e1, e2⟩ := hw.1 hc
    have hn : ∀ c ∈ R, (c != 10) = true := by
      intro c hcm
      have : ¬ (10 ∈ R) := by simpa using hc
      rw [bne_iff_ne]
      rintro rfl
      exact this hcm
    have e3 : R.takeWhile (· != 10) = R := (while_all hn).1
    have e4 : R.dropWhile (· != 10) = [] := (while_all hn).2
    rw [pieces_eq, e1, e2, if_neg h, e3, e4]
    rfl
theorem pieces_nil : piecesL [] = [] := rfl
theorem gw_under {n₀ : Nat} {w W : World} (hG : GW w) (hg : 0 < n₀) (hb : Below n₀ w W) : GW W := by
  obtain ⟨m, hm⟩ := hG.maxLen
  exact ⟨⟨m, (hb.cell (p := ⟨0, 0, none⟩) hg).trans hm⟩⟩
theorem abide_below {β : Type} {B : Nat} {J : β → World → Prop} (h : AbidesFrom B J) {s : β} {X Y : World} (hs : J s X) (hb : Below X.heap.size X Y) : J s Y :=
  h s X Y none hs ⟨hb.os, hb.tape, hb.output, hb.size, fun k hk _ => hb.block k hk⟩ (fun r e => by cases e)
/-- Where the iterator stands: the pieces cut off so far, what is left, what was handed over. -/
def SeqRel (s : List UInt8) (J : List LnA → World → Prop) (n₀ : Nat) (w : World) (rest num : Value) (W : World) : Prop := ∃ (P : List (List UInt8)) (R : List UInt8) (pre : List LnA), rest = .string (BA R) ∧ num = .int .i64 ((P.length + 1 : Nat) : Int) ∧
  piecesL s = P ++ piecesL R ∧ P.length + R.length ≤ s.length ∧ pre.map (·.1) = linesFrom 1 P ∧ J pre W ∧ Below n₀ w W
set_option maxHeartbeats 4000000 in
set_option maxRecDepth 100000 in
theorem lines1_in (n l Bs n₀ : Nat) (s : List UInt8) (hs : s.length ≤ 1048576) (J Jx : List LnA → World → Prop) (W : World) (hn₀ : n₀ ≤ W.heap.size) (hG : GW W) (hg : 0 < n₀)
    (hJ : AbidesFrom W.heap.size J)
    (hY : ∀ pre x W1, J pre W1 → LnA.at n₀ x W1 ∧ (pre ++ [x]).map (·.1) <+: linesL s → pre.length < (linesL s).length → YieldAt Fence.wide (n - 1) Tryd.prog l (LnA.enc x) W1 fun e W' =>
      (e = .returned (.bool true) ∧ J (pre ++ [x]) W' ∧ Below n₀ W1 W') ∨ (e = .returned (.bool false) ∧ Jx (pre ++ [x]) W'))
    (hBs : W.cell? ⟨Bs, 0, none⟩ = some (.string (BA s))) (h0 : J [] W) :
    CallsIn Fence.wide n Tryd.prog 31 #[.func (.yield l) #[] #[], .pointer (some ⟨Bs, 0, none⟩)] W fun e W' => (∃ v, e = .returned v) ∧
      ((∃ ys : List LnA, ys.map (·.1) = linesL s ∧ J ys W') ∨ (∃ pre : List LnA, pre.map (·.1) <+: linesL s ∧ Jx pre W')) := by
  refine callsIn_of_wp Tryd.func31 rfl trivial ?_ rfl
  simp only [Tryd.ntmps31, List.size_toArray, List.length_cons, List.length_nil, Nat.reduceAdd, Nat.reduceSub, Array.replicate_succ, Array.replicate_zero, List.push_toArray, List.append_toArray, List.nil_append, List.cons_append]
  have HY := Lib.hid hY
  have HJ := Lib.hid hJ
  have HG := Lib.hid hG
  have H0 := Lib.hid h0
  clear hY hJ hG h0
  gi_wp2
  gi_loopw [3, 4] (fun rest num wr => SeqRel s J n₀ W rest num wr) (fun rest _ _ => strLen rest)
  case atStart => exact ⟨[], s, [], rfl, rfl, rfl, by simp, rfl, H0.out, Below.refl _ _⟩
  case round =>
    obtain ⟨P, R, pre, rfl, rfl, hp, hlen, hpre, hj, hb⟩ := hrel
    have HP := Lib.hid hp
    have HPRE := Lib.hid hpre
    have HJ1 := Lib.hid hj
    have HB := Lib.hid hb
    clear hp hpre hj hb hBs
    by_cases h0 : R = []
    · subst h0
      have e0 : (BA []).toList = [] := by rw [toList_data]; rfl
      gi_wp2
      go_end0
      exact ⟨⟨_, rfl⟩, .inl ⟨pre, by rw [HPRE.out, linesL, HP.out, pieces_nil, List.append_nil], HJ1.out⟩⟩
    · have hne : ∃ b r, R = b :: r := List.exists_cons_of_ne_nil h0
      have e1 : (BA R).toList.isEmpty = false := by obtain ⟨b, r, rfl⟩ := hne; rw [toList_data, ba_list]; rfl
      have e2 : ((BA R).toList == []) = false := by obtain ⟨b, r, rfl⟩ := hne; rw [toList_data, ba_list]; rfl
      have e3 : ((BA R).toList != []) = true := by obtain ⟨b, r, rfl⟩ := hne; rw [toList_data, ba_list]; rfl
      have hst := pieces_step h0
      have hone : (R.takeWhile (· != 10)).length ≤ R.length := (List.takeWhile_sublist _).length_le
      have hmore : ((R.dropWhile (· != 10)).drop 1).length < R.length := by
        have h1 := (List.dropWhile_sublist (l := R) (· != 10)).length_le
        have h3 := List.length_pos_iff.2 h0
        rw [List.length_drop]
        omega
      have hcut := cut_nl R (by omega)
      generalize R.takeWhile (· != 10) = one at *
      generalize (R.dropWhile (· != 10)).drop 1 = more at *
      have HST := Lib.hid hst
      have HC := Lib.hid hcut
      clear hst hcut h0 hne
      gi_wp2
      refine ⟨trivial, fun h => by simp [Fence.wide] at h, callsIn_wide.2 ((strings_Cut.calls (BA R) (⟨#[10]⟩ : ByteArray) _ _ _ _ (gw_under HG.out hg HB.out) HC.out).mono ?_)⟩
      rintro e w1 ⟨rfl, hd⟩
      have hb1 := hd.below
      have hle1 : n₀ ≤ wr.heap.size := Nat.le_trans hn₀ HB.out.size
      have HB1 := Lib.hid (HB.out.trans (hb1.mono hle1))
      have HJ2 := Lib.hid (abide_below HJ.out HJ1.out hb1)
      clear hd hb1 HJ1 HB HC
      gi_wp2
      refine ⟨trivial, fun h => by simp [Fence.wide] at h, callsIn_wide.2 ((cut_walk one ((P.length + 1 : Nat) : Int) (by omega) _ (gw_under HG.out hg HB1.out)).mono ?_)⟩
      rintro e w2 ⟨v2, A2, c2, rfl, rfl, hr2, hb2⟩
      have hle2 : n₀ ≤ w1.heap.size := Nat.le_trans hn₀ HB1.out.size
      have HB2 := Lib.hid (HB1.out.trans (hb2.mono hle2))
      have HJ3 := Lib.hid (abide_below HJ.out HJ2.out hb2)
      have HR2 := Lib.hid (Kd.R_lower hr2 hle2)
      clear hr2 hb2 HJ2 HB1
      have hnew : linesFrom 1 (P ++ [one]) = linesFrom 1 P ++ (if (lnV ((P.length + 1 : Nat) : Int) one).some = true then [lnV ((P.length + 1 : Nat) : Int) one] else []) := by
        rw [linesFrom_append, show (1 : Int) + (P.length : Int) = ((P.length + 1 : Nat) : Int) from by omega]
        simp [linesFrom]
      have HN := Lib.hid hnew
      have hps : piecesL s = (P ++ [one]) ++ piecesL more := by rw [HP.out, HST.out, List.append_assoc]; rfl
      have HPS := Lib.hid hps
      have hlen2 : (P ++ [one]).length = P.length + 1 := by simp
      have HL2 := Lib.hid hlen2
      clear hnew hps hlen2
      obtain ⟨z, hz⟩ : ∃ z : Int, z = ((P.length + 1 : Nat) : Int) := ⟨_, rfl⟩
      rw [← hz] at HN HR2 ⊢
      have HZ := Lib.hid hz
      clear hz
      cases hsome : (lnV z one).some with
      | false =>
        have HS := Lib.hid hsome
        clear hsome
        gi_wp2
        all_goals refine ⟨fun _ _ => trivial, ?_⟩
        all_goals gi_wp2
        all_goals
          refine ⟨⟨P ++ [one], more, pre, rfl, by rw [HL2.out]; simp, HPS.out, by rw [HL2.out]; omega, by rw [HPRE.out, HN.out, HS.out, if_neg (by decide), List.append_nil], abide_below HJ.out HJ3.out ((Below.refl _ _).alloc (Nat.le_refl _) _), HB2.out.alloc (Nat.le_trans hn₀ HB2.out.size) _⟩, by show more.length < R.length; omega⟩
      | true =>
        have HS := Lib.hid hsome
        clear hsome
        have hn3 := Nat.le_trans hn₀ HB2.out.size
        have hpre2 : (pre ++ [((lnV z one, A2, c2) : LnA)]).map (·.1) = linesFrom 1 (P ++ [one]) := by
          rw [List.map_append, HPRE.out, HN.out, HS.out, if_pos rfl]
          rfl
        have hlin : linesL s = linesFrom 1 (P ++ [one]) ++ linesFrom (1 + ((P ++ [one]).length : Int)) (piecesL more) := by
          rw [linesL, HPS.out, linesFrom_append]
        have hlt : pre.length < (linesL s).length := by
          have h1 := congrArg List.length hpre2
          rw [hlin, List.length_append, ← h1, List.length_map, List.length_append, List.length_singleton]
          omega
        have HPRE2 := Lib.hid hpre2
        have HLIN := Lib.hid hlin
        obtain ⟨fn, tmps, assign, body, hy, hR⟩ := HY.out pre (lnV z one, A2, c2) (w2.alloc (.cells #[.int .i64 z, .slice A2 (lnV z one).fields.length c2, .string (BA (lnV z one).note)] 58)) (abide_below HJ.out HJ3.out ((Below.refl _ _).alloc (Nat.le_refl _) _)) ⟨Kd.R_alloc HR2.out _, by rw [HPRE2.out, HLIN.out]; exact List.prefix_append _ _⟩ hlt
        have HB3 := Lib.hid (HB2.out.alloc hn3 (.cells #[.int .i64 z, .slice A2 (lnV z one).fields.length c2, .string (BA (lnV z one).note)] 58))
        simp only [LnA.enc] at hy
        have hnum : (lnV z one).num = z := rfl
        rw [hnum] at hy
        clear hpre2 hlin hlt hnum
        gi_wp2
        refine ⟨fun h => by simp [Fence.wide] at h, hR.mono ?_⟩
        rintro e W3 (⟨rfl, hJ3, hk3⟩ | ⟨rfl, hJx3⟩)
        · have HJ4 := Lib.hid hJ3
          have HB4 := Lib.hid (HB3.out.trans hk3)
          clear hJ3 hk3 HJ3 HB3 hR hy
          gi_wp2
          refine ⟨⟨P ++ [one], more, _, rfl, by rw [HL2.out]; simp, HPS.out, by rw [HL2.out]; omega, HPRE2.out, HJ4.out, HB4.out⟩, by show more.length < R.length; omega⟩
        · have HJ4 := Lib.hid hJx3
          clear hJx3 HJ3 HB3 hR hy
          gi_wp2
          refine bodyPost_ret (results_none rfl _ _ _) rfl ?_
          exact ⟨⟨_, rfl⟩, .inr ⟨_, by rw [HPRE2.out, HLIN.out]; exact List.prefix_append _ _, HJ4.out⟩⟩
/-- line.Lines tells an iterator of a text's lines. -/
theorem linesSeq (n Bs n₀ : Nat) (s : List UInt8) (hs : s.length ≤ 1048576) (w : World) (hn₀ : n₀ ≤ w.heap.size) (hG : GW w) (hg : 0 < n₀) (hBl : Bs < w.heap.size) (hBs : w.cell? ⟨Bs, 0, none⟩ = some (.string (BA s))) :
    SeqP Fence.wide n Tryd.prog 31 #[.pointer (some ⟨Bs, 0, none⟩)] LnA.enc (fun pre x W => LnA.at n₀ x W ∧ (pre ++ [x]).map (·.1) <+: linesL s) (Below n₀) (fun ys => ys.map (·.1) = linesL s) (fun pre => pre.map (·.1) <+: linesL s) (linesL s).length w := fun l J Jx W hW hJ _ hY h0 =>
  lines1_in n l Bs n₀ s hs J Jx W (Nat.le_trans hn₀ hW.size) (hG.keep hW) hg hJ hY ((hW.cell (p := ⟨Bs, 0, none⟩) hBl).trans hBs) h0
theorem lines_call (s : ByteArray) (w : World) : Calls Tryd.prog 19 #[.string s] w fun e w' => e = .returned (.func (.func 31) #[] #[.pointer (some ⟨w.heap.size, 0, none⟩)]) ∧ w' = w.alloc (.cells #[.string s] 9) := by
  go_enter Tryd.func19, Tryd.ntmps19
  go_wp2_with fail
  go_returns
  exact ⟨rfl, rfl⟩
end Go.Proofs.YthngjkaphfkmmaaDoor
/-! LnFeeds -/
namespace Go.Proofs.YthngjkaphfkmmaaDoor
open Go.RowKit Go.Proofs.YthngjkaphfkmmaaDoorW.PrintWords Go.Proofs.YthngjkaphfkmmaaDoor.X
set_option linter.unusedVariables false
set_option linter.unusedSimpArgs false
/-- Two readers, two rows of lines. -/
structure FS (w W : World) (ga gb : Nat) (x y : Value) (X Y : List LnV) (ka kb : List UInt8) (na nb : Nat) : Prop where
  rx : Kd.R k58 58 W w.heap.size (fun k => True ∧ some k ≠ y.ownBlock) x (X.map LnV.s)
  ry : Kd.R k58 58 W w.heap.size (fun k => True ∧ some k ≠ x.ownBlock) y (Y.map LnV.s)
  ba : RdB W ga ka na
  bb : RdB W gb kb nb
  ne : ga ≠ gb
  la : w.heap.size ≤ ga
  lb : w.heap.size ≤ gb
  below : Below w.heap.size w W
section
variable {w W W' : World} {ga gb : Nat} {x y : Value} {X Y : List LnV} {ka kb : List UInt8} {na nb : Nat}
theorem FS.keep (h : FS w W ga gb x y X Y ka kb na nb) (hb : Below W.heap.size W W') : FS w W' ga gb x y X Y ka kb na nb :=
  ⟨Kd.R_below h.rx hb, Kd.R_below h.ry hb, h.ba.below hb, h.bb.below hb, h.ne, h.la, h.lb, below_step h.below hb⟩
theorem R_kp {ok : Nat → Prop} {B g n : Nat} {s : List UInt8} {v : Value} {xs : List S58} (h : Kd.R k58 58 W B ok v xs) (hg : RdB W g s n) (hk : Kp (· = g) W W') : Kd.R k58 58 W' B ok v xs :=
  Kd.R_mono (Kd.R_step (Kd.R_types h hg (by decide)) (fun k hk' hlt => hk.block k hlt hk'.2)) (fun k hk => hk.1)
theorem Kp.below_of {S : Nat → Prop} {B : Nat} (h : Below B w W) (hB : B ≤ w.heap.size) (hk : Kp S W W') (hS : ∀ k, S k → B ≤ k) : Below B w W' :=
  ⟨hk.os.trans h.os, hk.tape.trans h.tape, hk.output.trans h.output, Nat.le_trans h.size hk.size, fun k hk' =>
    (hk.block k (by have := h.size; omega) (fun hs => by have := hS k hs; omega)).trans (h.block k hk')⟩
/-- x = append(x, ..) of what a reader told. -/
theorem FS.append {P : Program} {ops : Array Oper} {rest : List Oper} {o : Oper} {a : Act} {Q : Exit → Act → World → Prop} (h : FS w W ga gb x y X Y ka kb na nb) {ka' : List UInt8} {na' : Nat} {v : Value} {Z : List LnV}
    (hkp : Kp (· = ga) W W') (hrd : RdB W' ga ka' na') (hv : Kd.R k58 58 W' W.heap.size (fun _ => True) v (Z.map LnV.s)) (hlen : (X.length + Z.length) * 48 ≤ 140737488355328)
    (hgd : Region.wanted o (yielded ops a.tmps) = true) (s u : Operand) (ho : o.op = .call { callee := .builtin .append, args := #[s, u], argTypes := #[47, 47] })
    (ht : P.underlying 47 = some (.slice 58)) (hinfo : (P.info? 58).map (fun i => (i.zero, i.size, i.bytes)) = some (some (.agg #[(.int .i64 0), (.slice none 0 0), (.string ⟨#[]⟩)]), 3, 48))
    (hs : a.eval s = x) (hu : a.eval u = v)
    (K : ∀ v1 w1, FS w w1 ga gb v1 y (X ++ Z) Y ka' kb na' nb → (∀ {B : Nat} {r : Value} {rs : List S60}, Kd.R k60 60 W B (fun _ => True) r rs → Kd.R k60 60 w1 B (fun _ => True) r rs) → wpList P ops Q rest (a.put o.dst v1) w1) : wpList P ops Q (o :: rest) a W' := by
  have hrx := R_kp h.rx h.ba hkp
  have hry := R_kp h.ry h.ba hkp
  have hbb : RdB W' gb kb nb := h.bb.kp hkp h.ne.symm
  have hbel : Below w.heap.size w W' := hkp.below_of h.below (Nat.le_refl _) (fun k hk => by have := h.la; omega)
  obtain ⟨A, c, rfl, hle, hR⟩ := OwnRow.reads (Kd.R_bound hv).2
  have hxl := Kd.R_lt h.rx
  have hyl := Kd.R_lt h.ry
  have hsz := hkp.size
  rw [List.length_map] at hu hle hR
  suffices key : if Region.wanted o (yielded ops a.tmps) = true then Oper.wp P o a W' (wpList P ops Q rest) Q else wpList P ops Q rest (a.put o.dst undef) W' by
    rw [if_pos hgd] at key
    rw [wpList, if_pos hgd]
    exact .inl key
  refine Kd.R_append_rows_step k58 (w0 := w) (Kc := wpList P ops Q rest) w.heap.size hgd s u 47 58 _ 48 ho ht hinfo rfl (by decide) (by omega) x (X.map LnV.s) (Z.map LnV.s) A Z.length c (fun k => True ∧ some k ≠ y.ownBlock) (fun k => (True ∧ some k ≠ y.ownBlock) ∧ some k ≠ x.ownBlock) hs hu hrx hR
    (fun z cs hz => k58.M_mono (fun k hk => ?_) (k58.M_lower h.below.size hz)) (fun k hk => hk) (fun k hk => ⟨trivial, fun e => by have := hyl k e.symm; omega⟩) hbel (Nat.le_trans h.below.size hsz) (by rw [List.length_map]; exact hlen) ?_
  · obtain ⟨⟨_, h1, _⟩, _⟩ := hk
    exact ⟨⟨trivial, fun e => by have := hyl k e.symm; omega⟩, fun e => by have := hxl k e.symm; omega⟩
  · intro v1 w1 hr1 hb1 hg1 hat1
    have hnx : some ga ≠ x.ownBlock := Kd.R_ne hrx hrd (by decide)
    have hnb : some gb ≠ x.ownBlock := Kd.R_ne hrx hbb (by decide)
    refine K v1 w1 ⟨by rw [List.map_append]; exact hr1, Kd.R_after hry hg1 hat1, (hg1.block ga (blk_lt hrd) hnx).trans hrd, (hg1.block gb (blk_lt hbb) hnb).trans hbb, h.ne, h.la, h.lb, hb1⟩ (fun {B r rs} hr => ?_)
    have hr' : Kd.R k60 60 W' B (fun _ => True) r rs := Kd.R_mono (Kd.R_step (Kd.R_types hr h.ba (by decide)) (fun k hk' hlt => hkp.block k hlt hk'.2)) (fun k hk => hk.1)
    exact Kd.R_over' hr' (Kd.R_typed hrx) (by decide) hg1
end
theorem whole_parts (s : List UInt8) : (∀ p ∈ wholeL s, p.length ≤ s.length) ∧ (wholeL s).length ≤ s.length ∧ (keptL s).length ≤ s.length := by
  have h1 := split_parts s
  have h2 := splitC_len 10 s
  have h3 := splitC_part 10 s
  rw [h1] at h2 h3
  simp at h2
  exact ⟨fun p hp => h3 p (List.mem_append_left _ hp), h2, h3 _ (by simp)⟩
theorem lnV_fields (n : Int) (s : List UInt8) : (lnV n s).fields.length ≤ s.length + 1 := by
  have h1 := splitC_len 59 (dataL (crL s))
  have h2 := dataL_len (crL s)
  have h3 := crL_len s
  simp [lnV]
  omega
theorem linesFrom_fields : ∀ (ps : List (List UInt8)) (n : Int) (M : Nat), (∀ p ∈ ps, p.length ≤ M) → ∀ x ∈ linesFrom n ps, x.fields.length ≤ M + 1
  | [], _, _, _, x, hx => by simp [linesFrom] at hx
  | p :: ps, n, M, h, x, hx => by
    rw [linesFrom] at hx
    rcases List.mem_append.1 hx with hx | hx
    · have hl := lnV_fields n p
      have hp := h p (by simp)
      split at hx
      · have : x = lnV n p := by simpa using hx
        rw [this]
        omega
      · cases hx
    · exact linesFrom_fields ps (n + 1) M (fun q hq => h q (by simp [hq])) x hx
theorem linesL_fields (s : List UInt8) (hs : s.length ≤ 1048576) : (∀ x ∈ linesL s, x.fields.length < 9223372036854775807) ∧ (linesL s).length < 9223372036854775807 := by
  obtain ⟨h1, h2, h3⟩ := whole_parts s
  have hp : ∀ p ∈ piecesL s, p.length ≤ s.length := by
    rw [pieces_eq]
    intro p hp
    rcases List.mem_append.1 hp with hp | hp
    · exact h1 p hp
    · split at hp
      · cases hp
      · have : p = keptL s := by simpa using hp
        rw [this]
        exact h3
  constructor
  · intro x hx
    have := linesFrom_fields _ _ _ hp x hx
    omega
  · have h4 := linesFrom_len (piecesL s) 1
    rw [pieces_eq] at h4
    have h5 : (wholeL s ++ if keptL s = [] then [] else [keptL s]).length ≤ s.length + 1 := by
      rw [List.length_append]
      split <;> simp <;> omega
    unfold linesL
    rw [pieces_eq]
    omega
/-- The program's lines are the document's: the rows are told the same. -/
theorem lines_walk (L : List LnV) (A A' : Option Addr) (c c' : Nat) (w : World) (hr : Kd.C k58 w A L.length (L.map LnV.s)) (hc : L.length ≤ c) (hr' : Kd.C k60 w A' L.length (L.map LnV.d)) (hc' : L.length ≤ c')
    (hL : L.length < 9223372036854775807) (hx : ∀ x ∈ L, x.fields.length < 9223372036854775807) :
    Calls Tryd.prog 18 #[.slice A L.length c, .slice A' L.length c'] w fun e w' => e = .returned (.bool true) ∧ Below w.heap.size w w' := by
  obtain ⟨k, hk⟩ := (lines_ev L hL hx).rounds
  have e1 : (L.map LnV.s).length = L.length := by simp
  have e2 : (L.map LnV.d).length = L.length := by simp
  have := posternlaw09_lines.calls k A c (L.map LnV.s) A' c' (L.map LnV.d) true w (by rw [e1]; exact hr) (by rw [e1]; exact hc) (by rw [e2]; exact hr') (by rw [e2]; exact hc') hk
  rw [e1, e2] at this
  exact this
theorem refLines_walk (s : List UInt8) (hs : s.length ≤ 1048576) (w : World) : Calls Tryd.prog 15 #[.string (BA s)] w fun e w' => ∃ A c, e = .returned (.tuple #[.slice A (linesL s).length c, .int .i64 ((piecesL s).length : Int)]) ∧ (linesL s).length ≤ c ∧ Kd.C k60 w' A (linesL s).length ((linesL s).map LnV.d) ∧ Below w.heap.size w w' ∧
    Kd.R k60 60 w' w.heap.size (fun _ => True) (.slice A (linesL s).length c) ((linesL s).map LnV.d) := by
  obtain ⟨k, hk⟩ := (refLines_ev s hs).rounds
  refine (posternref09_Lines.calls k (BA s) _ _ w hk).mono ?_
  rintro e w' ⟨v, rfl, hr, hb⟩
  have hr := Kd.S_R hr
  obtain ⟨A, c, rfl, hle, hC⟩ := Kd.R_reads hr
  rw [List.length_map] at hle hC hr
  exact ⟨A, c, by rw [List.length_map], hle, hC, hb, hr⟩
theorem lines_R {w : World} {A : Option Addr} {B n c : Nat} {ok : Nat → Prop} {L : List LnV} (h : Kd.R k60 60 w B ok (.slice A n c) (L.map LnV.d)) : L.length ≤ c ∧ Kd.C k60 w A L.length (L.map LnV.d) := by
  have hh := Kd.R_reads' h
  rw [List.length_map] at hh
  exact ⟨by omega, hh.2.2⟩
end Go.Proofs.YthngjkaphfkmmaaDoor
/-! InRound -/
namespace Go.Proofs.YthngjkaphfkmmaaDoor
open Go Go.RowKit
set_option linter.unusedVariables false
set_option linter.unusedSimpArgs false
section
variable {P : Program} {ops : Array Oper} {md : Region.Mode} {C : World → Prop} {n l : Nat}
/-- No operation is a defer statement. -/
def noDefer (ops : List Oper) : Bool := ops.all fun o => match o.op with | .defer _ => false | _ => true
theorem noDefer_at {ops : Array Oper} (h : noDefer ops.toList = true) {i : Nat} {o : Oper} (hi : ops[i]? = some o) : ∀ c, o.op ≠ .defer c := by
  intro c hc
  have hm : o ∈ ops.toList := by
    rw [← Array.getElem?_toList] at hi
    exact List.mem_of_getElem? hi
  have := List.all_eq_true.1 h o hm
  rw [hc] at this
  cases this
theorem wpIn_of_quiet_round {o : Oper} {a : Act} {K : Act → Prop} {K' : Act → World → Prop} {Q' : Exit → Act → World → Prop} {w : World} (hnd : ∀ c, o.op ≠ .defer c) (hw : C w) (h : ∀ a w', C w' → K a → K' a w') (hh : o.quiet P a C K) :
    o.wpIn (Fence.wide.inRound l) n P a w K' Q' := by
  obtain ⟨v, h1, h2⟩ := hh
  have h3 := h1 w hw
  unfold Oper.quietAt at h3
  unfold Oper.wpIn
  refine ⟨fun _ _ => trivial, ?_⟩
  rw [Fence.inRound_round, Oper.semAt_some l _ _ hnd]
  generalize (execOp a.eval o).run P w = r at *
  cases r with
  | ok x w' =>
    cases x <;> simp only [Oper.quietUpon] at h3 <;> simp only [Oper.uponIn]
    case value u =>
      obtain ⟨e1, e2⟩ := h3
      rw [e1, e2]
      exact h _ _ hw h2
    case skip =>
      obtain ⟨e1, e2⟩ := h3
      rw [e1, ← e2]
      exact h _ _ hw h2
    case enter f args =>
      obtain ⟨e1, hc⟩ := h3
      rw [e1]
      exact ⟨fun h => by simp [Fence.wide] at h, (CallsIn.inRound l (callsIn_wide.2 hc)).mono fun e w'' ⟨he, hw''⟩ => by subst he; exact h _ _ hw'' h2⟩
  | halt x w' => simp only [Oper.quietUpon] at h3
theorem wpOpIn_of_qOp_round (hnd : noDefer ops.toList = true) {i : Nat} {a : Act} {K : Act → Prop} {K' : Act → World → Prop} {Q' : Exit → Act → World → Prop} {w : World} (hC : C w) (h : ∀ a w', C w' → K a → K' a w')
    (hh : qOp P ops C i K a) : wpOpIn (Fence.wide.inRound l) n P ops Q' i K' a w := by
  unfold qOp at hh
  unfold wpOpIn
  split
  · rename_i ho; simp only [ho] at hh; exact h _ _ hC hh
  · rename_i o ho
    simp only [ho] at hh
    split
    · rename_i hw; simp only [hw, if_true] at hh; exact wpIn_of_quiet_round (noDefer_at hnd ho) hC h hh
    · rename_i hw; simp only [hw] at hh; exact ⟨fun _ _ => trivial, h _ _ hC hh⟩
theorem wpAnyIn_of_quiet_round (hnd : noDefer ops.toList = true) {Q : Act → Prop} {Q' : Exit → Act → World → Prop} (hQ : ∀ a w, C w → Q a → Q' .normal a w) : ∀ (fuel : Nat) (listed : Array Bool) (a : Act) (w : World), C w →
    wpAnyQ P md ops C Q fuel listed a → wpAnyIn (Fence.wide.inRound l) n P md ops Q' fuel listed a w
  | 0, _, _, _, hw, h => ⟨h.1, hQ _ _ hw h.2⟩
  | fuel + 1, _, _, _, hw, h => ⟨fun h0 => hQ _ _ hw (h.1 h0), fun i hi => wpOpIn_of_qOp_round hnd hw (fun a' w' hw' => wpAnyIn_of_quiet_round hnd hQ fuel _ a' w' hw') (h.2 i hi)⟩
theorem wpIn_region_ext_round {id : Nat} {Q : Exit → Act → World → Prop} {a : Act} {w : World} {L : List Oper} (hm : P.follows .mixedOrders = true) (hB : Region.lexB .any L.toArray = true) (hnd : noDefer L = true)
    (h : wpQuiet P L.toArray (fun w' => ∃ x : Ext w, w' = x.wd) (fun a' => ∀ w', (∃ x : Ext w, w' = x.wd) → Q .normal a' w') L a) : (Code.region id L.toArray true).wpIn (Fence.wide.inRound l) n P Q a w := by
  simp only [Region.lexB, Bool.and_eq_true] at hB
  refine wpIn_region_any hm (wpAnyIn_of_quiet_round (C := fun w' => ∃ x : Ext w, w' = x.wd) (Q := fun a' => ∀ w', (∃ x : Ext w, w' = x.wd) → Q .normal a' w') (by simpa using hnd) (fun _ w' hw' h => h w' hw') _ _ _ _ ⟨⟨_, (Below.refl _ w).drew⟩, rfl⟩ ?_)
  have := wpAnyQ_lex (P := P) (C := fun w' => ∃ x : Ext w, w' = x.wd) (md := .any) hB.1 L 0 (Array.replicate L.length false) a (by simp) (by simpa using hB.2) h
  simpa using this
end
end Go.Proofs.YthngjkaphfkmmaaDoor
/-! LnRead -/
namespace Go.Proofs.YthngjkaphfkmmaaDoor
open Go Go.RowKit Go.Proofs.YthngjkaphfkmmaaDoorW.PrintWords Go.Proofs.YthngjkaphfkmmaaDoor.X
set_option linter.unusedVariables false
set_option linter.unusedSimpArgs false
attribute [local go_sem] Oper.semAt_some
/-- What is read of lines. -/
def readV (L : List LnV) : List LnV × Int × Int := match L.find? (fun x => decide (64 < x.fields.length)) with
  | none => (L, 0, 0)
  | some x => ([], x.num, 94)
/-- append, one element, within a fence. -/
theorem R_append_in {P : Program} {F : Fence} {nF : Nat} {ops : Array Oper} {rest : List Oper} {o : Oper} {a : Act} {Q : Exit → Act → World → Prop} {α : Type} (d : Kd α) {w0 W : World} (base : Nat) (hgd : o.guard = none) (s x : Operand) (t e : TypeId) (z : Value) (bytes : Nat)
    (ho : o.op = .call { callee := .builtin .append, args := #[s, x], argTypes := #[t, t] })
    (ht : P.underlying t = some (.slice e)) (hinfo : (P.info? e).map (fun i => (i.zero, i.size, i.bytes)) = some (some z, d.sz, bytes)) (hz : z.cells.size = d.sz) (hs0 : 0 < d.sz) (hb0 : 0 < bytes)
    (v : Value) (xs : List α) (p : α) (cs : List Value) (ok okp : Nat → Prop) (hs : a.eval s = v) (hx : a.eval x = .slice (some ⟨W.heap.size, 0, none⟩) 1 1) (hp : d.M W base okp p cs) (hokp : ∀ k, okp k → ok k ∧ some k ≠ v.ownBlock) (hfresh : ∀ k, W.heap.size ≤ k → ok k)
    (HO : d.R e W base ok v xs) (HB : Below base w0 W) (hbase : base ≤ W.heap.size) (hl : (xs.length + 1) * bytes ≤ 140737488355328)
    (h : ∀ v1 w1, d.R e w1 base ok v1 (xs ++ [p]) → Below base w0 w1 → W.grownBy w1 v.ownBlock → wpListIn F nF P ops Q rest (a.put o.dst v1) w1) :
    wpListIn F nF P ops Q (o :: rest) a (W.alloc (.cells cs.toArray e)) := by
  obtain ⟨h0, inner, hown, hr⟩ := HO
  obtain ⟨i0, hi, hzz⟩ := Option.map_eq_some_iff.1 hinfo
  simp only [Prod.mk.injEq] at hzz
  obtain ⟨hz0, hz1, hz2⟩ := hzz
  have hlen : xs.length + 1 ≤ 140737488355328 := Nat.le_trans (Nat.le_mul_of_pos_right _ hb0) hl
  refine wpListIn_append_own_at _ hgd s x t ho base e i0 z d.sz bytes ht hi hz0 hz1 hz2 hz hs0 v xs.length inner hs (hown.alloc _) ⟨W.heap.size, 0, none⟩ 1 1 cs hx (by rw [d.K_len (d.K_of_M hp)]; simp)
    (by simpa using World.news_of_block (cs := cs.toArray) (t := e) (fr := (0, 0)) (heap_alloc_new W (.cells cs.toArray e))) (d.K_one (d.K_of_M hp)) (by simp only [maxLen]; omega) hl (by simp; omega) ?_
  intro v1 w1 hown1 hg _ hat
  have hg1 := World.grownBy.trans (World.grownBy_alloc W (.cells cs.toArray e) v.ownBlock) hg
  have hat1 : v1.ownBlock = v.ownBlock ∨ ∃ b, v1.ownBlock = some b ∧ W.heap.size ≤ b := by
    rcases hat with hat | hat
    · exact .inl hat
    · exact .inr ⟨_, hat, by simp⟩
  exact h v1 w1 (Kd.R_appended h0 hr hp hokp hfresh hown1 hg1 hat1) ((HB.alloc hbase _).grown hg (by simp; omega) (fun k hk => (hown.lt k hk).1)) hg1
section
variable {X Y : World} {row : Option Nat} {B : Nat}
theorem blk_turn {g : Nat} {cs : Array Value} {t : TypeId} (h : X.heap[g]? = some (.cells cs t (0, 0))) (hg : X.grownBy Y row) (hr : ∀ q, row = some q → B ≤ q ∧ ∃ o : Obj, X.heap[q]? = some o ∧ o.isCells = false) : Y.heap[g]? = some (.cells cs t (0, 0)) := by
  refine (hg.block g (blk_lt h) (fun e => ?_)).trans h
  obtain ⟨_, o, ho, hc⟩ := hr g e.symm
  rw [h] at ho
  obtain rfl := Option.some.inj ho
  cases hc
theorem R_turn {α : Type} {d : Kd α} {e base : Nat} {ok : Nat → Prop} {v : Value} {xs : List α} (h : d.R e X base ok v xs) (hg : X.grownBy Y row) (hr : ∀ q, row = some q → B ≤ q ∧ ∃ o : Obj, X.heap[q]? = some o ∧ o.isCells = false) : d.R e Y base ok v xs := by
  refine Kd.R_mono (Kd.R_move (Kd.R_bound h) (fun k hk => ?_)) (fun k hk => hk.1)
  obtain ⟨_, _, _, q, _, cells, hc⟩ := hk
  rw [blk_turn hc hg hr, hc]
theorem below_turn {n₀ : Nat} {w : World} (h : Below n₀ w X) (hn : n₀ ≤ B) (hw : n₀ ≤ w.heap.size) (hg : X.grownBy Y row) (hr : ∀ q, row = some q → B ≤ q ∧ ∃ o : Obj, X.heap[q]? = some o ∧ o.isCells = false) : Below n₀ w Y :=
  h.grown hg (Nat.le_trans hw h.size) (fun k hk => Nat.le_trans hn (hr k hk).1)
end
end Go.Proofs.YthngjkaphfkmmaaDoor
/-! LnReadW -/
namespace Go.Proofs.YthngjkaphfkmmaaDoor
open Go Go.RowKit Go.Proofs.YthngjkaphfkmmaaDoorW.PrintWords Go.Proofs.YthngjkaphfkmmaaDoor.X
set_option linter.unusedVariables false
set_option linter.unusedSimpArgs false
attribute [local go_sem] Oper.semAt_some
/-- The boxes of Read: its three results, what is gathered. -/
structure ReadB (w W : World) (b : Nat) (v2 v5 : Value) (n3 n4 : Int) : Prop where
  b2 : W.heap[b]? = some (.cells #[v2] 47 (0, 0))
  b3 : W.heap[b + 1]? = some (.cells #[.int .i64 n3] 3 (0, 0))
  b4 : W.heap[b + 2]? = some (.cells #[.int .i64 n4] 22 (0, 0))
  b5 : W.heap[b + 3]? = some (.cells #[v5] 47 (0, 0))
  below : Below b w W
theorem ReadB.turn {w X Y : World} {b B : Nat} {v2 v5 : Value} {n3 n4 : Int} {row : Option Nat} (h : ReadB w X b v2 v5 n3 n4) (hn : b ≤ B) (hw : b ≤ w.heap.size) (hg : X.grownBy Y row) (hr : ∀ q, row = some q → B ≤ q ∧ ∃ o : Obj, X.heap[q]? = some o ∧ o.isCells = false) : ReadB w Y b v2 v5 n3 n4 :=
  ⟨blk_turn h.b2 hg hr, blk_turn h.b3 hg hr, blk_turn h.b4 hg hr, blk_turn h.b5 hg hr, below_turn h.below hn hw hg hr⟩
theorem ReadB.alloc {w X : World} {b : Nat} {v2 v5 : Value} {n3 n4 : Int} (h : ReadB w X b v2 v5 n3 n4) (hw : b ≤ w.heap.size) (o : Obj) : ReadB w (X.alloc o) b v2 v5 n3 n4 :=
  ⟨blk_alloc h.b2 o, blk_alloc h.b3 o, blk_alloc h.b4 o, blk_alloc h.b5 o, h.below.alloc (Nat.le_trans hw h.below.size) o⟩
theorem ReadB.drew {w X : World} {b : Nat} {v2 v5 : Value} {n3 n4 : Int} (h : ReadB w X b v2 v5 n3 n4) : ReadB w X.drew b v2 v5 n3 n4 := ⟨blk_drew h.b2, blk_drew h.b3, blk_drew h.b4, blk_drew h.b5, below_drew1 h.below⟩
theorem ReadB.set2 {w X : World} {b : Nat} {v2 v5 : Value} {n3 n4 : Int} (v : Value) (h : ReadB w X b v2 v5 n3 n4) : ReadB w (X.setCell ⟨b, 0, none⟩ v) b v v5 n3 n4 :=
  ⟨blk_put h.b2 0 _ rfl, blk_far h.b3 (by simp) _, blk_far h.b4 (by simp) _, blk_far h.b5 (by simp) _, h.below.setCell (p := ⟨b, 0, none⟩) (Nat.le_refl _) _⟩
theorem ReadB.set3 {w X : World} {b : Nat} {v2 v5 : Value} {n3 n4 : Int} (n : Int) (h : ReadB w X b v2 v5 n3 n4) : ReadB w (X.setCell ⟨b + 1, 0, none⟩ (.int .i64 n)) b v2 v5 n n4 :=
  ⟨blk_far h.b2 (by simp) _, blk_put h.b3 0 _ rfl, blk_far h.b4 (by simp) _, blk_far h.b5 (by simp) _, h.below.setCell (p := ⟨b + 1, 0, none⟩) (by simp) _⟩
theorem ReadB.set4 {w X : World} {b : Nat} {v2 v5 : Value} {n3 n4 : Int} (n : Int) (h : ReadB w X b v2 v5 n3 n4) : ReadB w (X.setCell ⟨b + 2, 0, none⟩ (.int .i64 n)) b v2 v5 n3 n :=
  ⟨blk_far h.b2 (by simp) _, blk_far h.b3 (by simp) _, blk_put h.b4 0 _ rfl, blk_far h.b5 (by simp) _, h.below.setCell (p := ⟨b + 2, 0, none⟩) (by simp) _⟩
theorem ReadB.set5 {w X : World} {b : Nat} {v2 v5 : Value} {n3 n4 : Int} (v : Value) (h : ReadB w X b v2 v5 n3 n4) : ReadB w (X.setCell ⟨b + 3, 0, none⟩ v) b v2 v n3 n4 :=
  ⟨blk_far h.b2 (by simp) _, blk_far h.b3 (by simp) _, blk_far h.b4 (by simp) _, blk_put h.b5 0 _ rfl, h.below.setCell (p := ⟨b + 3, 0, none⟩) (by simp) _⟩
theorem keeps_row {α : Type} {d : Kd α} {e base B : Nat} {ok : Nat → Prop} {v : Value} {xs : List α} {X Y : World} (h : d.R e X base ok v xs) (hg : X.grownBy Y v.ownBlock) : KeepsFrom B X Y :=
  ⟨hg.size, fun k o hB hk hc => (hg.block k (Array.getElem?_eq_some_iff.1 hk).1 (fun e => by
    obtain ⟨cells, hh⟩ := Kd.R_typed h k e.symm
    rw [hh] at hk
    obtain rfl := Option.some.inj hk
    cases hc)).trans hk⟩
theorem ReadB.grown {w X Y : World} {b : Nat} {v2 v5 : Value} {n3 n4 : Int} {xs : List S58} {ok : Nat → Prop} (h : ReadB w X b v2 v5 n3 n4) (hR : Kd.R k58 58 X b ok v5 xs) (hg : X.grownBy Y v5.ownBlock) (hb : Below b X Y) : ReadB w Y b v2 v5 n3 n4 :=
  ⟨(hg.block _ (blk_lt h.b2) (Kd.R_ne hR h.b2 (by decide))).trans h.b2, (hg.block _ (blk_lt h.b3) (Kd.R_ne hR h.b3 (by decide))).trans h.b3, (hg.block _ (blk_lt h.b4) (Kd.R_ne hR h.b4 (by decide))).trans h.b4, (hg.block _ (blk_lt h.b5) (Kd.R_ne hR h.b5 (by decide))).trans h.b5, h.below.trans hb⟩
/-- Between two rounds: what came is gathered. -/
def ReadI (w : World) (b B : Nat) (pre : List LnA) (W : World) : Prop := B ≤ W.heap.size ∧ ∃ v5, ReadB w W b (.slice none 0 0) v5 0 0 ∧ Kd.R k58 58 W b (fun _ => True) v5 (pre.map fun x => x.1.s) ∧ (∀ x ∈ pre, x.1.fields.length ≤ 64)
/-- A line with too many fields was met. -/
def ReadX (w : World) (b : Nat) (c : Code) (pre : List LnA) (W : World) : Prop := c = .ret ∧ ∃ pre' x v5, pre = pre' ++ [x] ∧ 64 < x.1.fields.length ∧ (∀ y ∈ pre', y.1.fields.length ≤ 64) ∧ ReadB w W b (.slice none 0 0) v5 x.1.num 94
set_option maxHeartbeats 4000000 in
set_option maxRecDepth 100000 in
theorem read_walk (s : List UInt8) (hs : s.length ≤ 1048576) (w : World) (hG : GW w) :
    Calls Tryd.prog 16 #[.string (BA s)] w fun e w' => ∃ v, e = .returned (.tuple #[v, .int .i64 (readV (linesL s)).2.1, .int .i64 (readV (linesL s)).2.2]) ∧ Kd.R k58 58 w' w.heap.size (fun _ => True) v ((readV (linesL s)).1.map LnV.s) ∧ Below w.heap.size w w' := by
  have hgl : 0 < w.heap.size := by obtain ⟨m, hm⟩ := hG.maxLen; exact World.block_lt_of_cell? _ _ hm
  refine (callsIn_wide (n := 9)).1 ?_
  refine callsIn_of_wp_marks Tryd.func16 rfl trivial ?_ rfl
  simp only [Tryd.ntmps16, List.size_toArray, List.length_cons, List.length_nil, Nat.reduceAdd, Nat.reduceSub, Array.replicate_succ, Array.replicate_zero, List.push_toArray, List.append_toArray, List.nil_append, List.cons_append]
  gi_wp2
  refine ⟨trivial, callsIn_wide.2 ((lines_call (BA s) _).mono ?_)⟩
  rintro e w1 ⟨rfl, rfl⟩
  have hb0 : ReadB w ((((w.alloc (.cells #[.slice none 0 0] 47)).alloc (.cells #[.int .i64 0] 3)).alloc (.cells #[.int .i64 0] 22)).alloc (.cells #[.slice none 0 0] 47)) w.heap.size (.slice none 0 0) (.slice none 0 0) 0 0 := by
    have h2 := blk_alloc (blk_alloc (blk_alloc (blk_new w (.cells #[.slice none 0 0] 47)) (.cells #[.int .i64 0] 3)) (.cells #[.int .i64 0] 22)) (.cells #[.slice none 0 0] 47)
    have h3 := blk_alloc (blk_alloc (blk_new (w.alloc (.cells #[.slice none 0 0] 47)) (.cells #[.int .i64 0] 3)) (.cells #[.int .i64 0] 22)) (.cells #[.slice none 0 0] 47)
    have h4 := blk_alloc (blk_new ((w.alloc (.cells #[.slice none 0 0] 47)).alloc (.cells #[.int .i64 0] 3)) (.cells #[.int .i64 0] 22)) (.cells #[.slice none 0 0] 47)
    have h5 := blk_new (((w.alloc (.cells #[.slice none 0 0] 47)).alloc (.cells #[.int .i64 0] 3)).alloc (.cells #[.int .i64 0] 22)) (.cells #[.slice none 0 0] 47)
    simp only [World.size_alloc] at h3 h4 h5
    exact ⟨h2, h3, h4, h5, ((((Below.refl _ w).alloc (Nat.le_refl _) _).alloc (by simp) _).alloc (by simp; omega) _).alloc (by simp; omega) _⟩
  have hsz : ((((w.alloc (.cells #[.slice none 0 0] 47)).alloc (.cells #[.int .i64 0] 3)).alloc (.cells #[.int .i64 0] 22)).alloc (.cells #[.slice none 0 0] 47)).heap.size = w.heap.size + 4 := by simp
  gi_wp2
  rw [show w.heap.size + 1 + 1 + 1 + 1 = w.heap.size + 4 from rfl, show w.heap.size + 1 + 1 + 1 = w.heap.size + 3 from rfl, show w.heap.size + 1 + 1 = w.heap.size + 2 from rfl]
  obtain ⟨W0, hW0⟩ : ∃ W0, (((((w.alloc (.cells #[.slice none 0 0] 47)).alloc (.cells #[.int .i64 0] 3)).alloc (.cells #[.int .i64 0] 22)).alloc (.cells #[.slice none 0 0] 47)).alloc (.cells #[.string (BA s)] 9)) = W0 := ⟨_, rfl⟩
  have hs0 : W0.cell? ⟨w.heap.size + 4, 0, none⟩ = some (.string (BA s)) := by
    have h := blk_cell (blk_new ((((w.alloc (.cells #[.slice none 0 0] 47)).alloc (.cells #[.int .i64 0] 3)).alloc (.cells #[.int .i64 0] 22)).alloc (.cells #[.slice none 0 0] 47)) (.cells #[.string (BA s)] 9)) 0
    rw [hsz, hW0] at h
    exact h
  have hz0 : W0.heap.size = w.heap.size + 5 := by rw [← hW0]; simp
  have hb1 : ReadB w W0 w.heap.size (.slice none 0 0) (.slice none 0 0) 0 0 := by rw [← hW0]; exact hb0.alloc (Nat.le_refl _) _
  rw [hW0]
  clear hb0 hsz hW0
  have hG0 : GW W0 := hG.keep hb1.below
  have HZ0 := Lib.hid hz0
  have hz1 : w.heap.size + 4 < W0.heap.size := by omega
  have hz2 : w.heap.size ≤ W0.heap.size := by omega
  clear hz0
  refine wpIn_range_out (F := Fence.wide) (n := 9) rfl (by decide) (gf := 31) (lb := #[.pointer (some ⟨w.heap.size + 4, 0, none⟩)]) rfl trivial (enters_of Tryd.func31 (by kernel_rfl) rfl)
    (linesSeq 8 (w.heap.size + 4) w.heap.size s hs W0 (by omega) hG0 hgl (by omega) hs0) (Below.refl _ _)
    (ReadI w w.heap.size W0.heap.size) (ReadX w w.heap.size)
    (fun _ x a' W => ∃ Bx, W0.heap.size ≤ Bx ∧ W.heap[Bx]? = some (.cells #[.int .i64 x.1.num, .slice x.2.1 x.1.fields.length x.2.2, .string (BA x.1.note)] 58 (0, 0)) ∧ LnA.at w.heap.size x W ∧
      a' = { tmps := #[.string (BA s), undef, .pointer (some ⟨w.heap.size, 0, none⟩), .pointer (some ⟨w.heap.size + 1, 0, none⟩), .pointer (some ⟨w.heap.size + 2, 0, none⟩), .pointer (some ⟨w.heap.size + 3, 0, none⟩), .pointer (some ⟨Bx, 0, none⟩), .string (BA s), .func (.func 31) #[] #[.pointer (some ⟨w.heap.size + 4, 0, none⟩)], .agg #[.int .i64 x.1.num, .slice x.2.1 x.1.fields.length x.2.2, .string (BA x.1.note)], undef, undef, undef, undef, undef, undef, undef, undef, undef, undef, undef], defers := [] })
    (fun fn hfn => ⟨fun x => rfl, fun h1 h2 => h1.trans h2, ?kb, ?own, ?ownx, ?owna, ?asg, ?bod⟩) ⟨Nat.le_refl _, _, hb1, Kd.R_nil _ _ _ _ _, fun x hx => by cases hx⟩ ?done ?stop
  case kb =>
    intro W k o o' hk ho hoc how
    exact belowK_b (w := W0) (by omega) W k o o' hk ho hoc how
  case own =>
    rintro pre X Y row ⟨hB, v5, h1, h2, h3⟩ hg hr
    exact ⟨Nat.le_trans hB hg.size, v5, h1.turn (by omega) (Nat.le_refl _) hg hr, R_turn h2 hg hr, h3⟩
  case ownx =>
    rintro c pre X Y row ⟨rfl, pre', x, v5, h1, h2, h3, h4⟩ hg hr
    exact ⟨rfl, pre', x, v5, h1, h2, h3, h4.turn (by omega) (Nat.le_refl _) hg hr⟩
  case owna =>
    rintro pre x a' u X Y row ⟨Bx, h1, h2, h3, h4⟩ hg hr
    exact ⟨Bx, h1, blk_turn h2 hg hr, R_turn h3 hg hr, h4⟩
  case asg =>
    intro pre x W K hi hx hK
    simp only [recAt, Rec.frame, LnA.enc]
    obtain ⟨hB, v5, h1, h2, h3⟩ := hi
    gi_wp2
    exact hK _ _ ((KeepsOthers.alloc _ _).from _) ((Below.refl _ _).alloc (by omega) _) ⟨Nat.le_trans hB (by simp), v5, h1.alloc (Nat.le_refl _) _, Kd.R_alloc h2 _, h3⟩ ⟨W.heap.size, hB, blk_new _ _, Kd.R_alloc hx.1 _, rfl⟩
  case bod =>
    simp only [recAt]
    rintro pre x a' W ⟨q, hq⟩ ⟨hB, v5, h1, h2, h3⟩ ⟨Bx, hBx, hbx, hat, rfl⟩ hlen
    obtain ⟨⟨num, fields, note⟩, A, c⟩ := x
    have hx0 := (blk_cell hbx 0).trans (show _ = some (Value.int .i64 num) from rfl)
    have hx1 := (blk_cell hbx 1).trans (show _ = some (Value.slice A fields.length c) from rfl)
    have hx2 := (blk_cell hbx 2).trans (show _ = some (Value.string (BA note)) from rfl)
    have H1 := Lib.hid h1
    have H2 := Lib.hid h2
    have H3 := Lib.hid h3
    have HAT := Lib.hid hat
    have HBX := Lib.hid hbx
    have hk2 := (blk_cell h1.b2 0).trans (show _ = some (Value.slice none 0 0) from rfl)
    have hk3 := (blk_cell h1.b3 0).trans (show _ = some (Value.int .i64 0) from rfl)
    have hk4 := (blk_cell h1.b4 0).trans (show _ = some (Value.int .i64 0) from rfl)
    have hk5 := (blk_cell h1.b5 0).trans (show _ = some v5 from rfl)
    have hf2 := blk_frozen h1.b2 0
    have hf3 := blk_frozen h1.b3 0
    have hf4 := blk_frozen h1.b4 0
    have hf5 := blk_frozen h1.b5 0
    clear h1 h2 h3 hat hbx
    by_cases hfew : 64 < fields.length
    · have hmix : Tryd.prog.follows .mixedOrders = true := by kernel_rfl
      have hne1 : Bx ≠ w.heap.size := by omega
      have hne2 : Bx ≠ w.heap.size + 1 := by omega
      have hne3 : Bx ≠ w.heap.size + 2 := by omega
      gi_wp2
      gi_region_with_o (fail)
      all_goals gi_wp2
      all_goals
        refine ⟨?_, rfl, pre, _, v5, rfl, hfew, H3.out, ?_⟩
        · repeat (first | exact KeepsFrom.refl _ _ | exact (KeepsOthers.drew _).from _ | refine KeepsFrom.trans ?_ ((KeepsOthers.setCell _ _ _).from _) | refine KeepsFrom.trans ?_ ((KeepsOthers.drew _).from _))
        · repeat (first | exact H1.out | refine ReadB.drew ?_ | refine ReadB.set2 (v2 := .slice none 0 0) _ ?_ | refine ReadB.set3 (n3 := 0) _ ?_ | refine ReadB.set4 (n4 := 0) _ ?_)
    · have hle : w.heap.size ≤ W.heap.size := by omega
      have hpl : pre.length ≤ 1048577 := by
        have h1 := linesFrom_len (piecesL s) 1
        have h2 := whole_parts s
        rw [show (linesL s) = linesFrom 1 (piecesL s) from rfl] at hlen
        have h3 : (piecesL s).length ≤ s.length + 1 := by
          rw [pieces_eq, List.length_append]
          split <;> simp <;> omega
        omega
      have hav := Kd.R_apart' HAT.out (Kd.R_typed H2.out) (by decide)
      have HAV := Lib.hid hav
      have hfw := Nat.le_of_not_lt hfew
      clear hav
      gi_wp2_with (gi_at_builtin; refine R_append_in k58 (w0 := W) w.heap.size rfl (.tmp 16) (.tmp 18) 47 58 (.agg #[(.int .i64 0), (.slice none 0 0), (.string ⟨#[]⟩)]) 48 rfl Tryd.underlying47 info_line rfl (by decide) (by omega) v5 (pre.map fun x => x.1.s) (LnV.s ⟨num, fields, note⟩) [.int .i64 num, .slice A fields.length c, .string (BA note)] (fun _ => True) (fun k => True ∧ some k ≠ v5.ownBlock) rfl rfl (k58_mkM _ _ _ (LnV.s ⟨num, fields, note⟩) HAV.out) (fun k hk => hk) (fun k hk => trivial) H2.out ((Below.refl _ _).mono hle) hle (by rw [List.length_map]; omega) ?_; intro v6 w6 ho6 hb6 hg6; have hx5 := (hg6.block _ (blk_lt H1.out.b5) (Kd.R_ne H2.out H1.out.b5 (by decide))).trans H1.out.b5; have hk5 := (blk_cell hx5 0).trans (show _ = some v5 from rfl); have hf5 := blk_frozen hx5 0; obtain ⟨A6, c6, rfl⟩ := Kd.R_slice ho6)
      have h1' := H1.out
      have hlt5 := blk_lt H1.out.b5
      refine ⟨(keeps_row H2.out hg6).trans ((KeepsOthers.setCell _ _ _).from _), hb6.setCell (p := ⟨w.heap.size + 3, 0, none⟩) (by simp) _, Nat.le_trans hB (by simpa using hg6.size), .slice A6 (pre.map (fun x => x.1.s) ++ [LnV.s ⟨num, fields, note⟩]).length c6, ?_, ?_, ?_⟩
      · have := (H1.out.grown H2.out hg6 hb6).set5 (.slice A6 (pre.map (fun x => x.1.s) ++ [LnV.s ⟨num, fields, note⟩]).length c6)
        first
        | exact this
        | simpa using this
      · rw [List.map_append]
        exact Kd.R_set ho6 hx5 (by decide) 0 _
      · intro x hx
        rcases List.mem_append.1 hx with hx | hx
        · exact H3.out x hx
        · have : x = (⟨num, fields, note⟩, A, c) := by simpa using hx
          rw [this]
          exact hfw
  case done =>
    rintro D xs W hD hxs ⟨hB, v5, h1, h2, h3⟩ hK
    have hk2 := (blk_cell h1.b2 0).trans (show _ = some (Value.slice none 0 0) from rfl)
    have hk3 := (blk_cell h1.b3 0).trans (show _ = some (Value.int .i64 0) from rfl)
    have hk4 := (blk_cell h1.b4 0).trans (show _ = some (Value.int .i64 0) from rfl)
    have hk5 := (blk_cell h1.b5 0).trans (show _ = some v5 from rfl)
    have hf2 := blk_frozen h1.b2 0
    have hf3 := blk_frozen h1.b3 0
    have hf4 := blk_frozen h1.b4 0
    obtain ⟨A5, c5, rfl⟩ := Kd.R_slice h2
    have H1 := Lib.hid h1
    have H2 := Lib.hid h2
    clear h1 h2
    gi_wp2
    have H4 := ((H1.out.set2 (.slice A5 xs.length c5)).set3 0).set4 0
    have hR4 := Kd.R_set (Kd.R_set (Kd.R_set H2.out H1.out.b2 (by decide) 0 (.slice A5 xs.length c5)) (H1.out.set2 (.slice A5 xs.length c5)).b3 (by decide) 0 (.int .i64 0)) ((H1.out.set2 (.slice A5 xs.length c5)).set3 0).b4 (by decide) 0 (.int .i64 0)
    have hK4 := ((((KeepsOthers.setCell W ⟨w.heap.size, 0, none⟩ (.slice A5 xs.length c5)).from W0.heap.size).trans ((KeepsOthers.setCell _ ⟨w.heap.size + 1, 0, none⟩ (.int .i64 0)).from W0.heap.size)).trans ((KeepsOthers.setCell _ ⟨w.heap.size + 2, 0, none⟩ (.int .i64 0)).from W0.heap.size)).same D _ hD hK rfl
    generalize (((W.setCell ⟨w.heap.size, 0, none⟩ (.slice A5 xs.length c5)).setCell ⟨w.heap.size + 1, 0, none⟩ (.int .i64 0)).setCell ⟨w.heap.size + 2, 0, none⟩ (.int .i64 0)) = V at *
    refine ⟨by simp, .inl ⟨_, _, rfl, run_takeDeferred hK4, ?_⟩⟩
    have hgt := grownBy_putObj' V D (.deferred none)
    have hrt : ∀ q, some D = some q → W0.heap.size ≤ q ∧ ∃ o : Obj, V.heap[q]? = some o ∧ o.isCells = false := fun q e => by cases e; exact ⟨hD, _, hK4, rfl⟩
    have H5 := H4.turn hz2 (Nat.le_refl _) hgt hrt
    have hR5 := R_turn (B := W0.heap.size) hR4 hgt hrt
    have g2 := (blk_cell H5.b2 0).trans (show _ = some (Value.slice A5 xs.length c5) from rfl)
    have g3 := (blk_cell H5.b3 0).trans (show _ = some (Value.int .i64 0) from rfl)
    have g4 := (blk_cell H5.b4 0).trans (show _ = some (Value.int .i64 0) from rfl)
    have hall : (linesL s).find? (fun x => decide (64 < x.fields.length)) = none := by
      rw [← hxs, List.find?_eq_none]
      intro x hx
      obtain ⟨y, hy, rfl⟩ := List.mem_map.1 hx
      have := h3 y hy
      simp
      omega
    have hV : readV (linesL s) = (linesL s, 0, 0) := by rw [readV, hall]
    rw [hV]
    refine ⟨.tuple #[.slice A5 xs.length c5, .int .i64 0, .int .i64 0], ?_, _, rfl, ?_, H5.below⟩
    · simp [results, Tryd.f16, go_sem, g2, g3, g4]
    · rw [← hxs, List.map_map]
      rw [List.length_map] at hR5
      exact hR5
  case stop =>
    rintro D c pre W hD hpre ⟨rfl, pre', x, v5, rfl, h2, h3, h4⟩ hK
    have H4 := Lib.hid h4
    clear h4
    gi_wp2
    refine ⟨by simp, .inl ⟨_, _, rfl, run_takeDeferred hK, ?_⟩⟩
    have hgt := grownBy_putObj' W D (.deferred none)
    have hrt : ∀ q, some D = some q → W0.heap.size ≤ q ∧ ∃ o : Obj, W.heap[q]? = some o ∧ o.isCells = false := fun q e => by cases e; exact ⟨hD, _, hK, rfl⟩
    have H5 := H4.out.turn hz2 (Nat.le_refl _) hgt hrt
    have g2 := (blk_cell H5.b2 0).trans (show _ = some (Value.slice none 0 0) from rfl)
    have g3 := (blk_cell H5.b3 0).trans (show _ = some (Value.int .i64 x.1.num) from rfl)
    have g4 := (blk_cell H5.b4 0).trans (show _ = some (Value.int .i64 94) from rfl)
    have hfirst : (linesL s).find? (fun x => decide (64 < x.fields.length)) = some x.1 := by
      obtain ⟨r, hr⟩ := hpre
      rw [← hr, List.map_append, List.append_assoc, List.find?_append]
      have hno : (pre'.map (·.1)).find? (fun x => decide (64 < x.fields.length)) = none := by
        rw [List.find?_eq_none]
        intro y hy
        obtain ⟨z, hz, rfl⟩ := List.mem_map.1 hy
        have := h3 z hz
        simp
        omega
      rw [hno]
      simp [h2]
    have hV : readV (linesL s) = ([], x.1.num, 94) := by rw [readV, hfirst]
    rw [hV]
    refine ⟨.tuple #[.slice none 0 0, .int .i64 x.1.num, .int .i64 94], ?_, _, rfl, Kd.R_nil _ _ _ _ _, H5.below⟩
    simp [results, Tryd.f16, go_sem, g2, g3, g4]
end Go.Proofs.YthngjkaphfkmmaaDoor
/-! SeqB -/
namespace Go.Proofs.YthngjkaphfkmmaaDoor
open Go Go.RowKit
set_option linter.unusedVariables false
set_option linter.unusedSimpArgs false
/-- The activation in a round: the loop variable's box in its slot. -/
def boxAct (tmps : Array Value) (ps : Array Tmp) (vs : Array Value) (slot : Tmp) (b : Nat) : Act := { tmps := ((ps.zip vs).foldl (fun t (p, v) => t.setIfInBounds p v) tmps).setIfInBounds slot (.pointer (some ⟨b, 0, none⟩)), defers := [] }
/-- What a round's body is told: where the box lies. -/
def boxAx {α : Type} (tmps : Array Value) (ps : Array Tmp) (encs : α → Array Value) (slot : Tmp) (Ax : List α → α → Nat → World → Prop) (pre : List α) (x : α) (a' : Act) (W : World) : Prop := ∃ b, Ax pre x b W ∧ a' = boxAct tmps ps (encs x) slot b
section
variable {α : Type} {F : Fence} {n : Nat} {P : Program} {encs : α → Array Value} {Px : List α → α → World → Prop} {Kp : World → World → Prop} {S Sp : List α → Prop} {N : Nat}
theorem wpIn_range_out_box {g : Operand} {ps : Array Tmp} {assign body : Code} {Q : Exit → Act → World → Prop} {a : Act} {w w0 : World}
    (hro : F.round = none) (h1 : 1 ≤ n) {gf : Nat} {lb : Array Value} (hg : a.eval g = .func (.func gf) #[] lb) (hFg : F.fn gf) (eg : ∀ args w, (callFunc gf args).run P w = .ok (.enter gf args) w)
    (hseq : SeqP F (n - 1) P gf lb encs Px Kp S Sp N w0) (hb0 : Below w0.heap.size w0 w)
    (slot : Tmp) (I : List α → World → Prop) (Ix : Code → List α → World → Prop) (Ax : List α → α → Nat → World → Prop)
    (ho : ∀ fn, F.fn fn → Owes F (n - 1 - 1) P (recAt ps assign body a fn w.heap.size) (w.heap.size + 1) encs Px Kp N w.heap.size I Ix (boxAx a.tmps ps encs slot Ax)) (h0 : I [] w)
    (hdone : ∀ (D : Nat) (xs : List α) (W : World), w.heap.size ≤ D → S xs → I xs W → W.heap[D]? = some (.deferred (some [])) → Q .normal { a with defers := { target := .collected D, args := #[] } :: a.defers } W)
    (hstop : ∀ (D : Nat) (c : Code) (pre : List α) (W : World), w.heap.size ≤ D → Sp pre → Ix c pre W → W.heap[D]? = some (.deferred (some [])) → c.wpIn F n P Q { a with defers := { target := .collected D, args := #[] } :: a.defers } W) :
    (Code.rangeFunc g ps assign body).wpIn F n P Q a w := wpIn_range_out hro h1 hg hFg eg hseq hb0 I Ix _ ho h0 hdone hstop
theorem wpIn_range_in_box {g : Operand} {ps : Array Tmp} {assign body : Code} {Q : Exit → Act → World → Prop} {a : Act} {w w0 : World} {k : Nat} {q : Loop}
    (hro : F.round = some k) (hk : w.heap[k]? = some (.loop q)) (h1 : 1 ≤ n) {gf : Nat} {lb : Array Value} (hg : a.eval g = .func (.func gf) #[] lb) (hFg : F.fn gf) (eg : ∀ args w, (callFunc gf args).run P w = .ok (.enter gf args) w)
    (hseq : SeqP F (n - 1) P gf lb encs Px Kp S Sp N w0) (hb0 : Below w0.heap.size w0 w)
    (slot : Tmp) (I : List α → World → Prop) (Ix : Code → List α → World → Prop) (Ax : List α → α → Nat → World → Prop)
    (ho : ∀ fn, F.fn fn → Owes F (n - 1 - 1) P (recAt ps assign body a fn q.defers) w.heap.size encs Px Kp N w.heap.size I Ix (boxAx a.tmps ps encs slot Ax)) (h0 : I [] w)
    (hdone : ∀ (xs : List α) (W : World), S xs → I xs W → Q .normal a W)
    (hstop : ∀ (c : Code) (pre : List α) (W : World), Sp pre → Ix c pre W → c.wpIn F n P Q a W) :
    (Code.rangeFunc g ps assign body).wpIn F n P Q a w := wpIn_range_in hro hk h1 hg hFg eg hseq hb0 I Ix _ ho h0 hdone hstop
end
end Go.Proofs.YthngjkaphfkmmaaDoor
/-! LnReads -/
namespace Go.Proofs.YthngjkaphfkmmaaDoor
open Go Go.RowKit Go.Proofs.YthngjkaphfkmmaaDoorW.PrintWords Go.Proofs.YthngjkaphfkmmaaDoor.X
set_option linter.unusedVariables false
set_option linter.unusedSimpArgs false
/-- The document's Read. -/
theorem refRead_loop (L : List LnV) (hL : L.length < 9223372036854775807) : ∀ (m i : Nat), i + m = L.length → (∀ j (hj : j < L.length), j < i → ¬ 64 < (L[j]).fields.length) →
    Ev (fun k => posternref09_Read.l0 k (L.map LnV.d) (i : Int)) ((readV L).1.map LnV.d, (readV L).2.1, (readV L).2.2)
  | 0, i, hm, hj => by
    have hn : L.find? (fun x => decide (64 < x.fields.length)) = none := by
      rw [List.find?_eq_none]
      intro x hx
      obtain ⟨j, hj', rfl⟩ := List.getElem_of_mem hx
      simpa using hj j hj' (by omega)
    refine Ev.step (f := fun k => some (L.map LnV.d, 0, 0)) (fun k => ?_) ?_
    · simp only [posternref09_Read.l0]
      rw [if_neg (by rw [List.length_map]; omega)]
    · rw [readV, hn]
      exact Ev.now _
  | m + 1, i, hm, hj => by
    have hi : i < L.length := by omega
    have e1 : rd_T60 (L.map LnV.d) (i : Int) = L[i].d := by simp [rd_T60, hi]
    have e2 : (L[i].d.f1).length = L[i].fields.length := by simp [LnV.d]
    by_cases h : 64 < L[i].fields.length
    · have hf : L.find? (fun x => decide (64 < x.fields.length)) = some L[i] := by
        rw [List.find?_eq_some_iff_append]
        refine ⟨by simpa using h, L.take i, L.drop (i + 1), ?_, ?_⟩
        · rw [← List.drop_eq_getElem_cons hi, List.take_append_drop]
        · intro x hx
          obtain ⟨j, hj', rfl⟩ := List.getElem_of_mem hx
          rw [List.length_take] at hj'
          rw [List.getElem_take]
          simpa using hj j (by omega) (by omega)
      refine Ev.step (f := fun k => some ([], L[i].num, 94)) (fun k => ?_) ?_
      · simp only [posternref09_Read.l0]
        rw [if_pos (by rw [List.length_map]; omega), if_pos (by omega), e1, e2, if_pos (by omega)]
        rfl
      · rw [readV, hf]
        exact Ev.now _
    · refine Ev.step (f := fun k => posternref09_Read.l0 k (L.map LnV.d) ((i + 1 : Nat) : Int)) (fun k => ?_) (refRead_loop L hL m (i + 1) (by omega) (fun j hj' hlt => by
        by_cases e : j = i
        · subst e; exact h
        · exact hj j hj' (by omega)))
      simp only [posternref09_Read.l0]
      rw [if_pos (by rw [List.length_map]; omega), if_pos (by omega), e1, e2, if_neg (by omega), wsucc i (by omega)]
theorem refRead_ev (s : List UInt8) (hs : s.length ≤ 1048576) : Ev (fun k => posternref09_Read.f k (BA s)) ((readV (linesL s)).1.map LnV.d, (readV (linesL s)).2.1, (readV (linesL s)).2.2) := by
  unfold posternref09_Read.f
  refine Ev.bind (refLines_ev s hs) ?_
  exact refRead_loop (linesL s) (linesL_fields s hs).2 _ 0 (Nat.zero_add _) (fun j _ h => absurd h (Nat.not_lt_zero _))
theorem refRead_walk (s : List UInt8) (hs : s.length ≤ 1048576) (w : World) : Calls Tryd.prog 17 #[.string (BA s)] w fun e w' => ∃ v, e = .returned (.tuple #[v, .int .i64 (readV (linesL s)).2.1, .int .i64 (readV (linesL s)).2.2]) ∧ Kd.R k60 60 w' w.heap.size (fun _ => True) v ((readV (linesL s)).1.map LnV.d) ∧ Below w.heap.size w w' := by
  obtain ⟨k, hk⟩ := (refRead_ev s hs).rounds
  refine (posternref09_Read.calls k (BA s) _ _ _ w hk).mono ?_
  rintro e w' ⟨v, rfl, hr, hb⟩
  exact ⟨v, rfl, Kd.S_R hr, hb⟩
/-- One line is told the same. -/
theorem same_walk (x : LnV) (A A' : Option Addr) (c c' : Nat) (w : World) (hx : x.fields.length < 9223372036854775807) (hr : Kd.C Kd.string w A x.fields.length (x.fields.map BA)) (hc : x.fields.length ≤ c) (hr' : Kd.C Kd.string w A' x.fields.length (x.fields.map BA)) (hc' : x.fields.length ≤ c') :
    Calls Tryd.prog 20 #[.agg #[.int .i64 x.num, .slice A x.fields.length c, .string (BA x.note)], .agg #[.int .i64 x.num, .slice A' x.fields.length c', .string (BA x.note)]] w fun e w' => e = .returned (.bool true) ∧ Below w.heap.size w w' := by
  obtain ⟨k, hk⟩ := (same_ev x hx).rounds
  have e1 : (x.fields.map BA).length = x.fields.length := by simp
  have := posternlaw09_same.calls k x.num A c (x.fields.map BA) (BA x.note) x.num A' c' (x.fields.map BA) (BA x.note) true w (by rw [e1]; exact hr) (by rw [e1]; exact hc) (by rw [e1]; exact hr') (by rw [e1]; exact hc') hk
  rw [e1] at this
  exact this
/-- What the rounds find, below N: the boxes of left, the answer, what is wanted, the iterator and its text. -/
structure LR (w W : World) (N b bw bf bs : Nat) (left : Int) (s : List UInt8) (A : Option Addr) (c : Nat) : Prop where
  kl : W.heap[b]? = some (.cells #[.int .i64 left] 3 (0, 0))
  kr : W.heap[b + 1]? = some (.cells #[.bool false] 4 (0, 0))
  kw : W.heap[bw]? = some (.cells #[.slice A (linesL s).length c] 44 (0, 0))
  kf : W.heap[bf]? = some (.cells #[.func (.func 31) #[] #[.pointer (some ⟨bs, 0, none⟩)]] 54 (0, 0))
  ks : W.heap[bs]? = some (.cells #[.string (BA s)] 9 (0, 0))
  lb : b = w.heap.size
  ln : b + 1 < N ∧ bw < N ∧ bf < N ∧ bs < N
  rw : Kd.R k60 60 W w.heap.size (fun k => k < N) (.slice A (linesL s).length c) ((linesL s).map LnV.d)
  nw : N ≤ W.heap.size
  below : Below w.heap.size w W
theorem LR.keep {w W W' : World} {N b bw bf bs : Nat} {left : Int} {s : List UInt8} {A : Option Addr} {c : Nat} (h : LR w W N b bw bf bs left s A c) (hb : Below N W W') : LR w W' N b bw bf bs left s A c :=
  ⟨(hb.block _ (by have := h.ln; omega)).trans h.kl, (hb.block _ (by have := h.ln; omega)).trans h.kr, (hb.block _ (by have := h.ln; omega)).trans h.kw, (hb.block _ (by have := h.ln; omega)).trans h.kf, (hb.block _ (by have := h.ln; omega)).trans h.ks, h.lb, h.ln,
    Kd.R_move h.rw (fun k hk => hb.block k hk), Nat.le_trans h.nw hb.size, h.below.trans (hb.mono (by have := h.ln; have := h.lb; omega))⟩
theorem add_at (g j : Nat) : (⟨g, 0, none⟩ : Addr).add j = ⟨g, j, none⟩ := by
  unfold Addr.add
  split
  · rename_i h
    rw [h]
  · simp
theorem LR.at {w W : World} {N b bw bf bs : Nat} {left : Int} {s : List UInt8} {A : Option Addr} {c : Nat} (h : LR w W N b bw bf bs left s A c) {k : Nat} {x : LnV} (hx : (linesL s)[k]? = some x) :
    ∃ g A1 c1, A = some ⟨g, 0, none⟩ ∧ g < W.heap.size ∧ W.cell? ⟨g, k * 3, none⟩ = some (.int .i64 x.num) ∧ W.cell? ⟨g, k * 3 + 1, none⟩ = some (.slice A1 x.fields.length c1) ∧ W.cell? ⟨g, k * 3 + 2, none⟩ = some (.string (BA x.note)) ∧ x.fields.length ≤ c1 ∧ Kd.C Kd.string W A1 x.fields.length (x.fields.map BA) := by
  obtain ⟨hlt, e⟩ := List.getElem?_eq_some_iff.1 hx
  obtain ⟨g, cap, hv, _, hg, _⟩ := Kd.R_form h.rw (by rw [List.length_map]; omega)
  have hA : A = some ⟨g, 0, none⟩ := by injection hv
  have hC := (lines_R h.rw).2
  obtain ⟨ad, A1, c1, h1, h2, h3, h4, h5, h6⟩ := at_T60 hC (k : Int) (by omega) (by omega)
  have e1 : rd_T60 ((linesL s).map LnV.d) (k : Int) = x.d := by simp [rd_T60, hlt, e]
  rw [e1] at h2 h3 h4 h5 h6
  simp only [Int.toNat_natCast] at h2 h3 h4
  have e2 : x.d.f1.length = x.fields.length := by simp [LnV.d]
  rw [e2] at h3 h5 h6
  have e3 : ad = ⟨g, 0, none⟩ := by rw [hA] at h1; exact (Option.some.inj h1).symm
  rw [e3, add_at] at h2 h3 h4
  exact ⟨g, A1, c1, hA, hg, h2, h3, h4, h5, h6⟩
/-- The next one is the one at its place. -/
theorem next_at {L : List LnV} {pre : List LnA} {x : LnA} (h : (pre ++ [x]).map (·.1) <+: L) : L[pre.length]? = some x.1 := by
  obtain ⟨r, rfl⟩ := h
  simp
theorem keepsB {B : Nat} {X Y : World} (h : Below X.heap.size X Y) : KeepsFrom B X Y := ⟨h.size, fun k o _ hk _ => (h.block k (Array.getElem?_eq_some_iff.1 hk).1).trans hk⟩
theorem keepsPut {B : Nat} (W : World) (p : Addr) (v : Value) : KeepsFrom B W (W.setCell p v) := (KeepsOthers.setCell W p v).from B
theorem keepsNew {B : Nat} (W : World) (o : Obj) : KeepsFrom B W (W.alloc o) := (KeepsOthers.alloc W o).from B
def lineObj (x : LnA) : Obj := .cells #[.int .i64 x.1.num, .slice x.2.1 x.1.fields.length x.2.2, .string (BA x.1.note)] 58 (0, 0)
/-- The outer loop between two rounds: n counts. -/
structure OutI (V : World) (pre : List LnA) (W : World) : Prop where
  size : V.heap.size + 1 ≤ W.heap.size
  n : W.heap[V.heap.size]? = some (.cells #[.int .i64 (pre.length : Int)] 3 (0, 0))
  below : Below V.heap.size V W
/-- It was left. -/
structure OutX (V : World) (r : Nat) (c : Code) (pre : List LnA) (W : World) : Prop where
  c : c = .exit 2
  r : r = 0
  n : ∃ n, W.heap[V.heap.size]? = some (.cells #[.int .i64 n] 3 (0, 0))
  below : Below V.heap.size V W
structure OutA (V : World) (s : List UInt8) (pre : List LnA) (x : LnA) (b : Nat) (W : World) : Prop where
  lb : V.heap.size + 1 ≤ b
  blk : W.heap[b]? = some (lineObj x)
  at_ : LnA.at V.heap.size x W
  pre : (pre ++ [x]).map (·.1) <+: linesL s
/-- What stands when the loop is behind. -/
structure OutJ (V : World) (r : Nat) (s : List UInt8) (W : World) : Prop where
  n : ∃ n : Int, W.heap[V.heap.size]? = some (.cells #[.int .i64 n] 3 (0, 0)) ∧ (r = 1 → n = ((linesL s).length : Int))
  below : Below V.heap.size V W
theorem OutI.done {V : World} {xs : List LnA} {W : World} {s : List UInt8} (r : Nat) (h : OutI V xs W) (hx : xs.map (·.1) = linesL s) : OutJ V r s W := ⟨⟨_, h.n, fun _ => by rw [← hx, List.length_map]⟩, h.below⟩
theorem OutX.stop {V : World} {r : Nat} {c : Code} {pre : List LnA} {W : World} (s : List UInt8) (h : OutX V r c pre W) : OutJ V r s W := by
  obtain ⟨n, hn⟩ := h.n
  exact ⟨⟨n, hn, fun e => by have := h.r; omega⟩, h.below⟩
section
variable {α : Type} {F : Fence} {n : Nat} {P : Program} {encs : α → Array Value} {Px : List α → α → World → Prop} {Kp : World → World → Prop} {S Sp : List α → Prop} {N : Nat}
/-- Whether the loop ended or was left: what comes behind is walked once. -/
theorem wpIn_range_out_next {g : Operand} {ps : Array Tmp} {assign body : Code} {Q : Exit → Act → World → Prop} {a : Act} {w w0 : World}
    (hro : F.round = none) (h1 : 1 ≤ n) {gf : Nat} {lb : Array Value} (hg : a.eval g = .func (.func gf) #[] lb) (hFg : F.fn gf) (eg : ∀ args w, (callFunc gf args).run P w = .ok (.enter gf args) w)
    (hseq : SeqP F (n - 1) P gf lb encs Px Kp S Sp N w0) (hb0 : Below w0.heap.size w0 w)
    (slot : Tmp) (I : List α → World → Prop) (Ix : Code → List α → World → Prop) (Ax : List α → α → Nat → World → Prop) (Jn : World → Prop)
    (ho : ∀ fn, F.fn fn → Owes F (n - 1 - 1) P (recAt ps assign body a fn w.heap.size) (w.heap.size + 1) encs Px Kp N w.heap.size I Ix (boxAx a.tmps ps encs slot Ax)) (h0 : I [] w)
    (hdone : ∀ (xs : List α) (W : World), S xs → I xs W → Jn W)
    (hstop : ∀ (c : Code) (pre : List α) (W : World), Sp pre → Ix c pre W → Jn W)
    (hcode : ∀ (c : Code) (pre : List α) (W : World) (a' : Act), Ix c pre W → Q .normal a' W → c.wpIn F n P Q a' W)
    (hnext : ∀ (D : Nat) (W : World), w.heap.size ≤ D → Jn W → W.heap[D]? = some (.deferred (some [])) → Q .normal { a with defers := { target := .collected D, args := #[] } :: a.defers } W) :
    (Code.rangeFunc g ps assign body).wpIn F n P Q a w :=
  wpIn_range_out_box hro h1 hg hFg eg hseq hb0 slot I Ix Ax ho h0 (fun D xs W hD hS hI hd => hnext D W hD (hdone xs W hS hI) hd) (fun D c pre W hD hS hI hd => hcode c pre W _ hI (hnext D W hD (hstop c pre W hS hI) hd))
end
theorem OutI.own (V : World) : OwnFrom (V.heap.size + 1) (OutI V) := fun pre X Y row h hg hr =>
  ⟨Nat.le_trans h.size hg.size, blk_turn h.n hg hr, below_turn h.below (by omega) (Nat.le_refl _) hg hr⟩
theorem OutX.own (V : World) (r : Nat) (c : Code) : OwnFrom (V.heap.size + 1) (OutX V r c) := fun pre X Y row h hg hr => by
  obtain ⟨n, hn⟩ := h.n
  exact ⟨h.c, h.r, ⟨n, blk_turn hn hg hr⟩, below_turn h.below (by omega) (Nat.le_refl _) hg hr⟩
theorem OutA.own (V : World) (s : List UInt8) (tmps : Array Value) (ps : Array Tmp) (slot : Tmp) (pre : List LnA) (x : LnA) (a' : Act) : OwnFrom (V.heap.size + 1) (fun (_ : Unit) W => boxAx tmps ps LnA.enc slot (OutA V s) pre x a' W) := fun _ X Y row h hg hr => by
  obtain ⟨b, h, e⟩ := h
  exact ⟨b, ⟨h.lb, blk_turn h.blk hg hr, R_turn h.at_ hg hr, h.pre⟩, e⟩
/-- The inner loop: k counts; what the outer round asks goes along. -/
structure InI (Wb : World) (B : Nat) (pre : List LnA) (W : World) : Prop where
  size : Wb.heap.size + 1 ≤ W.heap.size
  k : W.heap[Wb.heap.size]? = some (.cells #[.int .i64 (pre.length : Int)] 3 (0, 0))
  below : Below Wb.heap.size Wb W
  keeps : KeepsFrom B Wb W
theorem InI.own (Wb : World) (B : Nat) : OwnFrom (Wb.heap.size + 1) (InI Wb B) := fun pre X Y row h hg hr =>
  ⟨Nat.le_trans h.size hg.size, blk_turn h.k hg hr, below_turn h.below (by omega) (Nat.le_refl _) hg hr, ⟨Nat.le_trans h.keeps.size hg.size, fun k o hB hk hc => by
    have h1 := h.keeps.same k o hB hk hc
    have hlt := (Array.getElem?_eq_some_iff.1 hk).1
    exact (hg.block k (Array.getElem?_eq_some_iff.1 h1).1 (fun e => by have := (hr k e.symm).1; omega)).trans h1⟩⟩
end Go.Proofs.YthngjkaphfkmmaaDoor
/-! LnReadsLaw -/
namespace Go.Proofs.YthngjkaphfkmmaaDoor
open Go Go.RowKit Go.Proofs.YthngjkaphfkmmaaDoorW.PrintWords Go.Proofs.YthngjkaphfkmmaaDoor.X
set_option linter.unusedVariables false
set_option linter.unusedSimpArgs false
attribute [local go_sem] Oper.semAt_some
theorem eq_nilFunc (fn : Fn) (a b : Array Value) (w : World) : (binOp BinOp.eql 54 (.func fn a b) .nilFunc).run Tryd.prog w = .ok (.bool false) w := by
  simp [binOp, go_sem]
  unfold Op.equal
  rw [show Op.maxDepth = 9999 + 1 from rfl]
  unfold Op.equalIn
  simp [go_sem]
attribute [local go_sem] eq_nilFunc
set_option maxHeartbeats 8000000 in
set_option maxRecDepth 100000 in
theorem lineReads_walk (s : List UInt8) (hs : s.length ≤ 1048576) (left : Int) (hleft : -9223372036854775808 ≤ left ∧ left ≤ 9223372036854775807) (w : World) (hG : GW w) :
    Calls Tryd.prog 4 #[.string (BA s), .int .i64 left] w fun e w' => e = .returned (.bool true) ∧ Below w.heap.size w w' := by
  have hgl : 0 < w.heap.size := by obtain ⟨m, hm⟩ := hG.maxLen; exact World.block_lt_of_cell? _ _ hm
  have HG := Lib.hid hG
  clear hG
  refine (callsIn_wide (n := 9)).1 ?_
  refine callsIn_of_wp_marks Tryd.func4 rfl trivial ?_ rfl
  simp only [Tryd.ntmps4, List.size_toArray, List.length_cons, List.length_nil, Nat.reduceAdd, Nat.reduceSub, Array.replicate_succ, Array.replicate_zero, List.push_toArray, List.append_toArray, List.nil_append, List.cons_append]
  gi_wp2
  have hbl : ((w.alloc (.cells #[.int .i64 left] 3)).alloc (.cells #[.bool false] 4)).heap[w.heap.size]? = some (.cells #[.int .i64 left] 3 (0, 0)) := blk_alloc (blk_new w _) _
  have hbr : ((w.alloc (.cells #[.int .i64 left] 3)).alloc (.cells #[.bool false] 4)).heap[w.heap.size + 1]? = some (.cells #[.bool false] 4 (0, 0)) := by
    have := blk_new (w.alloc (.cells #[.int .i64 left] 3)) (.cells #[.bool false] 4)
    simpa using this
  have hbe : Below w.heap.size w ((w.alloc (.cells #[.int .i64 left] 3)).alloc (.cells #[.bool false] 4)) := ((Below.refl _ w).alloc (Nat.le_refl _) _).alloc (by simp) _
  have HL0 := Lib.hid hbl
  have HR0 := Lib.hid hbr
  have HE0 := Lib.hid hbe
  clear hbl hbr hbe
  generalize (w.alloc (.cells #[.int .i64 left] 3)).alloc (.cells #[.bool false] 4) = w0 at *
  refine ⟨trivial, callsIn_wide.2 ((refLines_walk s hs _).mono ?_)⟩
  rintro e w1 ⟨A, c, rfl, _, _, hb1, hr1⟩
  have HL1 := Lib.hid (blk_below HL0.out hb1)
  have HR1 := Lib.hid (blk_below HR0.out hb1)
  have HE1 := Lib.hid (below_step HE0.out hb1)
  have HW1 := Lib.hid (Kd.R_lower hr1 HE0.out.size)
  clear HL0 HR0 HE0 hb1 hr1
  gi_wp2
  have hbw := blk_new w1 (.cells #[.slice A (linesL s).length c] 44)
  have hnl : w.heap.size + 1 < w1.heap.size := blk_lt HR1.out
  have hb2 : Below w1.heap.size w1 (w1.alloc (.cells #[.slice A (linesL s).length c] 44)) := (Below.refl _ _).alloc (Nat.le_refl _) _
  have HL2 := Lib.hid (blk_below HL1.out hb2)
  have HR2 := Lib.hid (blk_below HR1.out hb2)
  have HE2 := Lib.hid (below_step HE1.out hb2)
  have HW2 := Lib.hid (Kd.R_below HW1.out hb2)
  have HBW2 := Lib.hid hbw
  clear HL1 HR1 HE1 HW1 hb2 hbw
  generalize w1.alloc (.cells #[.slice A (linesL s).length c] 44) = w2 at *
  generalize w1.heap.size = bw at *
  refine ⟨trivial, callsIn_wide.2 ((read_walk s hs _ (HG.out.keep HE2.out)).mono ?_)⟩
  rintro e w3 ⟨va, rfl, hra, hb3⟩
  have HL3 := Lib.hid (blk_below HL2.out hb3)
  have HR3 := Lib.hid (blk_below HR2.out hb3)
  have HE3 := Lib.hid (below_step HE2.out hb3)
  have HW3 := Lib.hid (Kd.R_below HW2.out hb3)
  have HBW3 := Lib.hid (blk_below HBW2.out hb3)
  have HA3 := Lib.hid hra
  clear HL2 HR2 HE2 HW2 HBW2 hb3 hra
  generalize hva : readV (linesL s) = V at *
  gi_wp2
  refine ⟨trivial, callsIn_wide.2 ((refRead_walk s hs _).mono ?_)⟩
  rintro e w4 ⟨vb, rfl, hrb, hb4⟩
  have HL4 := Lib.hid (blk_below HL3.out hb4)
  have HR4 := Lib.hid (blk_below HR3.out hb4)
  have HE4 := Lib.hid (below_step HE3.out hb4)
  have HW4 := Lib.hid (Kd.R_below HW3.out hb4)
  have HBW4 := Lib.hid (blk_below HBW3.out hb4)
  have HA4 := Lib.hid (Kd.R_below HA3.out hb4)
  have HB4 := Lib.hid hrb
  clear HL3 HR3 HE3 HW3 HBW3 HA3 hb4 hrb
  rw [hva] at HB4 ⊢
  gi_wp2
  refine ⟨trivial, callsIn_wide.2 ((posternlaw09_awake.calls true _ awake_true).mono ?_)⟩
  rintro e w5 ⟨rfl, hd5⟩
  have hb5 := hd5.below
  have HL5 := Lib.hid (blk_below HL4.out hb5)
  have HR5 := Lib.hid (blk_below HR4.out hb5)
  have HE5 := Lib.hid (below_step HE4.out hb5)
  have HW5 := Lib.hid (Kd.R_below HW4.out hb5)
  have HBW5 := Lib.hid (blk_below HBW4.out hb5)
  have HA5 := Lib.hid (Kd.R_below HA4.out hb5)
  have HB5 := Lib.hid (Kd.R_below HB4.out hb5)
  clear HL4 HR4 HE4 HW4 HBW4 HA4 HB4 hb5 hd5
  obtain ⟨Aa, ca, rfl, hla, hCa⟩ := Kd.R_reads HA5.out
  obtain ⟨Ab, cb, rfl, hlb, hCb⟩ := Kd.R_reads HB5.out
  rw [List.length_map] at hla hCa hlb hCb
  rw [List.length_map] at HA5 ⊢
  rw [List.length_map] at HB5 ⊢
  have HCA := Lib.hid (And.intro hla hCa)
  have HCB := Lib.hid (And.intro hlb hCb)
  have hVl : V.1.length < 9223372036854775807 ∧ ∀ x ∈ V.1, x.fields.length < 9223372036854775807 := by
    have h := linesL_fields s hs
    rw [← hva, readV]
    split
    · exact ⟨h.2, h.1⟩
    · exact ⟨by simp, fun x hx => by cases hx⟩
  have HVL := Lib.hid hVl
  clear hla hCa hlb hCb hVl HA5 HB5
  gi_wp2
  refine ⟨trivial, callsIn_wide.2 ((lines_walk V.1 Aa Ab ca cb _ HCA.out.2 HCA.out.1 HCB.out.2 HCB.out.1 HVL.out.1 HVL.out.2).mono ?_)⟩
  rintro e w6 ⟨rfl, hb6⟩
  have HL6 := Lib.hid (blk_below HL5.out hb6)
  have HR6 := Lib.hid (blk_below HR5.out hb6)
  have HE6 := Lib.hid (below_step HE5.out hb6)
  have HW6 := Lib.hid (Kd.R_below HW5.out hb6)
  have HBW6 := Lib.hid (blk_below HBW5.out hb6)
  clear HL5 HR5 HE5 HW5 HBW5 HCA HCB HVL hb6
  gi_wp2
  refine ⟨trivial, callsIn_wide.2 ((lines_call (BA s) _).mono ?_)⟩
  rintro e w7 ⟨rfl, rfl⟩
  have hs6 : (w6.alloc (.cells #[.string (BA s)] 9)).heap.size = w6.heap.size + 1 := by simp
  have hnw : w.heap.size + 1 < w6.heap.size := blk_lt HR6.out
  have hbw6 : bw < w6.heap.size := blk_lt HBW6.out
  have LR0 : LR w ((w6.alloc (.cells #[.string (BA s)] 9)).alloc (.cells #[.func (.func 31) #[] #[.pointer (some ⟨w6.heap.size, 0, none⟩)]] 54)) (w6.heap.size + 2) w.heap.size bw (w6.heap.size + 1) w6.heap.size left s A c := by
    refine ⟨blk_alloc (blk_alloc HL6.out _) _, blk_alloc (blk_alloc HR6.out _) _, blk_alloc (blk_alloc HBW6.out _) _, ?_, blk_alloc (blk_new w6 _) _, rfl, ⟨by omega, by omega, by omega, by omega⟩, ?_, by simp, ((HE6.out.alloc HE6.out.size _).alloc (by have := HE6.out.size; simp; omega) _)⟩
    · have := blk_new (w6.alloc (.cells #[.string (BA s)] 9)) (.cells #[.func (.func 31) #[] #[.pointer (some ⟨w6.heap.size, 0, none⟩)]] 54)
      rw [hs6] at this
      exact this
    · refine Kd.R_mono (Kd.R_bound (Kd.R_alloc (Kd.R_alloc HW6.out _) _)) (fun k hk => ?_)
      have := hk.2.2.1
      simp at this
      omega
  have LR1 := Lib.hid (LR0.keep ((Below.refl _ _).alloc (by simp) (.cells #[.int .i64 0] 3)))
  have hb14 := blk_new ((w6.alloc (.cells #[.string (BA s)] 9)).alloc (.cells #[.func (.func 31) #[] #[.pointer (some ⟨w6.heap.size, 0, none⟩)]] 54)) (.cells #[.int .i64 0] 3)
  rw [World.size_alloc, World.size_alloc] at hb14
  have HB14 := Lib.hid hb14
  clear LR0 hb14 HL6 HR6 HBW6 HW6 HE6 hs6
  gi_wp2
  generalize (((w6.alloc (.cells #[.string (BA s)] 9)).alloc (.cells #[.func (.func 31) #[] #[.pointer (some ⟨w6.heap.size, 0, none⟩)]] 54)).alloc (.cells #[.int .i64 0] 3)) = V0 at *
  -- ROUNDS
  have hgN : w6.heap.size + 2 ≤ w6.heap.size + 1 + 1 := by omega
  obtain ⟨N, hN⟩ : ∃ N, N = w6.heap.size + 2 := ⟨_, rfl⟩
  rw [← hN] at LR1
  obtain ⟨bf, hbf⟩ : ∃ bf, bf = w6.heap.size + 1 := ⟨_, rfl⟩
  obtain ⟨g0, hg0⟩ : ∃ g0, g0 = w6.heap.size + 1 + 1 := ⟨_, rfl⟩
  rw [← hg0] at HB14 ⊢
  rw [← hbf] at LR1 ⊢
  obtain ⟨bs, hbs⟩ : ∃ bs, bs = w6.heap.size := ⟨_, rfl⟩
  rw [← hbs] at LR1 ⊢
  have hNg0 : N ≤ g0 := by omega
  clear hgN hN hbf hg0 hbs hnw hbw6 hva
  refine wpIn_loop_rounds 3 ?_
  rw [roundsIn_succ]
  have hgV0 : g0 < V0.heap.size := blk_lt HB14.out
  have hc13 := (blk_cell LR1.out.kf 0).trans (show _ = some (Value.func (.func 31) #[] #[.pointer (some ⟨bs, 0, none⟩)]) from rfl)
  have hc14 := (blk_cell HB14.out 0).trans (show _ = some (Value.int .i64 0) from rfl)
  have hlt13 := blk_lt LR1.out.kf
  gi_wp2
  clear hc13 hc14 hlt13
  have hN0 := LR1.out.nw
  have hbn := blk_new V0 (.cells #[.int .i64 0] 3)
  have hbe := (Below.refl V0.heap.size V0).alloc (Nat.le_refl _) (.cells #[.int .i64 0] 3)
  have hsz : (V0.alloc (.cells #[.int .i64 0] 3)).heap.size = V0.heap.size + 1 := by simp
  obtain ⟨U0, hU⟩ : ∃ U, V0.alloc (.cells #[.int .i64 0] 3) = U := ⟨_, rfl⟩
  rw [hU] at hbn hbe hsz ⊢
  clear hU
  have hLU := LR1.out.keep (hbe.mono hN0)
  have hsb := (blk_cell hLU.ks 0).trans (show _ = some (Value.string (BA s)) from rfl)
  have hsl := blk_lt hLU.ks
  refine wpIn_range_out_next (F := Fence.wide) (n := 9) rfl (by decide) (gf := 31) (lb := #[.pointer (some ⟨bs, 0, none⟩)]) rfl trivial (enters_of Tryd.func31 (by kernel_rfl) rfl)
    (linesSeq 8 bs V0.heap.size s hs U0 (by omega) (HG.out.keep hLU.below) (by omega) hsl hsb) (Below.refl _ _)
    16 (OutI V0) (OutX V0 0) (OutA V0 s) (OutJ V0 0 s)
    (fun fn hfn => ⟨fun x => rfl, fun h1 h2 => h1.trans h2, ?kb0, ?own0, ?ownx0, ?owna0, ?asg0, ?bod0⟩) ⟨by omega, hbn, hbe⟩ (fun _ _ hx hi => hi.done _ hx) (fun _ _ _ _ hx => hx.stop s) ?code0 ?next0
  case kb0 =>
    intro W k o o' hk ho hoc how
    exact belowK_b (w := U0) (by omega) W k o o' hk ho hoc how
  case own0 => rw [hsz]; exact OutI.own _
  case ownx0 => intro c; rw [hsz]; exact OutX.own _ _ _
  case owna0 => intro pre x a'; rw [hsz]; exact OutA.own _ _ _ _ _ _ _ _
  case asg0 =>
    intro pre x W K hi hx hK
    simp only [recAt, Rec.frame, LnA.enc]
    gi_wp2
    refine hK _ _ ((KeepsOthers.alloc _ _).from _) ((Below.refl _ _).alloc (by have := hi.size; omega) _) ⟨Nat.le_trans hi.size (by simp), blk_alloc hi.n _, hi.below.alloc (by have := hi.size; omega) _⟩ ⟨W.heap.size, ⟨hi.size, blk_new _ _, Kd.R_alloc hx.1 _, hx.2⟩, by simp [boxAct, LnA.enc]⟩
  case bod0 =>
    simp only [recAt, boxAx, boxAct, LnA.enc]
    rintro pre x a' W ⟨q, hq⟩ hi ⟨Bx, hax, rfl⟩ hlen
    simp [boxAct, LnA.enc]
    have HSZ := Lib.hid hsz
    clear hsz
    have HLR := Lib.hid (LR1.out.keep (hi.below.mono hN0))
    have HI := Lib.hid hi
    have HAX := Lib.hid hax
    have hk := next_at HAX.out.pre
    obtain ⟨g, A1, c1, hAg, hgl, hc0, hc1, hc2, hcl, hC⟩ := HLR.out.at hk
    have hCx := (Kd.R_reads' HAX.out.at_)
    have hx0 := (blk_cell HAX.out.blk 0).trans (show _ = some (Value.int .i64 x.1.num) from rfl)
    have hx1 := (blk_cell HAX.out.blk 1).trans (show _ = some (Value.slice x.2.1 x.1.fields.length x.2.2) from rfl)
    have hx2 := (blk_cell HAX.out.blk 2).trans (show _ = some (Value.string (BA x.1.note)) from rfl)
    have hn := (blk_cell HI.out.n 0).trans (show _ = some (Value.int .i64 (pre.length : Int)) from rfl)
    have hxl := blk_lt HAX.out.blk
    have hnl := blk_lt HI.out.n
    have hwl := blk_lt HLR.out.kw
    have hfl := (linesL_fields s hs).1 x.1 (List.mem_of_getElem? hk)
    rw [List.length_map] at hCx
    have SAME : ∀ y : Ext W, Calls Tryd.prog 20 #[.agg #[.int .i64 x.1.num, .slice x.2.1 x.1.fields.length x.2.2, .string (BA x.1.note)], .agg #[.int .i64 x.1.num, .slice A1 x.1.fields.length c1, .string (BA x.1.note)]] y.wd fun e w' => e = .returned (.bool true) ∧ Below y.wd.heap.size y.wd w' :=
      fun y => same_walk x.1 x.2.1 A1 x.2.2 c1 y.wd hfl (Kd.C_below hCx.2.2 y.below) hCx.2.1 (Kd.C_below hC y.below) hcl
    have hge : ¬ ((linesL s).length : Int) ≤ (pre.length : Int) := by omega
    have hgeN : ¬ (linesL s).length ≤ pre.length := by omega
    have hLl := (linesL_fields s hs).2
    have hpl : (pre.length : Int) < 9223372036854775807 := by omega
    have HSAME := Lib.hid SAME
    clear hC hCx SAME hk hcl hfl
    clear hi hax
    subst hAg
    have hw := (blk_cell HLR.out.kw 0).trans (show _ = some (Value.slice (some ⟨_, 0, none⟩) (linesL s).length c) from rfl)
    gi_wp2
    refine wpIn_region_ext_round (by kernel_rfl) (by kernel_rfl) (by kernel_rfl) ?_
    repeat (first | go_big_quiet_step (with_reducible exact ext_of (HSAME.out _)) | (rw [beq_self_eq_true]))
    refine wpQuiet_nil ?_
    rintro W1 ⟨y, hy⟩
    have hyb : Below W.heap.size W W1 := hy ▸ y.below
    clear hy y
    have HL1 := Lib.hid (HLR.out.keep (hyb.mono HLR.out.nw))
    have hb14 := (hyb.block _ (Nat.lt_of_lt_of_le hgV0 HI.out.below.size)).trans ((HI.out.below.block _ hgV0).trans HB14.out)
    have hb15 := (hyb.block _ hnl).trans HI.out.n
    clear hx0 hx1 hx2 hn hw hc0 hc1 hc2 hxl hwl hge hgl
    have h15 := (blk_cell hb15 0).trans (show _ = some (Value.int .i64 (pre.length : Int)) from rfl)
    have hf15 := blk_frozen hb15 0
    have h14 := (blk_cell hb14 0).trans (show _ = some (Value.int .i64 0) from rfl)
    have h3 := (blk_cell HL1.out.kl 0).trans (show _ = some (Value.int .i64 left) from rfl)
    have h13 := (blk_cell HL1.out.kf 0).trans (show _ = some (Value.func (.func 31) #[] #[.pointer (some ⟨bs, 0, none⟩)]) from rfl)
    have hlN := HL1.out.ln
    have hne1 : g0 ≠ V0.heap.size := by omega
    have hne2 : w.heap.size ≠ V0.heap.size := by omega
    have hne3 : bf ≠ V0.heap.size := by omega
    have hlt13' : bf < W1.heap.size := blk_lt HL1.out.kf
    have hy15 : V0.heap.size < W1.heap.size := Nat.lt_of_lt_of_le hnl hyb.size
    have HB15 := Lib.hid hb15
    have HB14' := Lib.hid hb14
    have HLN := Lib.hid hlN
    have hnl' := hnl
    have HFIN := Lib.hid (show OutI V0 (pre ++ [x]) (W1.setCell ⟨V0.heap.size, 0, none⟩ (.int .i64 ((pre.length : Int) + 1))) from ⟨by simp; omega, by have := blk_put hb15 0 (.int .i64 ((pre.length : Int) + 1)) rfl; simpa using this, (HI.out.below.trans (hyb.mono (Nat.le_of_lt hnl))).setCell (p := ⟨V0.heap.size, 0, none⟩) (Nat.le_refl _) _⟩)
    clear hb14 hb15 hnl hgeN hlN
    by_cases hl : (pre.length : Int) + 1 = left
    · subst hl
      gi_wp2
      refine ⟨(keepsB hyb).trans (keepsPut _ _ _), rfl, rfl, ⟨_, blk_put HB15.out 0 _ rfl⟩, (HI.out.below.trans (hyb.mono (Nat.le_of_lt hnl'))).setCell (p := ⟨V0.heap.size, 0, none⟩) (Nat.le_refl _) _⟩
    · have hlb : ((pre.length : Int) + 1 == left) = false := by simpa using hl
      by_cases h0 : pre.length = 0
      · have h0b : ((pre.length : Int) + 1 == 1) = true := by rw [beq_iff_eq]; omega
        clear h0
        gi_wp2
        obtain ⟨Wb, hWb⟩ : ∃ Wb, W1.setCell ⟨V0.heap.size, 0, none⟩ (.int .i64 ((pre.length : Int) + 1)) = Wb := ⟨_, rfl⟩
        have hsW : W1.heap.size = Wb.heap.size := by rw [← hWb]; simp
        have hkW : KeepsFrom (V0.heap.size + 1) W Wb := by rw [← hWb]; exact (keepsB hyb).trans (keepsPut _ _ _)
        have hbW : Below V0.heap.size W Wb := by rw [← hWb]; exact (hyb.mono (Nat.le_of_lt hnl')).setCell (p := ⟨V0.heap.size, 0, none⟩) (Nat.le_refl _) _
        rw [hWb, hsW]
        rw [hWb] at HFIN
        have hN : N ≤ Wb.heap.size := Nat.le_trans HLR.out.nw hbW.size
        have HLb := Lib.hid (HLR.out.keep (hbW.mono hN0))
        have hVb : V0.heap.size < Wb.heap.size := Nat.lt_of_lt_of_le hnl' hbW.size
        have hqb := hkW.same _ _ (by have := HSZ.out; omega) hq rfl
        clear h15 hf15 h14 h3 h13 hne1 hne2 hne3 hy15 HB15 HB14' hlt13' hlb h0b HL1
        have hbn2 := blk_new Wb (.cells #[.int .i64 0] 3)
        have hbe2 := (Below.refl Wb.heap.size Wb).alloc (Nat.le_refl _) (.cells #[.int .i64 0] 3)
        have hsz2 : (Wb.alloc (.cells #[.int .i64 0] 3)).heap.size = Wb.heap.size + 1 := by simp
        obtain ⟨Ub, hUb⟩ : ∃ U, Wb.alloc (.cells #[.int .i64 0] 3) = U := ⟨_, rfl⟩
        rw [hUb] at hbn2 hbe2 hsz2 ⊢
        clear hUb
        have hLUb := HLb.out.keep (hbe2.mono hN)
        have hqU := (hbe2.block _ (Array.getElem?_eq_some_iff.1 hqb).1).trans hqb
        have hsb2 := (blk_cell hLUb.ks 0).trans (show _ = some (Value.string (BA s)) from rfl)
        have hsl2 := blk_lt hLUb.ks
        have HLN2 := HLN.out
        refine wpIn_range_in_box (F := Fence.wide.inRound (U0.heap.size + 1)) (n := 7) rfl hqU (by decide) (gf := 31) (lb := #[.pointer (some ⟨bs, 0, none⟩)]) rfl trivial (enters_of Tryd.func31 (by kernel_rfl) rfl)
          ((linesSeq 6 bs Wb.heap.size s hs Ub (by omega) (HG.out.keep hLUb.below) (by omega) hsl2 hsb2).inRound _) (Below.refl _ _)
          18 (InI Wb (V0.heap.size + 1)) (fun _ _ _ => False) (OutA Wb s)
          (fun fn hfn => ⟨fun x => rfl, fun h1 h2 => h1.trans h2, ?kbi, ?owni, ?ownxi, ?ownai, ?asgi, ?bodi⟩) ⟨by omega, hbn2, hbe2, keepsB hbe2⟩ ?donei (fun _ _ _ _ h => h.elim)
        case kbi =>
          intro W k o o' hk ho hoc how
          exact belowK_b (w := Ub) (by omega) W k o o' hk ho hoc how
        case owni => rw [hsz2]; exact InI.own _ _
        case ownxi => intro c pre X Y row h; exact h.elim
        case ownai => intro pre x a'; rw [hsz2]; exact OutA.own _ _ _ _ _ _ _ _
        case asgi =>
          intro pre x W K hi hx hK
          simp only [recAt, Rec.frame, LnA.enc]
          gi_wp2
          refine hK _ _ (keepsNew _ _) ((Below.refl _ _).alloc (by have := hi.size; omega) _) ⟨Nat.le_trans hi.size (by simp), blk_alloc hi.k _, hi.below.alloc (by have := hi.size; omega) _, hi.keeps.trans (keepsNew _ _)⟩ ⟨W.heap.size, ⟨hi.size, blk_new _ _, Kd.R_alloc hx.1 _, hx.2⟩, by simp [boxAct, LnA.enc]⟩
        case bodi =>
          simp only [recAt, boxAx, boxAct, LnA.enc]
          rintro pre x a' W ⟨q', hq'⟩ hi ⟨Bx, hax, rfl⟩ hlen
          simp [boxAct, LnA.enc]
          clear hsz2 hLUb hLU hqU hsb2 hsl2
          have HLRi := Lib.hid (HLb.out.keep (hi.below.mono hN))
          have HIi := Lib.hid hi
          have HAXi := Lib.hid hax
          have hk := next_at HAXi.out.pre
          obtain ⟨g, A1, c1, hAg, hgl, hc0, hc1, hc2, hcl, hC⟩ := HLRi.out.at hk
          have hCx := (Kd.R_reads' HAXi.out.at_)
          have hx0 := (blk_cell HAXi.out.blk 0).trans (show _ = some (Value.int .i64 x.1.num) from rfl)
          have hx1 := (blk_cell HAXi.out.blk 1).trans (show _ = some (Value.slice x.2.1 x.1.fields.length x.2.2) from rfl)
          have hx2 := (blk_cell HAXi.out.blk 2).trans (show _ = some (Value.string (BA x.1.note)) from rfl)
          have hn := (blk_cell HIi.out.k 0).trans (show _ = some (Value.int .i64 (pre.length : Int)) from rfl)
          have hxl := blk_lt HAXi.out.blk
          have hnl := blk_lt HIi.out.k
          have hwl := blk_lt HLRi.out.kw
          have hfl := (linesL_fields s hs).1 x.1 (List.mem_of_getElem? hk)
          rw [List.length_map] at hCx
          have SAME : ∀ y : Ext W, Calls Tryd.prog 20 #[.agg #[.int .i64 x.1.num, .slice x.2.1 x.1.fields.length x.2.2, .string (BA x.1.note)], .agg #[.int .i64 x.1.num, .slice A1 x.1.fields.length c1, .string (BA x.1.note)]] y.wd fun e w' => e = .returned (.bool true) ∧ Below y.wd.heap.size y.wd w' :=
            fun y => same_walk x.1 x.2.1 A1 x.2.2 c1 y.wd hfl (Kd.C_below hCx.2.2 y.below) hCx.2.1 (Kd.C_below hC y.below) hcl
          have hge : ¬ ((linesL s).length : Int) ≤ (pre.length : Int) := by omega
          have hgeN : ¬ (linesL s).length ≤ pre.length := by omega
          have hLl := (linesL_fields s hs).2
          have hpl : (pre.length : Int) < 9223372036854775807 := by omega
          have HSAME := Lib.hid SAME
          clear hC hCx SAME hk hcl hfl
          clear hi hax
          injection hAg with hAg
          injection hAg with hAg
          subst hAg
          have hw := (blk_cell HLRi.out.kw 0).trans (show _ = some (Value.slice (some ⟨_, 0, none⟩) (linesL s).length c) from rfl)
          gi_wp2
          refine wpIn_region_ext_round (by kernel_rfl) (by kernel_rfl) (by kernel_rfl) ?_
          repeat (first | go_big_quiet_step (with_reducible exact ext_of (HSAME.out _)) | (rw [beq_self_eq_true]))
          refine wpQuiet_nil ?_
          rintro W1 ⟨y, hy⟩
          have hyb : Below W.heap.size W W1 := hy ▸ y.below
          clear hy y
          have hb17 := (hyb.block _ hnl).trans HIi.out.k
          have h17 := (blk_cell hb17 0).trans (show _ = some (Value.int .i64 (pre.length : Int)) from rfl)
          have hf17 := blk_frozen hb17 0
          have HFINi := Lib.hid (show InI Wb (V0.heap.size + 1) (pre ++ [x]) (W1.setCell ⟨Wb.heap.size, 0, none⟩ (.int .i64 ((pre.length : Int) + 1))) from ⟨by have := hyb.size; have := HIi.out.size; simp; omega, by have := blk_put hb17 0 (.int .i64 ((pre.length : Int) + 1)) rfl; simpa using this, (HIi.out.below.trans (hyb.mono (Nat.le_of_lt hnl))).setCell (p := ⟨Wb.heap.size, 0, none⟩) (Nat.le_refl _) _, HIi.out.keeps.trans ((keepsB hyb).trans (keepsPut _ _ _))⟩)
          have hnl' := hnl
          clear hx0 hx1 hx2 hn hw hc0 hc1 hc2 hxl hwl hge hgl hgeN hb17 hnl
          gi_wp2
          exact ⟨(keepsB hyb).trans (keepsPut _ _ _), (hyb.mono (Nat.le_of_lt hnl')).setCell (p := ⟨Wb.heap.size, 0, none⟩) (Nat.le_refl _) _, HFINi.out⟩
        case donei =>
          intro xs Wd hxs hi
          have hxl : xs.length = (linesL s).length := by rw [← hxs, List.length_map]
          have h17 := (blk_cell hi.k 0).trans (show _ = some (Value.int .i64 (xs.length : Int)) from rfl)
          rw [hxl] at h17
          have hLd := HLb.out.keep (hi.below.mono hN)
          have h5 := (blk_cell hLd.kw 0).trans (show _ = some (Value.slice (some ⟨_, 0, none⟩) (linesL s).length c) from rfl)
          have HId := Lib.hid hi
          clear hsz2 hLUb hLU hqU hsb2 hsl2 hi hLd hxl hxs
          gi_wp2
          rw [HSZ.out]
          exact ⟨hkW.trans HId.out.keeps, hbW.trans (HId.out.below.mono (Nat.le_of_lt hVb)), Nat.le_trans HFIN.out.size HId.out.below.size, (HId.out.below.block _ hVb).trans HFIN.out.n, HFIN.out.below.trans (HId.out.below.mono (Nat.le_of_lt hVb))⟩
      · have h0b : ((pre.length : Int) + 1 == 1) = false := by rw [beq_eq_false_iff_ne]; omega
        clear h0
        gi_wp2
        exact ⟨(keepsB hyb).trans (keepsPut _ _ _), (hyb.mono (Nat.le_of_lt hnl')).setCell (p := ⟨V0.heap.size, 0, none⟩) (Nat.le_refl _) _, HFIN.out⟩
  case code0 =>
    rintro c pre W a' ⟨rfl, _, _, _⟩ h
    first
    | (gi_step; exact h)
    | (gi_step; gi_step; exact h)
  rintro D0 W hD ⟨⟨n, hn, hnr⟩, hb⟩ hdef
  have HLR := Lib.hid (LR1.out.keep (hb.mono hN0))
  have hb14 := (hb.block _ hgV0).trans HB14.out
  have h15 := (blk_cell hn 0).trans (show _ = some (Value.int .i64 n) from rfl)
  have h14 := (blk_cell hb14 0).trans (show _ = some (Value.int .i64 0) from rfl)
  have h5 := (blk_cell HLR.out.kw 0).trans (show _ = some (Value.slice A (linesL s).length c) from rfl)
  have hlt14 := blk_lt hb14
  gi_wp2
  obtain ⟨V1, hV1⟩ : ∃ V, W.alloc (.cells #[.int .i64 1] 3) = V := ⟨_, rfl⟩
  have LR2 := Lib.hid (HLR.out.keep ((Below.refl _ _).alloc HLR.out.nw (.cells #[.int .i64 1] 3)))
  have HB2 := Lib.hid (blk_new W (.cells #[.int .i64 1] 3))
  have HD1 := Lib.hid (((Below.refl W.heap.size W).alloc (Nat.le_refl _) (.cells #[.int .i64 1] 3)).block _ (Array.getElem?_eq_some_iff.1 hdef).1 |>.trans hdef)
  have hNg1 := HLR.out.nw
  have hD0' : N ≤ D0 := by omega
  have hg10 : W.heap.size < V1.heap.size := by rw [← hV1]; simp
  rw [hV1] at LR2 HB2 HD1 ⊢
  obtain ⟨g1, hg1⟩ : ∃ g, g = W.heap.size := ⟨_, rfl⟩
  rw [← hg1] at HB2 hNg1 ⊢
  clear hV1 hg10 hg1 hlt14 h5 h14 h15 hb14 HLR hdef hnr hn hb hD hsl hsb hLU hbn hbe hsz hN0 hgV0 HB14 LR1 hNg0
  rw [roundsIn_succ]
  have hgV1 : g1 < V1.heap.size := blk_lt HB2.out
  have hc13 := (blk_cell LR2.out.kf 0).trans (show _ = some (Value.func (.func 31) #[] #[.pointer (some ⟨bs, 0, none⟩)]) from rfl)
  have hc14 := (blk_cell HB2.out 0).trans (show _ = some (Value.int .i64 1) from rfl)
  have hlt13 := blk_lt LR2.out.kf
  gi_wp2
  clear hc13 hc14 hlt13
  have hN1 := LR2.out.nw
  have hbn := blk_new V1 (.cells #[.int .i64 0] 3)
  have hbe := (Below.refl V1.heap.size V1).alloc (Nat.le_refl _) (.cells #[.int .i64 0] 3)
  have hsz : (V1.alloc (.cells #[.int .i64 0] 3)).heap.size = V1.heap.size + 1 := by simp
  obtain ⟨U1, hU⟩ : ∃ U, V1.alloc (.cells #[.int .i64 0] 3) = U := ⟨_, rfl⟩
  rw [hU] at hbn hbe hsz ⊢
  clear hU
  have hLU := LR2.out.keep (hbe.mono hN1)
  have hsb := (blk_cell hLU.ks 0).trans (show _ = some (Value.string (BA s)) from rfl)
  have hsl := blk_lt hLU.ks
  refine wpIn_range_out_next (F := Fence.wide) (n := 9) rfl (by decide) (gf := 31) (lb := #[.pointer (some ⟨bs, 0, none⟩)]) rfl trivial (enters_of Tryd.func31 (by kernel_rfl) rfl)
    (linesSeq 8 bs V1.heap.size s hs U1 (by omega) (HG.out.keep hLU.below) (by omega) hsl hsb) (Below.refl _ _)
    16 (OutI V1) (OutX V1 1) (OutA V1 s) (OutJ V1 1 s)
    (fun fn hfn => ⟨fun x => rfl, fun h1 h2 => h1.trans h2, ?kb1, ?own1, ?ownx1, ?owna1, ?asg1, ?bod1⟩) ⟨by omega, hbn, hbe⟩ (fun _ _ hx hi => hi.done _ hx) (fun _ _ _ _ hx => hx.stop s) ?code1 ?next1
  case kb1 =>
    intro W k o o' hk ho hoc how
    exact belowK_b (w := U1) (by omega) W k o o' hk ho hoc how
  case own1 => rw [hsz]; exact OutI.own _
  case ownx1 => intro c; rw [hsz]; exact OutX.own _ _ _
  case owna1 => intro pre x a'; rw [hsz]; exact OutA.own _ _ _ _ _ _ _ _
  case asg1 =>
    intro pre x W K hi hx hK
    simp only [recAt, Rec.frame, LnA.enc]
    gi_wp2
    refine hK _ _ ((KeepsOthers.alloc _ _).from _) ((Below.refl _ _).alloc (by have := hi.size; omega) _) ⟨Nat.le_trans hi.size (by simp), blk_alloc hi.n _, hi.below.alloc (by have := hi.size; omega) _⟩ ⟨W.heap.size, ⟨hi.size, blk_new _ _, Kd.R_alloc hx.1 _, hx.2⟩, by simp [boxAct, LnA.enc]⟩
  case bod1 =>
    simp only [recAt, boxAx, boxAct, LnA.enc]
    rintro pre x a' W ⟨q, hq⟩ hi ⟨Bx, hax, rfl⟩ hlen
    simp [boxAct, LnA.enc]
    have HSZ := Lib.hid hsz
    clear hsz
    have HLR := Lib.hid (LR2.out.keep (hi.below.mono hN1))
    have HI := Lib.hid hi
    have HAX := Lib.hid hax
    have hk := next_at HAX.out.pre
    obtain ⟨g, A1, c1, hAg, hgl, hc0, hc1, hc2, hcl, hC⟩ := HLR.out.at hk
    have hCx := (Kd.R_reads' HAX.out.at_)
    have hx0 := (blk_cell HAX.out.blk 0).trans (show _ = some (Value.int .i64 x.1.num) from rfl)
    have hx1 := (blk_cell HAX.out.blk 1).trans (show _ = some (Value.slice x.2.1 x.1.fields.length x.2.2) from rfl)
    have hx2 := (blk_cell HAX.out.blk 2).trans (show _ = some (Value.string (BA x.1.note)) from rfl)
    have hn := (blk_cell HI.out.n 0).trans (show _ = some (Value.int .i64 (pre.length : Int)) from rfl)
    have hxl := blk_lt HAX.out.blk
    have hnl := blk_lt HI.out.n
    have hwl := blk_lt HLR.out.kw
    have hfl := (linesL_fields s hs).1 x.1 (List.mem_of_getElem? hk)
    rw [List.length_map] at hCx
    have SAME : ∀ y : Ext W, Calls Tryd.prog 20 #[.agg #[.int .i64 x.1.num, .slice x.2.1 x.1.fields.length x.2.2, .string (BA x.1.note)], .agg #[.int .i64 x.1.num, .slice A1 x.1.fields.length c1, .string (BA x.1.note)]] y.wd fun e w' => e = .returned (.bool true) ∧ Below y.wd.heap.size y.wd w' :=
      fun y => same_walk x.1 x.2.1 A1 x.2.2 c1 y.wd hfl (Kd.C_below hCx.2.2 y.below) hCx.2.1 (Kd.C_below hC y.below) hcl
    have hge : ¬ ((linesL s).length : Int) ≤ (pre.length : Int) := by omega
    have hgeN : ¬ (linesL s).length ≤ pre.length := by omega
    have hLl := (linesL_fields s hs).2
    have hpl : (pre.length : Int) < 9223372036854775807 := by omega
    have HSAME := Lib.hid SAME
    clear hC hCx SAME hk hcl hfl
    clear hi hax
    subst hAg
    have hw := (blk_cell HLR.out.kw 0).trans (show _ = some (Value.slice (some ⟨_, 0, none⟩) (linesL s).length c) from rfl)
    gi_wp2
    refine wpIn_region_ext_round (by kernel_rfl) (by kernel_rfl) (by kernel_rfl) ?_
    repeat (first | go_big_quiet_step (with_reducible exact ext_of (HSAME.out _)) | (rw [beq_self_eq_true]))
    refine wpQuiet_nil ?_
    rintro W1 ⟨y, hy⟩
    have hyb : Below W.heap.size W W1 := hy ▸ y.below
    clear hy y
    have HL1 := Lib.hid (HLR.out.keep (hyb.mono HLR.out.nw))
    have hb14 := (hyb.block _ (Nat.lt_of_lt_of_le hgV1 HI.out.below.size)).trans ((HI.out.below.block _ hgV1).trans HB2.out)
    have hb15 := (hyb.block _ hnl).trans HI.out.n
    clear hx0 hx1 hx2 hn hw hc0 hc1 hc2 hxl hwl hge hgl
    have h15 := (blk_cell hb15 0).trans (show _ = some (Value.int .i64 (pre.length : Int)) from rfl)
    have hf15 := blk_frozen hb15 0
    have h14 := (blk_cell hb14 0).trans (show _ = some (Value.int .i64 1) from rfl)
    have h3 := (blk_cell HL1.out.kl 0).trans (show _ = some (Value.int .i64 left) from rfl)
    have h13 := (blk_cell HL1.out.kf 0).trans (show _ = some (Value.func (.func 31) #[] #[.pointer (some ⟨bs, 0, none⟩)]) from rfl)
    have hlN := HL1.out.ln
    have hne1 : g1 ≠ V1.heap.size := by omega
    have hne2 : w.heap.size ≠ V1.heap.size := by omega
    have hne3 : bf ≠ V1.heap.size := by omega
    have hlt13' : bf < W1.heap.size := blk_lt HL1.out.kf
    have hy15 : V1.heap.size < W1.heap.size := Nat.lt_of_lt_of_le hnl hyb.size
    have HB15 := Lib.hid hb15
    have HB14' := Lib.hid hb14
    have HLN := Lib.hid hlN
    have hnl' := hnl
    have HFIN := Lib.hid (show OutI V1 (pre ++ [x]) (W1.setCell ⟨V1.heap.size, 0, none⟩ (.int .i64 ((pre.length : Int) + 1))) from ⟨by simp; omega, by have := blk_put hb15 0 (.int .i64 ((pre.length : Int) + 1)) rfl; simpa using this, (HI.out.below.trans (hyb.mono (Nat.le_of_lt hnl))).setCell (p := ⟨V1.heap.size, 0, none⟩) (Nat.le_refl _) _⟩)
    clear hb14 hb15 hnl hgeN hlN
    gi_wp2
    exact ⟨(keepsB hyb).trans (keepsPut _ _ _), (hyb.mono (Nat.le_of_lt hnl')).setCell (p := ⟨V1.heap.size, 0, none⟩) (Nat.le_refl _) _, HFIN.out⟩
  case code1 =>
    rintro c pre W a' ⟨rfl, _, _, _⟩ h
    first
    | (gi_step; exact h)
    | (gi_step; gi_step; exact h)
  rintro D1 W hD ⟨⟨n, hn, hnr⟩, hb⟩ hdef
  have HLR := Lib.hid (LR2.out.keep (hb.mono hN1))
  have hb14 := (hb.block _ hgV1).trans HB2.out
  have h15 := (blk_cell hn 0).trans (show _ = some (Value.int .i64 n) from rfl)
  have h14 := (blk_cell hb14 0).trans (show _ = some (Value.int .i64 1) from rfl)
  have h5 := (blk_cell HLR.out.kw 0).trans (show _ = some (Value.slice A (linesL s).length c) from rfl)
  have hlt14 := blk_lt hb14
  have hn1 := hnr rfl
  subst hn1
  gi_wp2
  have hd0 := (hb.block _ (Array.getElem?_eq_some_iff.1 HD1.out).1).trans HD1.out
  have hDD : D0 < D1 := by have := (Array.getElem?_eq_some_iff.1 HD1.out).1; omega
  have hlN := HLR.out.ln
  have hwN : w.heap.size ≤ N := by omega
  have hD1' : N ≤ D1 := by omega
  obtain ⟨V2, hV2⟩ : ∃ V, W.alloc (.cells #[.int .i64 2] 3) = V := ⟨_, rfl⟩
  have hbV := (Below.refl W.heap.size W).alloc (Nat.le_refl _) (.cells #[.int .i64 2] 3)
  have hb16 := blk_new W (.cells #[.int .i64 2] 3)
  rw [hV2] at hbV hb16 ⊢
  have LR3 := Lib.hid (HLR.out.keep (hbV.mono HLR.out.nw))
  have hd0v := (hbV.block _ (Array.getElem?_eq_some_iff.1 hd0).1).trans hd0
  have hd1v := (hbV.block _ (Array.getElem?_eq_some_iff.1 hdef).1).trans hdef
  have HD0 := Lib.hid hd0v
  have HD2 := Lib.hid hd1v
  clear hV2 hd0v hd1v hlt14 h5 h14 h15 hb14 hn hdef hd0 hsl hsb hLU hbn hbe
  rw [roundsIn_succ]
  have h16 := (blk_cell hb16 0).trans (show _ = some (Value.int .i64 2) from rfl)
  have h4 := (blk_cell LR3.out.kr 0).trans (show _ = some (Value.bool false) from rfl)
  have hf4 := blk_frozen LR3.out.kr 0
  have hltV := blk_lt hb16
  gi_wp2
  have hK1 := (KeepsOthers.setCell V2 ⟨w.heap.size + 1, 0, none⟩ (.bool true)).same D1 _ HD2.out rfl
  have hK0 := (KeepsOthers.setCell V2 ⟨w.heap.size + 1, 0, none⟩ (.bool true)).same D0 _ HD0.out rfl
  have hkr := blk_put LR3.out.kr 0 (.bool true) rfl
  have hbw := LR3.out.below.setCell (p := ⟨w.heap.size + 1, 0, none⟩) (by simp) (.bool true)
  generalize V2.setCell ⟨w.heap.size + 1, 0, none⟩ (.bool true) = V3 at *
  refine ⟨by simp, .inl ⟨_, _, rfl, run_takeDeferred hK1, ?_⟩⟩
  have hgt1 := grownBy_putObj' V3 D1 (.deferred none)
  have hr1 : ∀ q, some D1 = some q → N ≤ q ∧ ∃ o : Obj, V3.heap[q]? = some o ∧ o.isCells = false := fun q e => by cases e; exact ⟨hD1', _, hK1, rfl⟩
  have hkr1 := blk_turn (B := N) hkr hgt1 hr1
  have hbw1 := below_turn (B := N) hbw hwN (Nat.le_refl _) hgt1 hr1
  have hK0' := (hgt1.block D0 (Array.getElem?_eq_some_iff.1 hK0).1 (fun e => by have := Option.some.inj e; omega)).trans hK0
  generalize V3.putObj D1 (.deferred none) = V4 at *
  refine ⟨by simp, .inl ⟨_, _, rfl, run_takeDeferred hK0', ?_⟩⟩
  have hgt2 := grownBy_putObj' V4 D0 (.deferred none)
  have hr2 : ∀ q, some D0 = some q → N ≤ q ∧ ∃ o : Obj, V4.heap[q]? = some o ∧ o.isCells = false := fun q e => by cases e; exact ⟨hD0', _, hK0', rfl⟩
  have hkr2 := blk_turn (B := N) hkr1 hgt2 hr2
  have hbw2 := below_turn (B := N) hbw1 hwN (Nat.le_refl _) hgt2 hr2
  have g2 := (blk_cell hkr2 0).trans (show _ = some (Value.bool true) from rfl)
  refine ⟨.bool true, ?_, rfl, hbw2⟩
  simp [results, Tryd.f4, go_sem, g2]
theorem lineReads_walk' (s : ByteArray) (hs : s.size ≤ 1048576) (left : Int) (hleft : -9223372036854775808 ≤ left ∧ left ≤ 9223372036854775807) (w : World) (hG : GW w) :
    Calls Tryd.prog 4 #[.string s, .int .i64 left] w fun e w' => e = .returned (.bool true) ∧ Below w.heap.size w w' := by
  have h := lineReads_walk s.data.toList (by rw [← size_len]; exact hs) left hleft w hG
  rw [ba_of] at h
  exact h
end Go.Proofs.YthngjkaphfkmmaaDoor
/-! Frame -/
namespace Go.Proofs.YthngjkaphfkmmaaDoor
open Go.RowKit Go.WideShapes Go.ChangeShapes Go.ChangeAt
set_option linter.unusedVariables false
set_option linter.unusedSimpArgs false
section
variable {H : Type} {enc : TypeId × Value → H} {P : Program}
theorem law_below {f : Func} {s : ChangeSpec} {apart fresh handsOn again : Bool} {W W' : World} {args : Array Value} {v : Value} {ds gs : List (DataW H)} {before pa pv : List MemPlace}
    (hW : DataW.Whole enc P f.params.toList s.vars apart W args.toList ds gs before)
    (hres : ∀ (b : Nat) (sp : Nat → Bool) (hd : Bool), DataW.TrodAll enc P W' b sp hd f.resultTypes.toList (v.resultList f.resultTypes.size) (s.fn H (ds ++ gs)).results [])
    (hargs : ∀ sp : Nat → Bool, (∀ p ∈ before, sp p.block = true) → DataW.TrodAll enc P W' 0 sp true f.params.toList args.toList (s.fn H (ds ++ gs)).args pa)
    (hvars : ∀ sp : Nat → Bool, (∀ p ∈ before, sp p.block = true) → DataW.TrodVars enc P W' sp s.vars (s.fn H (ds ++ gs)).vars pv)
    (hps : before = pa ++ pv) (hb : Below W.heap.size W W')
    (hok : ∀ (j : Nat) (t : TypeId) (r : Value), f.resultTypes[j]? = some t → (v.resultList f.resultTypes.size)[j]? = some r → Value.okWide P W' .any 0 t r) :
    s.post enc P f apart fresh handsOn again W args v W' := by
  have hlt : ∀ p ∈ before, p.block < W.heap.size := fun p hp => hW.lt p hp
  have hold : ∀ p ∈ before, (fun b => decide (b < W.heap.size)) p.block = true := fun p hp => by simpa using hlt p hp
  refine ⟨ds, gs, before, [], pa, pv, hW, hres _ _ _, hargs _ hold, hvars _ hold, World.keptBut_mono (fun p hp => ⟨hp, ?_⟩) (hb.frame (· ∈ before)), fun _ => ?_⟩
  · rw [hps, List.mem_append] at hp
    exact Or.inr hp
  · obtain ⟨_, _, _, _, _, hz, hn⟩ := hW
    refine ⟨hok, _, _, ([] ++ pa) ++ pv, ⟨[] ++ pa, pv, trodAll_append (hargs _ (fun _ _ => rfl)) (hres _ _ _), hvars _ (fun _ _ => rfl), rfl, ?_, ?_⟩, ?_⟩
    · intro b off hp
      have hin : MemPlace.cell b off ∈ before := by rw [hps]; simpa using hp
      rw [hb.frozen (hlt _ hin)]
      exact hz b off hin
    · intro ha
      have := hn ha
      rw [hps] at this
      simpa using this
    · intro p hp _
      rw [hps]
      simpa using hp
/-- All arguments read as they did, where all stays that was there. -/
theorem args_stay (hl : laidOutB P = true) {W W' : World} (hB : Below W.heap.size W W') {sp : Nat → Bool} :
    ∀ (ts : List TypeId) (vs : List Value) (ds : List (DataW H)) (ps : List MemPlace), (∀ t ∈ ts, P.readableRec t = true ∧ t < P.types.size) → DataW.TrodAll enc P W 0 (fun _ => true) true ts vs ds ps →
      (∀ p ∈ ps, p.block < W.heap.size) → (∀ p ∈ ps, sp p.block = true) → DataW.TrodAll enc P W' 0 sp true ts vs ds ps
  | [], vs, ds, ps, _, h, _, _ => by
    obtain ⟨rfl, rfl, rfl⟩ := trodAll_nil h
    exact trodAll_mk0
  | t :: ts, vs, ds, ps, hr, h, hlt, hs => by
    obtain ⟨v, vs1, d, ds1, a, b, rfl, rfl, rfl, h1, h2⟩ := trodAll_cons h
    have hlt' := hlt
    exact trodAll_cons_mk (WideElems.Trod_stays hl (hr t (by simp)).1 (hr t (by simp)).2 h1 (fun x hx => hB.same (hlt x (by simp [hx]))) (fun x hx => hs x (by simp [hx])))
      (args_stay hl hB ts vs1 ds1 b (fun t ht => hr t (by simp [ht])) h2 (fun p hp => hlt p (by simp [hp])) (fun p hp => hs p (by simp [hp])))
/-- THE STEP OF A LAW's ROW. -/
theorem law_post {f : Func} {s : ChangeSpec} {tb : TypeId} {W W' : World} {args : Array Value} {ds : List (DataW H)} {before : List MemPlace} (hv : s.vars = []) (hfn : s.fn H ds = { results := [.lit (.bool true)], args := ds })
    (hres : f.resultTypes = #[tb]) (hb : P.underlying tb = some .bool) (hl : laidOutB P = true) (hr : ∀ t ∈ f.params.toList, P.readableRec t = true ∧ t < P.types.size)
    (hW : DataW.Whole enc P f.params.toList s.vars false W args.toList ds [] before) (hB : Below W.heap.size W W') : s.post enc P f false true false false W args (.bool true) W' := by
  have hW' := hW
  obtain ⟨p, q, hA, hV, hpq, hfz, hnd⟩ := hW
  have hA : DataW.TrodAll enc P W 0 (fun _ => true) true f.params.toList args.toList ds p := hA
  rw [hv] at hV
  obtain ⟨_, rfl⟩ := trodVars_none hV
  have hlt : ∀ x ∈ before, x.block < W.heap.size := fun x hx => hW'.lt x hx
  subst hpq
  refine law_below (pa := p) (pv := []) hW' ?_ ?_ ?_ (by simp) hB ?_
  · intro b sp hd
    rw [List.append_nil, hfn, hres]
    exact trodAll_cons_mk (shut_bool hb true) trodAll_mk0
  · intro sp hs
    rw [List.append_nil, hfn]
    exact args_stay hl hB _ _ _ _ hr hA (fun x hx => hlt x (by simp [hx])) (fun x hx => hs x (by simp [hx]))
  · intro sp hs
    rw [List.append_nil, hfn, hv]
    rfl
  · exact ok_one hres rfl (okWide_bool_mk hb true)
end
end Go.Proofs.YthngjkaphfkmmaaDoor
/-! LineReadsCard -/
namespace Go.Proofs.YthngjkaphfkmmaaDoor.fnLineReads
open Go.ChangeShapes Go.WideShapes Go.ChangeAt Go.RowKit Go.Proofs.YthngjkaphfkmmaaDoor
set_option linter.unusedVariables false
theorem own : ownKnob Tryd.prog.godebug = none := by kernel_rfl
theorem laidOut : laidOutB Tryd.prog = true := by kernel_rfl
theorem gw_of {W : World} (h : W.ShapedOpen Tryd.prog) (hL : laidMetH Tryd.prog Rows.lineReadsUptoRow.laid W) : GW W where
  maxLen := Tryd.laysM219.s1_3 W h
set_option maxRecDepth 100000 in
theorem contract (H : Type) (enc : TypeId × Value → H) (W : World) (base : Nat) (args : Array Value) (ds gs : List (DataW H)) (before : List MemPlace)
    (hval : ∀ (j : Nat) t v, Tryd.f4.params[j]? = some t → args[j]? = some v → Value.okWide Tryd.prog W .any base t v)
    (hW : DataW.Whole enc Tryd.prog Tryd.f4.params.toList Rows.lineReadsSpec.vars false W args.toList ds gs before) (hk : Rows.uptoSmall H (ds ++ gs) = true) (hL : laidMetH Tryd.prog Rows.lineReadsUptoRow.laid W) (hsh : W.ShapedOpen Tryd.prog) :
    Calls Tryd.prog 4 args W fun e W' => ∃ v, e = .returned v ∧ Rows.lineReadsSpec.post enc Tryd.prog Tryd.f4 false true false false W args v W' := by
  have hW' := hW
  obtain ⟨p, q, hA0, hV, rfl, hfz, hnd⟩ := hW
  have hA : DataW.TrodAll enc Tryd.prog W 0 (fun _ => true) true Tryd.f4.params.toList args.toList ds p := hA0
  rw [Tryd.params4] at hA hval
  obtain ⟨v0, vs0, d0, ds0, p0, q0, hargs, rfl, rfl, h0, r0⟩ := trodAll_cons hA
  obtain ⟨v1, vs1, d1, ds1, p1, q1, rfl, rfl, rfl, h1, r1⟩ := trodAll_cons r0
  obtain ⟨rfl, rfl, rfl⟩ := trodAll_nil r1
  obtain rfl : args = #[v0, v1] := by cases args; simp_all
  obtain ⟨rfl, rfl⟩ := trodVars_none hV
  obtain ⟨s0, rfl, rfl, rfl, y0⟩ := Go.ChangeMaps.open_string Tryd.underlying9 (hval 0 9 v0 rfl rfl) h0
  obtain ⟨s1, rfl, rfl, rfl, y1⟩ := open_int Tryd.underlying3 (hval 1 3 v1 rfl rfl) h1
  have z1 : (-9223372036854775808 : Int) ≤ s1 ∧ s1 ≤ 9223372036854775807 := by
    have h := y1
    simp only [Lit.wf, Bool.and_eq_true, decide_eq_true_eq] at h
    exact h
  clear hA0
  have hb : Rows.uptoBulkAll _ ≤ 1048576 := of_decide_eq_true hk
  simp only [Rows.uptoBulkAll, Rows.uptoBulk, List.append_nil] at hb
  have hG := gw_of hsh hL
  refine (lineReads_walk' s0 (by rw [size_len]; omega) s1 z1 W hG).mono fun e W' ⟨he, hg⟩ => ?_
  subst he
  exact ⟨_, rfl, law_post (s := Rows.lineReadsSpec) (f := Tryd.f4) rfl rfl (tb := 4) rfl Tryd.underlying4 laidOut (by rw [Tryd.params4]; intro t ht; simp at ht; rcases ht with rfl | rfl <;> exact ⟨by kernel_rfl, of_decide_eq_true (by kernel_rfl)⟩) hW' hg⟩
def accepts : List Nat := [128, 191, 160, 191, 128, 159, 144, 191, 128, 143, 0, 0, 0, 0, 0, 0, 0, 0, 0, 0, 0, 0, 0, 0, 0, 0, 0, 0, 0, 0, 0, 0]
/-- A world for the witness: the settled one, the tables holding what their initialisers lay. -/
noncomputable def laidWorld (os : Os) : World := { World.holding Tryd.prog os ⟨#[], #[], []⟩ with heap := (((World.holding Tryd.prog os ⟨#[], #[], []⟩).heap.modify 2 fun | .cells _ t frozen => .cells (accepts.map fun (z : Nat) => Value.int .u8 z).toArray t frozen | o => o).modify 1 fun | .cells _ t frozen => .cells (Go.Pinned.utf8FirstZ.map fun (z : Nat) => Value.int .u8 z).toArray t frozen | o => o) }
theorem laid_met (os : Os) : laidMet Tryd.prog Rows.lineReadsUptoRow.laid ((laidWorld os).forCall (fun _ _ => 0) ⟨#[], #[.string ByteArray.empty, .int .i64 0], []⟩).memory :=
  laidMet_of_run' 8 (by kernel_rfl) (by kernel_rfl)
theorem reads (os : Os) {H : Type} (enc : TypeId × Value → H) : ∃ places, DataW.whole enc Tryd.prog ((laidWorld os).forCall (fun _ _ => 0) ⟨#[], #[.string ByteArray.empty, .int .i64 0], []⟩).memory Tryd.f4.params.toList Rows.lineReadsSpec.vars false (#[.string ByteArray.empty, .int .i64 0] : Array Value).toList 8 = some ([.lit (.string []), .lit (.int .i64 0)], [], places) :=
  ⟨[], by kernel_rfl⟩
set_option maxRecDepth 100000 in
theorem lifted (os : Os) (started : os.Started) (H : Type) (enc : TypeId × Value → H) (F : Stop.Interp) :
    ReturnsInHanded {} Tryd.checked os 4 .any ((Rows.OpenSpec.upto Rows.lineReadsSpec).preRow enc Tryd.prog Tryd.f4 Rows.lineReadsUptoRow.domain false Rows.lineReadsUptoRow.laid) (((Rows.OpenSpec.upto Rows.lineReadsSpec).at F).post enc Tryd.prog Tryd.f4 false true false false) := by
  obtain ⟨places, hx⟩ := reads os enc
  refine returnsInHanded_of_row (C := Tryd.checked) (s := Rows.OpenSpec.upto Rows.lineReadsSpec) own started (by kernel_rfl) Tryd.func4
    (witness_row_at (enc := enc) (C := Tryd.checked) false (laidWorld os) #[.string ByteArray.empty, .int .i64 0] rfl (by kernel_rfl) (by kernel_rfl) (by kernel_rfl)
      (OpenSpec.preRow_of_cond 8 hx (by kernel_rfl) (fun k hk => by cases hk; kernel_rfl) (by kernel_rfl) (laid_met os))) ?_
  intro W base args ds gs before hval hW _ hcond _ hL hsh _
  exact contract H enc W base args ds gs before hval hW (hcond _ rfl) hL hsh
theorem said : Rows.LineReadsUptoSaid :=
  OpenClaim.holds_of_cond 4 Tryd.f4 rfl rfl rfl rfl rfl rfl rfl ⟨rfl, rfl, rfl, rfl, rfl⟩ rfl rfl rfl rfl rfl (by kernel_rfl) Tryd.func4 (by kernel_rfl)
    (of_decide_eq_true (by kernel_rfl)) (by unfold Func.isWrapper; first | (rw [if_pos (by decide +kernel)]; kernel_rfl) | (rw [if_neg (by decide +kernel)]; exact ⟨rfl, rfl⟩))
    (fun os started H enc _ F => by rw [OpenClaim.pre_eq_preRow]; exact lifted os started H enc F)
/-- No parameter wants a stand-in; the program's own looks are off. -/
theorem plain (f : FuncId) (fn : Func) (hf : Tryd.pinned.checked.prog.funcNamed "postern/posternlaw09.LineReads" = some f) (hfn : Tryd.pinned.checked.prog.funcs[f]? = some fn) :
    false = Tryd.pinned.checked.prog.looks [] ∧ ∀ (j : Nat) t, fn.params[j]? = some t → Tryd.pinned.checked.prog.wantsStandIn t = false := by
  obtain rfl : f = 4 := Option.some.inj ((show Tryd.prog.funcNamed "postern/posternlaw09.LineReads" = some 4 by kernel_rfl).symm.trans hf) |>.symm
  obtain rfl : fn = Tryd.f4 := (Option.some.inj (Tryd.func4.symm.trans hfn)).symm
  refine ⟨by kernel_rfl, fun j t ht => ?_⟩
  rw [Tryd.params4] at ht
  have hm := Array.mem_of_getElem? ht
  simp at hm
  rcases hm with rfl | rfl
  · exact (show Tryd.prog.wantsStandIn 9 = false by kernel_rfl)
  · exact (show Tryd.prog.wantsStandIn 3 = false by kernel_rfl)
theorem card : Rows.LineReadsUptoCardSaid :=
  Claim7.holds_tied_plain_at .later [] _ _ _ _ said (fun _ h => by cases h) (by kernel_rfl) (fun _ h => by cases h) lineReadsUpto_row_tie rfl ⟨rfl, rfl⟩ (by kernel_rfl) rfl plain (by kernel_rfl)
#print axioms card
end Go.Proofs.YthngjkaphfkmmaaDoor.fnLineReads
