/- Plain laws on lists of bytes: a text cut at each byte of one kind; digits. No program in sight. -/
import Derived.Lib.SplitLaws
import Derived.Lib.IndexMore
import Derived.Lib.SlTrimSet
import Derived.IntWalk
import Derived.Test.YtgnahagnmodpdaaDoorWWords
namespace Go.Proofs.YtgnahagnmodpdaaDoor
open Go.RowKit Go.Proofs.YtgnahagnmodpdaaDoorW.PrintWords
set_option linter.unusedVariables false
set_option linter.unusedSimpArgs false

/-- A list of bytes as a text. -/
def BA (l : List UInt8) : ByteArray := ⟨l.toArray⟩
theorem ba_list (l : List UInt8) : (BA l).data.toList = l := rfl
theorem ba_of (s : ByteArray) : BA s.data.toList = s := Lib.mk_data s
theorem ba_size (l : List UInt8) : (BA l).size = l.length := rfl
theorem ba_ext {a b : ByteArray} (h : a.data.toList = b.data.toList) : a = b := by rw [← ba_of a, ← ba_of b, h]
theorem extract_ba (s : ByteArray) (a b : Nat) : s.extract a b = BA ((s.data.toList.drop a).take (b - a)) := ba_ext (Lib.extract_data s a b)
theorem extract_tail (s : ByteArray) (a : Nat) : s.extract a s.size = BA (s.data.toList.drop a) := ba_ext (Lib.extract_to_end s a)
theorem extract_head (s : ByteArray) (a : Nat) : s.extract 0 a = BA (s.data.toList.take a) := by rw [extract_ba]; simp
theorem toList_data (s : ByteArray) : s.toList = s.data.toList := ByteArray.toList_eq s
theorem bt_get (s : ByteArray) (k : Nat) (h : k < s.data.toList.length) : bt s (k : Int) = ((s.data.toList[k]'h).toNat : Int) := by
  have hk : k < s.size := by rw [Lib.size_eq]; exact h
  have := bt_at s (k : Int) (by simpa using hk)
  rw [← this]
  rfl
theorem size_len (s : ByteArray) : s.size = s.data.toList.length := Lib.size_eq s
theorem byte_eq (a b : UInt8) : ((a.toNat : Int) = (b.toNat : Int)) ↔ a = b := by
  rw [Int.natCast_inj]
  exact UInt8.toNat_inj

/-- A list cut at each byte c. -/
def splitC (c : UInt8) : List UInt8 → List (List UInt8)
  | [] => [[]]
  | b :: l => if b = c then [] :: splitC c l else
    match splitC c l with
    | [] => [[b]]
    | p :: ps => (b :: p) :: ps
/-- p ahead of the first piece. -/
def ahead1 (p : List UInt8) : List (List UInt8) → List (List UInt8)
  | [] => [p]
  | q :: qs => (p ++ q) :: qs
theorem splitC_ne (c : UInt8) (l : List UInt8) : splitC c l ≠ [] := by
  cases l with
  | nil => simp [splitC]
  | cons b l =>
    unfold splitC
    split
    · simp
    · split <;> simp
theorem splitC_eq (c : UInt8) (l : List UInt8) : splitC c (c :: l) = [] :: splitC c l := by rw [splitC, if_pos rfl]
theorem splitC_cons {c b : UInt8} (h : b ≠ c) (l : List UInt8) : splitC c (b :: l) = ahead1 [b] (splitC c l) := by
  rw [splitC, if_neg h]
  cases splitC c l <;> rfl
theorem ahead1_nil {L : List (List UInt8)} (h : L ≠ []) : ahead1 [] L = L := by cases L with
  | nil => exact absurd rfl h
  | cons p ps => rfl
theorem ahead1_ahead1 (p q : List UInt8) (L : List (List UInt8)) : ahead1 p (ahead1 q L) = ahead1 (p ++ q) L := by cases L <;> simp [ahead1]
theorem splitC_len (c : UInt8) (l : List UInt8) : (splitC c l).length ≤ l.length + 1 := by
  induction l with
  | nil => simp [splitC]
  | cons b l ih =>
    unfold splitC
    split
    · simp; omega
    · split
      · simp
      · rename_i h; rw [h] at ih; simp at *; omega
theorem split_one (c : UInt8) : ∀ l : List UInt8, Lib.split l [c] = splitC c l
  | [] => by simp [Lib.split, Lib.count_one, Lib.splitK, splitC]
  | b :: l => by
    have ih := split_one c l
    unfold Lib.split at *
    by_cases h : b = c
    · subst h
      rw [Lib.count_cons_eq, Nat.add_comm, Lib.splitK, splitC_eq, ← ih]
      have : Lib.index (b :: l) [b] = 0 := by rw [Lib.index]; simp [List.isPrefixOf]
      rw [this]
      simp
    · rw [Lib.count_cons_ne b c l h, splitC_cons h, ← ih]
      have hix : Lib.index (b :: l) [c] = if Lib.index l [c] == -1 then -1 else Lib.index l [c] + 1 := by
        rw [Lib.index]
        simp [List.isPrefixOf, Ne.symm h]
      generalize hk : Lib.count l [c] = k
      cases k with
      | zero => rfl
      | succ k =>
        rw [Lib.splitK, Lib.splitK, hix]
        have hge := Lib.index_ge l [c]
        by_cases hm : Lib.index l [c] = -1
        · simp [hm, ahead1]
        · rw [if_neg (by simp; omega), if_neg (by simpa using hm), if_neg (by simpa using hm)]
          have e : (Lib.index l [c] + 1).toNat = (Lib.index l [c]).toNat + 1 := by omega
          rw [e]
          simp [ahead1]
/-- The library's split at one byte. -/
theorem splitB_one (s : ByteArray) (c : UInt8) : Lib.splitB (BA [c]) 0 (Lib.countB s (BA [c])) s = (splitC c s.data.toList).map BA := by
  have h : (Lib.splitB (BA [c]) 0 (Lib.countB s (BA [c])) s).map (fun x => x.data.toList) = Lib.split s.data.toList [c] := Lib.splitB_data (BA [c]) 0 (Lib.countB s (BA [c])) s
  rw [← split_one, ← h, List.map_map]
  rw [show (BA ∘ fun x => x.data.toList) = id from funext fun x => ba_of x, List.map_id]

theorem rd_map (L : List (List UInt8)) (i : Nat) (hi : i < L.length) : rdOf ByteArray.empty (L.map BA) (i : Int) = BA L[i] := by
  unfold rdOf
  rw [Int.toNat_natCast, List.getD_eq_getElem?_getD, List.getElem?_map, List.getElem?_eq_getElem hi]
  rfl
theorem splitC_part (c : UInt8) (l : List UInt8) : ∀ w ∈ splitC c l, w.length ≤ l.length := by
  induction l with
  | nil => intro w hw; simp [splitC] at hw; simp [hw]
  | cons b l ih =>
    intro w hw
    by_cases hb : b = c
    · subst hb
      rw [splitC_eq] at hw
      rcases List.mem_cons.1 hw with rfl | hw
      · simp
      · have := ih w hw; simp; omega
    · rw [splitC_cons hb] at hw
      cases hL : splitC c l with
      | nil => exact absurd hL (splitC_ne c l)
      | cons p ps =>
        rw [hL] at hw ih
        simp only [ahead1] at hw
        rcases List.mem_cons.1 hw with rfl | hw
        · have := ih p (by simp); simp at *; omega
        · have := ih w (by simp [hw]); simp; omega
end Go.Proofs.YtgnahagnmodpdaaDoor
