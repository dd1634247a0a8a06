/- The library's functions on strings, told as plain functions: IndexByte, Cut, Split, Trim at an ASCII cutset. -/
import Derived.Test.YtgnahagnmodpdaaDoorWWords
import Derived.Test.YtgnahagnmodpdaaDoorShelf
import Derived.Shelf.Strings.SlTrimAscii
import Derived.Lib.OwnBridge
import Derived.Lib.AppendIntMem
import Derived.Lib.TrailingZeros
import Derived.WalkLawsBesides
namespace Go.Proofs.YtgnahagnmodpdaaDoor
open Go.RowKit Go.Proofs.YtgnahagnmodpdaaDoorW.PrintWords
set_option linter.unusedVariables false
set_option linter.unusedSimpArgs false

/-- What is asked of the library's variables: bytealg.MaxLen is a number. -/
structure GW (w : World) : Prop where
  maxLen : ∃ m : Int, w.cell? ⟨1, 0, none⟩ = some (.int .i64 m)
  pow10 : Lib.TabIs Tryd.prog w "internal/strconv.uint64pow10" .u64 Lib.pow10Tab
  tz : Lib.TabIs Tryd.prog w "math/bits.deBruijn64tab" .u8 (Lib.deBruijn64tab.map fun n : Nat => (n : Int))
theorem maxLen_keep {w w' : World} (h : ∃ m : Int, w.cell? ⟨1, 0, none⟩ = some (.int .i64 m)) (hb : Below w.heap.size w w') : ∃ m : Int, w'.cell? ⟨1, 0, none⟩ = some (.int .i64 m) := by
  obtain ⟨m, hm⟩ := h
  refine ⟨m, ?_⟩
  rw [hb.cell (p := ⟨1, 0, none⟩) (World.block_lt_of_cell? w _ hm)]
  exact hm
theorem tab_keep {w w' : World} {name : String} {k : IntKind} {l : List Int} (h : Lib.TabIs Tryd.prog w name k l) (hb : Below w.heap.size w w') : Lib.TabIs Tryd.prog w' name k l := Lib.tabBelow_of_tabIs h w' hb
theorem GW.keep {w w' : World} (h : GW w) (hb : Below w.heap.size w w') : GW w' where
  maxLen := maxLen_keep h.maxLen hb
  pow10 := tab_keep h.pow10 hb
  tz := tab_keep h.tz hb

def strings_IndexByte.f (a0 : ByteArray) (a1 : Int) : Option Int := some (Lib.indexByte a0.data.toList a1.toNat.toUInt8)
theorem strings_IndexByte.calls (a0 : ByteArray) (a1 : Int) (r : Int) (w : World) (h : strings_IndexByte.f a0 a1 = some r) :
    Calls Tryd.prog 75 #[.string a0, .int .u8 a1] w fun e w' => e = .returned (.int .i64 r) ∧ Drawn0 w w' := by
  obtain rfl := Option.some.inj h
  refine (Tryd.strings_IndexByte a0 a1 w).mono ?_
  rintro e w' ⟨rfl, rfl⟩
  exact ⟨rfl, Drawn0.refl _⟩

def strings_Cut.f (a0 a1 : ByteArray) : Option (ByteArray × ByteArray × Bool) :=
  if a0.size < 4294967281 then some (⟨(Lib.cut a0.data.toList a1.data.toList).1.toArray⟩, ⟨(Lib.cut a0.data.toList a1.data.toList).2.1.toArray⟩, (Lib.cut a0.data.toList a1.data.toList).2.2) else none
theorem strings_Cut.calls (a0 a1 : ByteArray) (r1 r2 : ByteArray) (r3 : Bool) (w : World) (hG : GW w) (h : strings_Cut.f a0 a1 = some (r1, r2, r3)) :
    Calls Tryd.prog 50 #[.string a0, .string a1] w fun e w' => e = .returned (.tuple #[.string r1, .string r2, .bool r3]) ∧ Drawn0 w w' := by
  unfold strings_Cut.f at h
  by_cases hs : a0.size < 4294967281
  · rw [if_pos hs] at h
    injection h with h
    injection h with h1 h2
    injection h2 with h2 h3
    subst h1 h2 h3
    obtain ⟨m, hm⟩ := hG.maxLen
    refine (Tryd.strings_Cut a0 a1 m w hs hm).mono ?_
    rintro e w' ⟨rfl, hw⟩
    exact ⟨rfl, ⟨hw⟩⟩
  · rw [if_neg hs] at h
    cases h

/-- A row of strings of the call's own. -/
theorem kd_strings {w : World} {base : Nat} {e : TypeId} {v : Value} {n : Nat} {xs : List ByteArray} (h : w.ownsRow base e 1 v n (xs.map Value.string)) : Kd.R Kd.string e w base (fun _ => True) v xs := by
  have hn : n = xs.length := by simpa using h.1.symm
  subst hn
  refine ⟨fun _ _ => trivial, xs.map Value.string, h, by show (xs.map Value.string).length = xs.length * 1; simp, fun j p hj => ?_⟩
  show ((xs.map Value.string).drop (j * 1)).take 1 = [Value.string p]
  have hj' : j < xs.length := by
    rcases Nat.lt_or_ge j xs.length with h | h
    · exact h
    · rw [List.getElem?_eq_none h] at hj; cases hj
  rw [List.getElem?_eq_getElem hj'] at hj
  obtain rfl := Option.some.inj hj
  rw [Nat.mul_one, List.drop_eq_getElem_cons (by simpa using hj')]
  simp
/-- A block that was just made, whole. -/
theorem own_made (w : World) (base : Nat) (e : TypeId) (cs : List Value) (h : cs.length ≤ maxLen) (hb : base ≤ w.heap.size) : (w.alloc (.cells cs.toArray e)).ownsRow base e 1 (.slice (some ⟨w.heap.size, 0, none⟩) cs.length cs.length) cs.length cs :=
  ⟨by simp, .inr ⟨w.heap.size, cs.length, cs.toArray, rfl, hb, by simpa using heap_alloc_new w _, Nat.le_refl _, h, by simp, by simp⟩⟩

def strings_Split.f (a0 a1 : ByteArray) : Option (List ByteArray) :=
  if a0.size < 4294967281 ∧ 1 ≤ a1.size then some (Lib.splitB a1 0 (Lib.countB a0 a1) a0) else none
theorem strings_Split.calls (a0 a1 : ByteArray) (r : List ByteArray) (w : World) (hG : GW w) (h : strings_Split.f a0 a1 = some r) :
    Calls Tryd.prog 65 #[.string a0, .string a1] w fun e w' => ∃ v0_ : Value, e = .returned v0_ ∧ Kd.R Kd.string 9 w' w.heap.size (fun _ => True) v0_ r ∧ Below w.heap.size w w' := by
  unfold strings_Split.f at h
  by_cases hs : a0.size < 4294967281 ∧ 1 ≤ a1.size
  · rw [if_pos hs] at h
    obtain rfl := Option.some.inj h
    obtain ⟨m, hm⟩ := hG.maxLen
    refine (Tryd.strings_Split a0 a1 m w hs.1 hm hs.2).mono ?_
    rintro e w' ⟨rfl, rfl⟩
    have hl := Lib.splitB_all a1 hs.2 0 _ a0 rfl
    have hc := Lib.countB_le a1 hs.2 _ a0 (Nat.le_refl _)
    refine ⟨_, rfl, kd_strings (n := Lib.countB a0 a1 + 1) ?_, (Below.refl _ _).alloc (Nat.le_refl _) _⟩
    have := own_made w w.heap.size 9 ((Lib.splitB a1 0 (Lib.countB a0 a1) a0).map Value.string) (by rw [List.length_map, hl]; unfold maxLen; omega) (Nat.le_refl _)
    rw [List.length_map, hl] at this
    exact this
  · rw [if_neg hs] at h
    cases h

def strings_Trim.f (a0 a1 : ByteArray) : Option ByteArray :=
  if a0.size ≤ 9223372036854775807 ∧ a1.size < 4294967281 ∧ a1.data.toList.all (fun b => decide (b.toNat < 128)) = true then some ⟨(Lib.trimS a0.data.toList a1.data.toList).toArray⟩ else none
theorem strings_Trim.calls (a0 a1 : ByteArray) (r : ByteArray) (w : World) (h : strings_Trim.f a0 a1 = some r) :
    Calls Tryd.prog 42 #[.string a0, .string a1] w fun e w' => e = .returned (.string r) ∧ Below w.heap.size w w' := by
  unfold strings_Trim.f at h
  by_cases hs : a0.size ≤ 9223372036854775807 ∧ a1.size < 4294967281 ∧ a1.data.toList.all (fun b => decide (b.toNat < 128)) = true
  · rw [if_pos hs] at h
    obtain rfl := Option.some.inj h
    exact Any.strings_Trim_laid Tryd.lays160 (by kernel_rfl) a0 a1 w hs.1 hs.2.1 (ascii_of_all hs.2.2)
  · rw [if_neg hs] at h
    cases h
end Go.Proofs.YtgnahagnmodpdaaDoor
