/- Several texts in one (wip/gen/pack.py): SixPfxV WWords Shelf Oct Bytes DigL SixNV Arr WLast WApart WFoot WKept WShare WN WRepsOne WInv WMore X0 Num Given Str X1 SixStrict SixNT SixNP Ext SixV. -/
import Derived.Lib.AtoiAll
import Derived.Lib.ItoaNum
import Derived.ArgAppend
import Derived.Below
import Derived.BigQuiet
import Derived.Deep.AppendLies
import Derived.Deep.CutBlock
import Derived.Deep.DeepCutAuto
import Derived.Deep.Draws
import Derived.Deep.LoopGhost
import Derived.Deep.OwnRows
import Derived.Deep.QuietTactic
import Derived.Deep.RegionHeld3
import Derived.KernelRfl
import Derived.Laws.BytesArg
import Derived.Laws.IdiomCopy
import Derived.Laws.MakeOwn
import Derived.Laws.OwnMore
import Derived.Laws.Rows
import Derived.Laws.Slices
import Derived.Lib.AppendStr
import Derived.Lib.ConvBytes
import Derived.Maps.AppendAt
import Derived.OwnWalk
import Derived.RowKit
import Derived.RowKit3
import Derived.Tactics
import Derived.WalkKit
import Derived.WideLaws
import Derived.Shelf.Bits.Mul64
import Derived.Shelf.LaysC
import Derived.Shelf.LaysM
import Derived.Shelf.Small.Bits
import Derived.Shelf.Small.Strs
import Derived.Shelf.Strconv.Atoi
import Derived.Shelf.Strconv.AtoiAll
import Derived.Shelf.Strconv.AtoiErrFast
import Derived.Shelf.Strconv.AtoiFail
import Derived.Shelf.Strconv.AtoiInnerAll
import Derived.Shelf.Strconv.AtoiLong
import Derived.Shelf.Strconv.Clone
import Derived.Shelf.Strconv.Itoa0
import Derived.Shelf.Strconv.Itoa1
import Derived.Shelf.Strconv.Itoa2
import Derived.Shelf.Strconv.Itoa3
import Derived.Shelf.Strconv.Lower
import Derived.Shelf.Strconv.ParseInt10
import Derived.Shelf.Strconv.ParseIntEmpty
import Derived.Shelf.Strconv.ParseUint10
import Derived.Shelf.Strconv.ParseUint10Any
import Derived.Shelf.Strconv.ParseUint10Empty
import Derived.Shelf.Strconv.RangeError
import Derived.Shelf.Strconv.SyntaxError
import Derived.Shelf.Strconv.ToError
import Derived.Shelf.Strconv.ToErrorRange
import Derived.Shelf.Strings.Builder1
import Derived.Shelf.Strings.BuilderF
import Derived.Shelf.Strings.Count
import Derived.Shelf.Strings.Cut
import Derived.Shelf.Strings.LastIndex
import Derived.Shelf.Strings.RuneCount
import Derived.Shelf.Strings.Search1
import Derived.Shelf.Strings.Search2
import Derived.Shelf.Strings.Search3
import Derived.Shelf.Strings.Shaped
import Derived.Shelf.Strings.Split
import Derived.Shelf.Strings.SplitShaped
import Derived.Shelf.Unicode.DecodeSlow
import Derived.Test.YtcgdjnmfeibnoaaGreatDoorProg
import Derived.WalkLawsBesides
import Derived.WalkSpells
import Derived.IntWalk
import Derived.Lib.IndexMore
import Derived.Lib.SlTrimSet
import Derived.Lib.SplitLaws
import Derived.Handy
import Derived.ProofKit
import Derived.Laws.BitsLemmas
import Derived.OrdersHeld
import Derived.Laws.StructEq
import Derived.Laws.Externs
import Derived.Outline
import Derived.Lib.AppendIntMem
import Derived.Lib.OwnBridge
import Derived.Lib.TrailingZeros
import Derived.Shelf.RegionOpenPlain
import Derived.Shelf.Strings.SlTrimAscii
import Derived.Laws.BitsAllLaws
import Derived.Test.YtcgdjnmfeibnoaaGreatDoorRows
import Derived.ChangeKeysEq
/-! SixPfxV -/
namespace Go.Proofs.YtcgdjnmfeibnoaaGreatDoor
set_option linter.unusedVariables false
set_option linter.unusedSimpArgs false
/-- The document's: one to three digits, no nought ahead. -/
def digR (t : List UInt8) : Option Nat :=
  if 1 ≤ t.length ∧ t.length ≤ 3 ∧ (t.head? ≠ some 48 ∨ t.length = 1) ∧ t.all (fun c => decide (48 ≤ c.toNat ∧ c.toNat ≤ 57)) = true then some (t.foldl (fun n c => 10 * n + (c.toNat - 48)) 0) else none
theorem dg_cast {c : UInt8} (h : 48 ≤ c.toNat ∧ c.toNat ≤ 57) : ∃ a : Fin 10, c = UInt8.ofNat (48 + a.val) ∧ c.toNat = 48 + a.val := by
  refine ⟨⟨c.toNat - 48, by omega⟩, ?_, ?_⟩
  · have : 48 + (c.toNat - 48) = c.toNat := by omega
    simp only [this]
    exact (UInt8.ofNat_toNat).symm
  · simp only []
    omega
set_option maxRecDepth 100000 in
theorem dig1 : ∀ a : Fin 10, Lib.itoa ((a.val : Nat) : Int) = [UInt8.ofNat (48 + a.val)] := by decide +kernel
set_option maxRecDepth 100000 in
theorem dig2 : ∀ a b : Fin 10, a.val ≠ 0 → Lib.itoa ((10 * a.val + b.val : Nat) : Int) = [UInt8.ofNat (48 + a.val), UInt8.ofNat (48 + b.val)] := by decide +kernel
set_option maxRecDepth 100000 in
theorem dig3 : ∀ a b c : Fin 10, a.val ≠ 0 → Lib.itoa ((10 * (10 * a.val + b.val) + c.val : Nat) : Int) = [UInt8.ofNat (48 + a.val), UInt8.ofNat (48 + b.val), UInt8.ofNat (48 + c.val)] := by decide +kernel
theorem digR_some {t : List UInt8} {n : Nat} (h : digR t = some n) : n < 1000 ∧ Lib.itoa (n : Int) = t := by
  unfold digR at h
  split at h
  · rename_i hc
    obtain ⟨h1, h2, h3, h4⟩ := hc
    have e := Option.some.inj h
    match t, h1, h2, h3, h4 with
    | [c], _, _, _, h4 =>
      simp at h4
      obtain ⟨a, ea, na⟩ := dg_cast h4
      simp only [List.foldl_cons, List.foldl_nil, na] at e
      have := dig1 a
      have := a.isLt
      obtain rfl : n = a.val := by omega
      exact ⟨by omega, by rw [dig1 a, ← ea]⟩
    | [c, d], _, _, h3, h4 =>
      simp at h3 h4
      obtain ⟨a, ea, na⟩ := dg_cast h4.1
      obtain ⟨b, eb, nb⟩ := dg_cast h4.2
      simp only [List.foldl_cons, List.foldl_nil, na, nb] at e
      have ha : a.val ≠ 0 := by
        intro h0
        apply h3
        rw [ea, h0]
        rfl
      have := a.isLt
      have := b.isLt
      obtain rfl : n = 10 * a.val + b.val := by omega
      exact ⟨by omega, by rw [dig2 a b ha, ← ea, ← eb]⟩
    | [c, d, f], _, _, h3, h4 =>
      simp at h3 h4
      obtain ⟨a, ea, na⟩ := dg_cast h4.1
      obtain ⟨b, eb, nb⟩ := dg_cast h4.2.1
      obtain ⟨g, eg, ng⟩ := dg_cast h4.2.2
      simp only [List.foldl_cons, List.foldl_nil, na, nb, ng] at e
      have ha : a.val ≠ 0 := by
        intro h0
        apply h3
        rw [ea, h0]
        rfl
      have := a.isLt
      have := b.isLt
      have := g.isLt
      obtain rfl : n = 10 * (10 * a.val + b.val) + g.val := by omega
      exact ⟨by omega, by rw [dig3 a b g ha, ← ea, ← eb, ← eg]⟩
  · cases h
set_option maxRecDepth 100000 in
theorem atoi_small : ∀ n : Fin 1000, Lib.atoiAll (Lib.itoa ((n.val : Nat) : Int)) = .ok ((n.val : Nat) : Int) := by decide +kernel
set_option maxRecDepth 100000 in
theorem digR_small : ∀ n : Fin 1000, digR (Lib.itoa ((n.val : Nat) : Int)) = some n.val := by decide +kernel
/-- What both take: the number, from 0 to 128. -/
def bitsP (t : List UInt8) : Option Nat := match digR t with
  | some n => if n ≤ 128 then some n else none
  | none => none
theorem bits_some {t : List UInt8} {n : Nat} (h : bitsP t = some n) : n ≤ 128 ∧ digR t = some n ∧ Lib.atoiAll t = .ok (n : Int) ∧ Lib.itoa (n : Int) = t := by
  unfold bitsP at h
  cases hd : digR t with
  | none => rw [hd] at h; cases h
  | some m =>
    rw [hd] at h
    simp only [] at h
    split at h
    · obtain rfl := Option.some.inj h
      obtain ⟨h1, h2⟩ := digR_some hd
      refine ⟨by assumption, rfl, ?_, h2⟩
      have := atoi_small ⟨m, h1⟩
      simp only [] at this
      rwa [h2] at this
    · cases h
/-- Where there is none: the program's test falls too. -/
theorem bits_none {t : List UInt8} (h : bitsP t = none) {v : Int} (ha : Lib.atoiAll t = .ok v) (hi : Lib.itoa v = t) : ¬ (0 ≤ v ∧ v ≤ 128) := by
  intro hv
  have hs := digR_small ⟨v.toNat, by omega⟩
  simp only [] at hs
  rw [show ((v.toNat : Nat) : Int) = v by omega, hi] at hs
  unfold bitsP at h
  rw [hs] at h
  simp only [] at h
  rw [if_pos (by omega)] at h
  cases h
theorem bits_noneR {t : List UInt8} (h : bitsP t = none) {n : Nat} (hd : digR t = some n) : ¬ n ≤ 128 := by
  intro hn
  unfold bitsP at h
  rw [hd] at h
  simp only [] at h
  rw [if_pos hn] at h
  cases h
end Go.Proofs.YtcgdjnmfeibnoaaGreatDoor
/-! WWords -/
set_option linter.unusedVariables false
set_option linter.unusedSimpArgs false
namespace Go.Proofs.YtcgdjnmfeibnoaaGreatDoorW.PrintWords
open Go.RowKit
/-- A fact that the walk's simp doesn't look into. -/
structure Aside0 (p : Prop) : Prop where mk :: (out : p)
/-- The world is the old one, some orders having been drawn. -/
structure Drawn0 (w w' : World) : Prop where mk :: (out : ∃ n, w' = w.drewN n)
theorem Drawn0.refl (w : World) : Drawn0 w w := ⟨⟨0, rfl⟩⟩
theorem Drawn0.step {w w' : World} (h : Drawn0 w w') (n : Nat) : Drawn0 w (w'.drewN n) := by
  obtain ⟨m, rfl⟩ := h
  exact ⟨⟨m + n, World.drewN_drewN ..⟩⟩
theorem Drawn0.grown {w w' : World} (h : Drawn0 w w') : Grown w w' := by
  obtain ⟨n, rfl⟩ := h
  induction n with
  | zero => exact Grown.refl _
  | succ n ih => rw [← World.drew_drewN]; exact Grown.drew ih
theorem Drawn0.below {w w' : World} (h : Drawn0 w w') : Below w.heap.size w w' := by
  obtain ⟨n, rfl⟩ := h
  induction n with
  | zero => exact Below.refl _ _
  | succ n ih => rw [← World.drew_drewN]; exact ih.drew
def rd (xs : List Int) (i : Int) : Int := xs.getD i.toNat 0
def bt (s : ByteArray) (i : Int) : Int := if h : i.toNat < s.size then ((s[i.toNat]'h).toNat : Int) else 0
theorem bt_at (s : ByteArray) (i : Int) : ∀ h : i.toNat < s.size, ((s[i.toNat]'h).toNat : Int) = bt s i := fun h => by simp [bt, h]
def nums (k : IntKind) (xs : List Int) : List Value := xs.map fun x => .int k x
theorem below_alloc {w W : World} (h : Below w.heap.size w W) (o : Obj) : Below w.heap.size w (W.alloc o) := h.alloc h.size o
theorem below_drew {B : Nat} {w W : World} (h : Below B w W) : Below B w W.drew := ⟨h.os, h.tape, h.output, h.size, h.block⟩
theorem pw_below_drewN {B : Nat} {w W : World} (h : Below B w W) (n : Nat) : Below B w (W.drewN n) := ⟨h.os, h.tape, h.output, h.size, h.block⟩
theorem below_then {B : Nat} {w w1 w2 : World} (h : Below B w w1) (hB : B ≤ w1.heap.size) (k : Below w1.heap.size w1 w2) : Below B w w2 :=
  h.trans ⟨k.os, k.tape, k.output, k.size, fun i hi => k.block i (Nat.lt_of_lt_of_le hi hB)⟩
theorem grown_of_below {w w1 : World} (h : Below w.heap.size w w1) (row : Option Nat) : w.grownBy w1 row := ⟨h.os, h.tape, h.output, h.size, fun i hi _ => h.block i hi⟩
theorem pw_cell_below {w w1 : World} (h : Below w.heap.size w w1) {a : Addr} {v : Value} (hc : w.cell? a = some v) : w1.cell? a = some v := (h.cell (World.block_lt_of_cell? w a hc)).trans hc
def ReadsInt (w : World) (k : IntKind) (A : Option Addr) (n : Nat) (xs : List Int) : Prop :=
  xs.length = n ∧ n ≤ 9223372036854775807 ∧ (0 < n → ∃ ad, A = some ad ∧ ∀ j, j < n → w.cell? (ad.add j) = some (.int k (xs.getD j 0)))
theorem ReadsInt.at_ {w : World} {k : IntKind} {A : Option Addr} {n : Nat} {xs : List Int} (h : ReadsInt w k A n xs) (i : Int) (h0 : 0 ≤ i) (h1 : i < n) : ∃ ad, A = some ad ∧ w.cell? (ad.add i.toNat) = some (.int k (rd xs i)) := by
  obtain ⟨ad, e, hc⟩ := h.2.2 (by omega)
  exact ⟨ad, e, hc _ (by omega)⟩
theorem ReadsInt.below {w w1 : World} {k : IntKind} {A : Option Addr} {n : Nat} {xs : List Int} (h : ReadsInt w k A n xs) (hb : Below w.heap.size w w1) : ReadsInt w1 k A n xs :=
  ⟨h.1, h.2.1, fun hn => by
    obtain ⟨ad, e, hc⟩ := h.2.2 hn
    exact ⟨ad, e, fun j hj => pw_cell_below hb (hc j hj)⟩⟩
theorem own_nil (W : World) (base : Nat) (e : TypeId) (size : Nat) : W.ownsRow base e size (.slice none 0 0) 0 [] := ⟨by simp, .inl ⟨rfl, rfl⟩⟩
theorem own_base {w : World} {base : Nat} {e : TypeId} {size n : Nat} {v : Value} {xs : List Value} (h : w.ownsRow base e size v n xs) (k : Nat) (hk : v.ownBlock = some k) : base ≤ k := by
  rcases h.2 with ⟨rfl, _⟩ | ⟨g, cap, cur, rfl, hb, _⟩
  · simp [Value.ownBlock] at hk
  · have : g = k := by simpa [Value.ownBlock] using hk
    omega
theorem own_lt {w : World} {base : Nat} {e : TypeId} {size n : Nat} {v : Value} {xs : List Value} (h : w.ownsRow base e size v n xs) (k : Nat) (hk : v.ownBlock = some k) : k < w.heap.size := by
  rcases h.2 with ⟨rfl, _⟩ | ⟨g, cap, cur, rfl, hb, hh, _⟩
  · simp [Value.ownBlock] at hk
  · have : g = k := by simpa [Value.ownBlock] using hk
    subst this
    exact (Array.getElem?_eq_some_iff.1 hh).1
theorem pw_own_below {w w1 : World} {base : Nat} {e : TypeId} {size n : Nat} {v : Value} {xs : List Value} (h : w.ownsRow base e size v n xs) (hb : Below w.heap.size w w1) : w1.ownsRow base e size v n xs :=
  h.kept (grown_of_below hb none) (by cases v.ownBlock <;> simp)
/-- The shape of whatever is owned. -/
theorem own_slice {w : World} {base n : Nat} {e : TypeId} {size : Nat} {v : Value} {xs : List Value} (h : w.ownsRow base e size v n xs) : ∃ A c, v = .slice A n c := by
  rcases h.2 with ⟨rfl, rfl⟩ | ⟨g, cap, cur, rfl, _⟩
  · exact ⟨none, 0, rfl⟩
  · exact ⟨_, cap, rfl⟩
section
variable {P : Program} {ops : Array Oper} {rest : List Oper} {o : Oper} {a : Act} {Q : Exit → Act → World → Prop}
end
section
variable {P : Program}
end
theorem own_made (W : World) (base : Nat) (e : TypeId) (k : IntKind) (m : Nat) (hb : base ≤ W.heap.size) (hm : m ≤ 9223372036854775807) :
    (W.alloc (.cells (madeCells #[.int k 0] m) e)).ownsRow base e 1 (.slice (some ⟨W.heap.size, 0, none⟩) m m) m (nums k (List.replicate m 0)) := by
  have h := World.ownsRow_lit (base := base) (e := e) (size := 1) W (madeCells #[.int k 0] m) m hb (by simpa [maxLen] using hm) (by simp [size_madeCells])
  have hl : (madeCells #[Value.int k 0] m).toList = nums k (List.replicate m 0) := by
    apply List.ext_getElem
    · simp [nums, madeCells]
    · intro i h1 h2
      simp [nums, madeCells, Nat.mod_one]
  rwa [hl] at h
section
variable {P : Program} {ops : Array Oper} {rest : List Oper} {o : Oper} {a : Act} {Q : Exit → Act → World → Prop}
end
theorem bytes_below {B : Nat} {w W : World} (h : Below B w W) (hB : B ≤ W.heap.size) (e : TypeId) (s : ByteArray) : Below B w (Lib.bytesWorld W e s) :=
  h.trans ⟨rfl, rfl, rfl, by rw [Lib.bytesWorld_size]; omega, fun i hi => Lib.bytesWorld_at_old W e s i (by omega)⟩
/-- Where the first answers, the second answers the same. -/
def LeO {α : Type} (a b : Option α) : Prop := ∀ r, a = some r → b = some r
theorem LeO.refl {α : Type} (a : Option α) : LeO a a := fun _ h => h
theorem LeO.none {α : Type} (b : Option α) : LeO Option.none b := fun _ h => by cases h
theorem LeO.trans {α : Type} {a b c : Option α} (h : LeO a b) (k : LeO b c) : LeO a c := fun r hr => k r (h r hr)
theorem LeO.bind {α β : Type} {a a' : Option α} {f f' : α → Option β} (h : LeO a a') (k : ∀ x, LeO (f x) (f' x)) : LeO (a.bind f) (a'.bind f') := by
  intro r hr
  obtain ⟨x, hx, hf⟩ := Option.bind_eq_some_iff.1 hr
  exact Option.bind_eq_some_iff.2 ⟨x, h x hx, k x r hf⟩
theorem LeO.map {α β : Type} {a a' : Option α} (f : α → β) (h : LeO a a') : LeO (a.map f) (a'.map f) := by
  intro r hr
  obtain ⟨x, hx, hf⟩ := Option.map_eq_some_iff.1 hr
  exact Option.map_eq_some_iff.2 ⟨x, h x hx, hf⟩
theorem more_rounds {α : Type} {g : Nat → Option α} (h : ∀ k, LeO (g k) (g (k + 1))) (k : Nat) : ∀ j, LeO (g k) (g (k + j))
  | 0 => LeO.refl _
  | j + 1 => (more_rounds h k j).trans (h (k + j))
theorem at_rounds {α : Type} {g : Nat → Option α} (h : ∀ k, LeO (g k) (g (k + 1))) {k k' : Nat} (hk : k ≤ k') {r : α} (hr : g k = some r) : g k' = some r := by
  have := more_rounds h k (k' - k) r hr
  rwa [Nat.add_sub_cancel' hk] at this
/-- Two that come to their answers, each at rounds of its own, come to them at one number. -/
theorem together {α β : Type} {g : Nat → Option α} {f : Nat → Option β} (hg : ∀ k, LeO (g k) (g (k + 1))) (hf : ∀ k, LeO (f k) (f (k + 1))) {r : α} {q : β} (h : ∃ k, g k = some r) (h' : ∃ k, f k = some q) : ∃ k, g k = some r ∧ f k = some q := by
  obtain ⟨k, hk⟩ := h
  obtain ⟨k', hk'⟩ := h'
  exact ⟨max k k', at_rounds hg (Nat.le_max_left _ _) hk, at_rounds hf (Nat.le_max_right _ _) hk'⟩
def Reps {α : Type} (R : α → List Value → Prop) (size : Nat) (ps : List α) (cs : List Value) : Prop :=
  cs.length = ps.length * size ∧ ∀ j p, ps[j]? = some p → R p ((cs.drop (j * size)).take size)
theorem Reps.none {α : Type} (R : α → List Value → Prop) (size : Nat) : Reps R size [] [] := ⟨by simp, fun j p h => by simp at h⟩
theorem Reps.snoc {α : Type} {R : α → List Value → Prop} {size : Nat} {ps : List α} {cs c : List Value} {p : α} (h : Reps R size ps cs) (hp : R p c) (hc : c.length = size) : Reps R size (ps ++ [p]) (cs ++ c) := by
  refine ⟨by rw [List.length_append, h.1, hc, List.length_append, List.length_singleton, Nat.add_mul, Nat.one_mul], fun j q hq => ?_⟩
  rcases Nat.lt_or_ge j ps.length with hj | hj
  · rw [List.getElem?_append_left hj] at hq
    have h1 : j * size + size ≤ cs.length := by rw [h.1, ← Nat.succ_mul]; exact Nat.mul_le_mul_right _ hj
    have h2 := h.2 j q hq
    rw [List.drop_append_of_le_length (by omega), List.take_append_of_le_length (by rw [List.length_drop]; omega)]
    exact h2
  · have hj' : j = ps.length := by
      have := (List.getElem?_eq_some_iff.1 hq).1
      rw [List.length_append, List.length_singleton] at this
      omega
    subst hj'
    have hq' : p = q := by simpa using hq
    subst hq'
    rw [← h.1, List.drop_left, ← hc, List.take_length]
    exact hp
theorem Reps.imp_ {α : Type} {R R' : α → List Value → Prop} {size : Nat} {ps : List α} {cs : List Value} (h : Reps R size ps cs) (hR : ∀ p c, R p c → R' p c) : Reps R' size ps cs := ⟨h.1, fun j p hj => hR _ _ (h.2 j p hj)⟩
def ReadsRow {α : Type} (R : α → List Value → Prop) (size : Nat) (w : World) (A : Option Addr) (n : Nat) (ps : List α) : Prop :=
  ps.length = n ∧ n ≤ 9223372036854775807 ∧ (0 < n → ∃ ad, A = some ad ∧ ∀ j p, ps[j]? = some p → ∃ c, c.length = size ∧ R p c ∧ ∀ i u, c[i]? = some u → w.cell? (ad.add (j * size + i)) = some u)
theorem ReadsRow.imp_ {α : Type} {R R' : α → List Value → Prop} {size : Nat} {w w1 : World} {A : Option Addr} {n : Nat} {ps : List α} (h : ReadsRow R size w A n ps) (hb : Below w.heap.size w w1) (hR : ∀ p c, R p c → R' p c) : ReadsRow R' size w1 A n ps :=
  ⟨h.1, h.2.1, fun hn => by
    obtain ⟨ad, e, hc⟩ := h.2.2 hn
    refine ⟨ad, e, fun j p hj => ?_⟩
    obtain ⟨c, hs, hr, hcell⟩ := hc j p hj
    exact ⟨c, hs, hR _ _ hr, fun i u hu => pw_cell_below hb (hcell i u hu)⟩⟩
theorem own_reads_row {α : Type} {R : α → List Value → Prop} {w : World} {base n size : Nat} {e : TypeId} {v : Value} {ps : List α} {cs : List Value} (h : w.ownsRow base e size v n cs) (hR : Reps R size ps cs) (hn : ps.length = n) :
    ∃ A c, v = .slice A n c ∧ ReadsRow R size w A n ps := by
  rcases Nat.eq_zero_or_pos n with h0 | h0
  · rcases h.2 with ⟨rfl, rfl⟩ | ⟨g, cap, cur, rfl, _⟩
    · exact ⟨none, 0, rfl, hn, by omega, fun hp => absurd hp (by omega)⟩
    · exact ⟨_, cap, rfl, hn, by omega, fun hp => absurd hp (by omega)⟩
  · obtain ⟨g, cap, rfl, _, _⟩ := h.form h0
    have hm : n ≤ 9223372036854775807 := by
      rcases h.2 with ⟨_, h1⟩ | ⟨g', cap', cur, he, _, _, h1, h2, _⟩
      · omega
      · simp only [maxLen] at h2
        omega
    refine ⟨_, cap, rfl, hn, hm, fun _ => ⟨_, rfl, fun j p hj => ⟨(cs.drop (j * size)).take size, ?_, hR.2 j p hj, fun i u hu => ?_⟩⟩⟩
    · have hjl := (List.getElem?_eq_some_iff.1 hj).1
      have h1 : j * size + size ≤ cs.length := by rw [hR.1, ← Nat.succ_mul]; exact Nat.mul_le_mul_right _ hjl
      rw [List.length_take, List.length_drop]
      omega
    · refine h.cells (g := g) rfl _ u ?_
      rw [List.getElem?_take] at hu
      split at hu
      · rw [List.getElem?_drop] at hu
        exact hu
      · cases hu
section
variable {P : Program} {ops : Array Oper} {rest : List Oper} {o : Oper} {a : Act} {Q : Exit → Act → World → Prop}
/-- append(v, x), x of several cells; behind 'at_builtin'; the goal's world is 'W.alloc' of the variadic's box. -/
theorem print_append_cells {w0 W : World} (base : Nat) (hgd : o.guard = none) (s x : Operand) (t e : TypeId) (z : Value) (size bytes : Nat)
    (ho : o.op = .call { callee := .builtin .append, args := #[s, x], argTypes := #[t, t] })
    (ht : P.underlying t = some (.slice e)) (hinfo : (P.info? e).map (fun i => (i.zero, i.size, i.bytes)) = some (some z, size, bytes)) (hz : z.cells.size = size) (hs0 : 0 < size) (hb0 : 0 < bytes)
    (v : Value) (n : Nat) (xs ys : List Value) (hs : a.eval s = v) (hx : a.eval x = .slice (some ⟨W.heap.size, 0, none⟩) 1 1) (hys : ys.length = size) (h1 : ∀ u ∈ ys, u.oneCell' = true)
    (HO : W.ownsRow base e size v n xs) (HB : Below base w0 W) (hbase : base ≤ W.heap.size) (hl : (n + 1) * bytes ≤ 140737488355328)
    (h : ∀ v1 w1, w1.ownsRow base e size v1 (n + 1) (xs ++ ys) → Below base w0 w1 → W.grownBy w1 v.ownBlock → (v1.ownBlock = v.ownBlock ∨ ∃ b, v1.ownBlock = some b ∧ W.heap.size ≤ b) → wpList P ops Q rest (a.put o.dst v1) w1) :
    wpList P ops Q (o :: rest) a (W.alloc (.cells ys.toArray e)) := by
  obtain ⟨i0, hi, hzz⟩ := Option.map_eq_some_iff.1 hinfo
  simp only [Prod.mk.injEq] at hzz
  obtain ⟨hz0, hz1, hz2⟩ := hzz
  have hlen : n + 1 ≤ 140737488355328 := Nat.le_trans (Nat.le_mul_of_pos_right _ hb0) hl
  refine wpList_append_own_at (W.alloc (.cells ys.toArray e)) hgd s x t ho base e i0 z size bytes ht hi hz0 hz1 hz2 hz hs0 v n xs hs (HO.alloc _) ⟨W.heap.size, 0, none⟩ 1 1 ys hx (by rw [hys]; simp)
    (by simpa using World.news_of_block (cs := ys.toArray) (t := e) (fr := (0, 0)) (heap_alloc_new W (.cells ys.toArray e))) h1 (by simp only [maxLen]; omega) hl (by simp; omega) ?_
  intro v1 w1 hown hg _ hat
  refine h v1 w1 hown ((HB.alloc hbase _).grown hg (by simp; omega) (own_base HO)) (World.grownBy.trans (World.grownBy_alloc W _ _) hg) ?_
  rcases hat with hat | hat
  · exact .inl hat
  · exact .inr ⟨_, hat, by simp⟩
end
theorem own_ne {w : World} {base : Nat} {e t : TypeId} {size n g : Nat} {v : Value} {xs : List Value} {cs : Array Value} (h : w.ownsRow base e size v n xs) (hg : w.heap[g]? = some (.cells cs t (0, 0))) (hne : e ≠ t) : some g ≠ v.ownBlock := by
  rcases h.2 with ⟨rfl, _⟩ | ⟨g', cap, cur, rfl, _, hh, _⟩
  · simp [Value.ownBlock]
  · intro he
    have : g = g' := by simpa [Value.ownBlock] using he
    subst this
    rw [hg] at hh
    injection hh with hh
    injection hh with _ ht
    exact hne ht.symm
theorem blk_set {w : World} {g : Nat} {t : TypeId} {cs : Array Value} (h : w.heap[g]? = some (.cells cs t (0, 0))) (i : Nat) (u : Value) : (w.setCell ⟨g, i, none⟩ u).heap[g]? = some (.cells (cs.setIfInBounds i u) t (0, 0)) := by
  simp [World.setCell, Array.getElem?_modify, h]
theorem blk_far {w : World} {g : Nat} {t : TypeId} {cs : Array Value} (h : w.heap[g]? = some (.cells cs t (0, 0))) {p : Addr} (hp : g ≠ p.block) (u : Value) : (w.setCell p u).heap[g]? = some (.cells cs t (0, 0)) := (Below.heap_setCell w p u g hp).trans h
theorem blk_lt {w : World} {g : Nat} {o : Obj} (h : w.heap[g]? = some o) : g < w.heap.size := (Array.getElem?_eq_some_iff.1 h).1
theorem blk_cell {w : World} {g : Nat} {t : TypeId} {cs : Array Value} (h : w.heap[g]? = some (.cells cs t (0, 0))) (i : Nat) : w.cell? ⟨g, i, none⟩ = cs[i]? := cell_of_row w g i cs t (0, 0) h
theorem blk_frozen {w : World} {g : Nat} {t : TypeId} {cs : Array Value} (h : w.heap[g]? = some (.cells cs t (0, 0))) (i : Nat) : w.frozen? ⟨g, i, none⟩ = false := by simp [World.frozen?, h]
def KeepBut (w w' : World) (g : Nat) (row : Option Nat) : Prop := w.heap.size ≤ w'.heap.size ∧ ∀ i, i < w.heap.size → i ≠ g → some i ≠ row → w'.heap[i]? = w.heap[i]?
theorem KeepBut.refl (w : World) (g : Nat) (row : Option Nat) : KeepBut w w g row := ⟨Nat.le_refl _, fun _ _ _ _ => rfl⟩
theorem KeepBut.of_below {w w1 : World} (h : Below w.heap.size w w1) (g : Nat) (row : Option Nat) : KeepBut w w1 g row := ⟨h.size, fun i hi _ _ => h.block i hi⟩
theorem KeepBut.trans {w w1 w2 : World} {g : Nat} {row row1 : Option Nat} (h : KeepBut w w1 g row) (k : KeepBut w1 w2 g row1) (hr : row1 = row ∨ ∃ b, row1 = some b ∧ w.heap.size ≤ b) : KeepBut w w2 g row :=
  ⟨Nat.le_trans h.1 k.1, fun i hi hg hn => by
    refine (k.2 i (Nat.lt_of_lt_of_le hi h.1) hg ?_).trans (h.2 i hi hg hn)
    rcases hr with rfl | ⟨b, rfl, hb⟩
    · exact hn
    · intro e
      injection e with e
      omega⟩
/-- Another block, another row: they live on. -/
theorem KeepBut.blk {w w1 : World} {g g' : Nat} {row : Option Nat} {o : Obj} (h : KeepBut w w1 g row) (hb : w.heap[g']? = some o) (hg : g' ≠ g) (hr : some g' ≠ row) : w1.heap[g']? = some o := (h.2 g' (blk_lt hb) hg hr).trans hb
theorem KeepBut.own {w w1 : World} {g : Nat} {row : Option Nat} {base : Nat} {e : TypeId} {size n : Nat} {v : Value} {xs : List Value} (h : KeepBut w w1 g row) (ho : w.ownsRow base e size v n xs) (hg : v.ownBlock ≠ some g) (hr : v.ownBlock = none ∨ v.ownBlock ≠ row) : w1.ownsRow base e size v n xs := by
  obtain ⟨h1, h2⟩ := ho
  refine ⟨h1, ?_⟩
  rcases h2 with h2 | ⟨b, cap, cur, rfl, hb, hh, r⟩
  · exact .inl h2
  · refine .inr ⟨b, cap, cur, rfl, hb, h.blk hh ?_ ?_, r⟩
    · intro e
      exact hg (by rw [← e]; rfl)
    · rcases hr with hr | hr
      · simp [Value.ownBlock] at hr
      · exact hr
def Ev {α : Type} (g : Nat → Option α) (r : α) : Prop := ∃ K, ∀ k, K ≤ k → g k = some r
theorem Ev.now {α : Type} (r : α) : Ev (fun _ => some r) r := ⟨0, fun _ _ => rfl⟩
theorem Ev.rounds {α : Type} {g : Nat → Option α} {r : α} (h : Ev g r) : ∃ k, g k = some r := by
  obtain ⟨K, h⟩ := h
  exact ⟨K, h K (Nat.le_refl _)⟩
theorem Ev.bind {α β : Type} {g : Nat → Option α} {f : Nat → α → Option β} {a : α} {r : β} (h : Ev g a) (k : Ev (fun n => f n a) r) : Ev (fun n => (g n).bind (f n)) r := by
  obtain ⟨K, h⟩ := h
  obtain ⟨K', k⟩ := k
  refine ⟨max K K', fun n hn => ?_⟩
  have h1 := h n (by omega)
  have h2 := k n (by omega)
  simp only [h1, Option.bind_some]
  exact h2
/-- One round of a loop. -/
theorem Ev.step {α : Type} {g f : Nat → Option α} {r : α} (h : ∀ k, g (k + 1) = f k) (k : Ev f r) : Ev g r := by
  obtain ⟨K, k⟩ := k
  refine ⟨K + 1, fun n hn => ?_⟩
  obtain ⟨m, rfl⟩ : ∃ m, n = m + 1 := ⟨n - 1, by omega⟩
  rw [h]
  exact k m (by omega)
theorem Ev.congr {α : Type} {g f : Nat → Option α} {r : α} (h : ∀ k, g k = f k) (k : Ev f r) : Ev g r := by
  obtain ⟨K, k⟩ := k
  exact ⟨K, fun n hn => (h n).trans (k n hn)⟩
section
variable {P : Program} {ops : Array Oper} {o : Oper} {a : Act} {Q : Exit → Act → World → Prop} {K : Act → World → Prop}
end
theorem own_weaken {w : World} {base base' : Nat} {e : TypeId} {size n : Nat} {v : Value} {xs : List Value} (h : w.ownsRow base e size v n xs) (hb : base' ≤ base) : w.ownsRow base' e size v n xs := by
  obtain ⟨h1, h2⟩ := h
  refine ⟨h1, ?_⟩
  rcases h2 with h2 | ⟨g, cap, cur, rfl, hg, r⟩
  · exact .inl h2
  · exact .inr ⟨g, cap, cur, rfl, Nat.le_trans hb hg, r⟩
section
variable {α : Type} {enc : α → Value} {d : α}
def rdOf (d : α) (xs : List α) (i : Int) : α := xs.getD i.toNat d
def ReadsOf (enc : α → Value) (d : α) (w : World) (A : Option Addr) (n : Nat) (xs : List α) : Prop :=
  xs.length = n ∧ n ≤ 9223372036854775807 ∧ (0 < n → ∃ ad, A = some ad ∧ ∀ j, j < n → w.cell? (ad.add j) = some (enc (xs.getD j d)))
theorem ReadsOf.at_ {w : World} {A : Option Addr} {n : Nat} {xs : List α} (h : ReadsOf enc d w A n xs) (i : Int) (h0 : 0 ≤ i) (h1 : i < n) : ∃ ad, A = some ad ∧ w.cell? (ad.add i.toNat) = some (enc (rdOf d xs i)) := by
  obtain ⟨ad, e, hc⟩ := h.2.2 (by omega)
  exact ⟨ad, e, hc _ (by omega)⟩
theorem ReadsOf.below {w w1 : World} {A : Option Addr} {n : Nat} {xs : List α} (h : ReadsOf enc d w A n xs) (hb : Below w.heap.size w w1) : ReadsOf enc d w1 A n xs :=
  ⟨h.1, h.2.1, fun hn => by
    obtain ⟨ad, e, hc⟩ := h.2.2 hn
    exact ⟨ad, e, fun j hj => pw_cell_below hb (hc j hj)⟩⟩
end
section
variable {α : Type} {P : Program} {ops : Array Oper} {rest : List Oper} {o : Oper} {a : Act} {Q : Exit → Act → World → Prop}
end
theorem blk_alloc {w : World} {g : Nat} {o : Obj} (h : w.heap[g]? = some o) (o' : Obj) : (w.alloc o').heap[g]? = some o := (Below.heap_alloc w o' g (blk_lt h)).trans h
theorem blk_drew {w : World} {g : Nat} {o : Obj} (h : w.heap[g]? = some o) : w.drew.heap[g]? = some o := h
theorem blk_below {w w1 : World} {g : Nat} {o : Obj} (h : w.heap[g]? = some o) (hb : Below w.heap.size w w1) : w1.heap[g]? = some o := (hb.block g (blk_lt h)).trans h
theorem blk_new (w : World) (o : Obj) : (w.alloc o).heap[w.heap.size]? = some o := heap_alloc_new w o
section
variable {P : Program}
end
theorem own_le {w : World} {base n m c size : Nat} {e : TypeId} {A : Option Addr} {xs : List Value} (h : w.ownsRow base e size (.slice A m c) n xs) : m ≤ c := by
  rcases h.2 with ⟨he, _⟩ | ⟨g, cap, cur, he, _, _, hnc, _⟩
  · injection he with _ h2 h3
    omega
  · injection he with _ h2 h3
    omega
def OwnRow {α : Type} (R : α → List Value → Prop) (e : TypeId) (size : Nat) (w : World) (base : Nat) (v : Value) (ps : List α) : Prop :=
  ∃ inner, w.ownsRow base e size v ps.length inner ∧ Reps R size ps inner
section
variable {α : Type} {R R' : α → List Value → Prop} {e : TypeId} {size : Nat} {w w1 : World} {base : Nat} {v : Value} {ps : List α}
theorem OwnRow.none_ (R : α → List Value → Prop) (e : TypeId) (size : Nat) (w : World) (base : Nat) : OwnRow R e size w base (.slice none 0 0) [] := ⟨[], own_nil _ _ _ _, Reps.none _ _⟩
theorem OwnRow.imp_ (h : OwnRow R e size w base v ps) (hR : ∀ p c, R p c → R' p c) : OwnRow R' e size w base v ps := by
  obtain ⟨inner, ho, hr⟩ := h
  exact ⟨inner, ho, hr.imp_ hR⟩
theorem OwnRow.below (h : OwnRow R e size w base v ps) (hb : Below w.heap.size w w1) : OwnRow R e size w1 base v ps := by
  obtain ⟨inner, ho, hr⟩ := h
  exact ⟨inner, pw_own_below ho hb, hr⟩
theorem OwnRow.keep (h : OwnRow R e size w base v ps) {g : Nat} {t : TypeId} {cells : Array Value} (hb : w.heap[g]? = some (.cells cells t (0, 0))) (ht : e ≠ t) (hk : KeepBut w w1 g none) : OwnRow R e size w1 base v ps := by
  obtain ⟨inner, ho, hr⟩ := h
  exact ⟨inner, hk.own ho (Ne.symm (own_ne ho hb ht)) (by cases v.ownBlock <;> simp), hr⟩
theorem OwnRow.reads (h : OwnRow R e size w base v ps) : ∃ A c, v = .slice A ps.length c ∧ ps.length ≤ c ∧ ReadsRow R size w A ps.length ps := by
  obtain ⟨inner, ho, hr⟩ := h
  obtain ⟨A, c, rfl, hrow⟩ := own_reads_row ho hr rfl
  exact ⟨A, c, rfl, own_le ho, hrow⟩
/-- A literal: the elements' cells one behind the other. -/
theorem OwnRow.lit (W : World) (base : Nat) {inner : List Value} (hr : Reps R size ps inner) (hb : base ≤ W.heap.size) (hm : ps.length ≤ 9223372036854775807) :
    OwnRow R e size (W.alloc (.cells inner.toArray e)) base (.slice (some ⟨W.heap.size, 0, none⟩) ps.length ps.length) ps := by
  have h := World.ownsRow_lit (base := base) (e := e) (size := size) W inner.toArray ps.length hb (by simpa [maxLen] using hm) (by simpa using hr.1)
  exact ⟨inner, by simpa using h, hr⟩
end
section
variable {P : Program} {ops : Array Oper} {rest : List Oper} {o : Oper} {a : Act} {Q : Exit → Act → World → Prop} {α : Type} {R : α → List Value → Prop}
/-- append(v, x): x's cells are cs. R is that of the world AHEAD; move it over hg ('OwnRow.imp_'). -/
theorem OwnRow.append {w0 W : World} (base : Nat) (hgd : o.guard = none) (s x : Operand) (t e : TypeId) (z : Value) (size bytes : Nat)
    (ho : o.op = .call { callee := .builtin .append, args := #[s, x], argTypes := #[t, t] })
    (ht : P.underlying t = some (.slice e)) (hinfo : (P.info? e).map (fun i => (i.zero, i.size, i.bytes)) = some (some z, size, bytes)) (hz : z.cells.size = size) (hs0 : 0 < size) (hb0 : 0 < bytes)
    (v : Value) (ps : List α) (p : α) (cs : List Value) (hs : a.eval s = v) (hx : a.eval x = .slice (some ⟨W.heap.size, 0, none⟩) 1 1) (hp : R p cs) (hcs : cs.length = size) (h1 : ∀ u ∈ cs, u.oneCell' = true)
    (HO : OwnRow R e size W base v ps) (HB : Below base w0 W) (hbase : base ≤ W.heap.size) (hl : (ps.length + 1) * bytes ≤ 140737488355328)
    (h : ∀ v1 w1, OwnRow R e size w1 base v1 (ps ++ [p]) → Below base w0 w1 → W.grownBy w1 v.ownBlock → (v1.ownBlock = v.ownBlock ∨ ∃ b, v1.ownBlock = some b ∧ W.heap.size ≤ b) → wpList P ops Q rest (a.put o.dst v1) w1) :
    wpList P ops Q (o :: rest) a (W.alloc (.cells cs.toArray e)) := by
  obtain ⟨inner, hown, hr⟩ := HO
  refine print_append_cells base hgd s x t e z size bytes ho ht hinfo hz hs0 hb0 v ps.length inner cs hs hx hcs h1 hown HB hbase hl ?_
  intro v1 w1 hown1 hb1 hg1 hat1
  exact h v1 w1 ⟨inner ++ cs, by rw [List.length_append, List.length_singleton]; exact hown1, hr.snoc hp hcs⟩ hb1 hg1 hat1
end
section
variable {P : Program} {ops : Array Oper} {o : Oper} {a : Act} {Q : Exit → Act → World → Prop} {K : Act → World → Prop} {α : Type} {R : α → List Value → Prop}
end
/-- What is read as_ a row has its cells one behind the other. -/
theorem ReadsRow.inner_ {α : Type} {R : α → List Value → Prop} {size : Nat} {w : World} {ad : Addr} {n : Nat} {ps : List α} (h : ReadsRow R size w (some ad) n ps) :
    ∃ inner, Reps R size ps inner ∧ ∀ j u, inner[j]? = some u → w.cell? (ad.add j) = some u := by
  have key : ∀ m, m ≤ ps.length → ∃ inner, Reps R size (ps.take m) inner ∧ ∀ j u, inner[j]? = some u → w.cell? (ad.add j) = some u := by
    intro m
    induction m with
    | zero => exact fun _ => ⟨[], Reps.none _ _, fun j u hu => by simp at hu⟩
    | succ m ih =>
      intro hm
      obtain ⟨inner, hr, hc⟩ := ih (by omega)
      obtain ⟨ad', he, hcell⟩ := h.2.2 (by have := h.1; omega)
      injection he with he
      subst he
      obtain ⟨c, hcl, hp, hcc⟩ := hcell m _ (List.getElem?_eq_getElem (show m < ps.length by omega))
      refine ⟨inner ++ c, ?_, fun j u hu => ?_⟩
      · rw [List.take_succ_eq_append_getElem (show m < ps.length by omega)]
        exact hr.snoc hp hcl
      · have hil : inner.length = m * size := by rw [hr.1, List.length_take, Nat.min_eq_left (by omega)]
        rcases Nat.lt_or_ge j inner.length with hj | hj
        · rw [List.getElem?_append_left hj] at hu
          exact hc j u hu
        · rw [List.getElem?_append_right hj] at hu
          have := hcc (j - inner.length) u hu
          rwa [hil, Nat.add_sub_cancel' (by omega)] at this
  obtain ⟨inner, hr, hc⟩ := key ps.length (Nat.le_refl _)
  rw [List.take_length] at hr
  exact ⟨inner, hr, hc⟩
section
variable {α : Type} {P : Program}
end
section
variable {P : Program} {ops : Array Oper} {rest : List Oper} {o : Oper} {a : Act} {Q : Exit → Act → World → Prop}
end
/-- ok: which blocks the rows inside may be ('not the row that is being written'). -/
structure Kd (α : Type) where
  sz : Nat
  E : List Nat
  K : World → α → List Value → Prop
  M : World → Nat → (Nat → Prop) → α → List Value → Prop
  K_len : ∀ {w x cs}, K w x cs → cs.length = sz
  K_one : ∀ {w x cs}, K w x cs → ∀ u ∈ cs, u.oneCell' = true
  K_below : ∀ {w w1 : World} {x cs}, Below w.heap.size w w1 → K w x cs → K w1 x cs
  K_of_M : ∀ {w base ok x cs}, M w base ok x cs → K w x cs
  M_mono : ∀ {w base ok ok' x cs}, (∀ k, ok k → ok' k) → M w base ok x cs → M w base ok' x cs
  M_bound : ∀ {w : World} {base ok x cs}, M w base ok x cs → M w base (fun k => ok k ∧ base ≤ k ∧ k < w.heap.size ∧ ∃ q, q ∈ E ∧ ∃ cells, w.heap[k]? = some (.cells cells q (0, 0))) x cs
  M_move : ∀ {w w1 : World} {base ok x cs}, (∀ k, ok k → w1.heap[k]? = w.heap[k]?) → M w base ok x cs → M w1 base ok x cs
  M_lower : ∀ {w base base' ok x cs}, base' ≤ base → M w base ok x cs → M w base' ok x cs
theorem own_move {w w1 : World} {base : Nat} {e : TypeId} {size n : Nat} {v : Value} {xs : List Value} (h : w.ownsRow base e size v n xs) (hm : ∀ k, v.ownBlock = some k → w1.heap[k]? = w.heap[k]?) : w1.ownsRow base e size v n xs := by
  obtain ⟨h1, h2⟩ := h
  refine ⟨h1, ?_⟩
  rcases h2 with h2 | ⟨g, cap, cur, rfl, hg, hh, r⟩
  · exact .inl h2
  · exact .inr ⟨g, cap, cur, rfl, hg, (hm g (by simp [Value.ownBlock])).trans hh, r⟩
theorem own_typed {w : World} {base : Nat} {e : TypeId} {size n : Nat} {v : Value} {xs : List Value} (h : w.ownsRow base e size v n xs) (k : Nat) (hk : v.ownBlock = some k) : ∃ cells, w.heap[k]? = some (.cells cells e (0, 0)) := by
  rcases h.2 with ⟨rfl, _⟩ | ⟨g, cap, cur, rfl, hg, hh, r⟩
  · simp [Value.ownBlock] at hk
  · have : g = k := by simpa [Value.ownBlock] using hk
    subst this
    exact ⟨cur, hh⟩
namespace Kd
/-- A row of elements that is read. -/
def C {α : Type} (d : Kd α) (w : World) (A : Option Addr) (n : Nat) (xs : List α) : Prop := ReadsRow (d.K w) d.sz w A n xs
/-- A row of elements (type e) of the call's own; the elements' rows are not this one. -/
def R {α : Type} (d : Kd α) (e : Nat) (w : World) (base : Nat) (ok : Nat → Prop) (v : Value) (xs : List α) : Prop :=
  (∀ k, v.ownBlock = some k → ok k) ∧ OwnRow (d.M w base (fun k => ok k ∧ some k ≠ v.ownBlock)) e d.sz w base v xs
section
variable {α : Type} {d : Kd α} {e : Nat} {w w1 : World} {base : Nat} {ok ok' : Nat → Prop} {v : Value} {xs : List α}
theorem C_below {A : Option Addr} {n : Nat} (h : d.C w A n xs) (hb : Below w.heap.size w w1) : d.C w1 A n xs := ReadsRow.imp_ h hb (fun _ _ hp => d.K_below hb hp)
theorem R_nil (d : Kd α) (e : Nat) (w : World) (base : Nat) (ok : Nat → Prop) : d.R e w base ok (.slice none 0 0) [] := ⟨fun k hk => by simp [Value.ownBlock] at hk, OwnRow.none_ _ _ _ _ _⟩
theorem R_mono (h : d.R e w base ok v xs) (hok : ∀ k, ok k → ok' k) : d.R e w base ok' v xs := ⟨fun k hk => hok k (h.1 k hk), h.2.imp_ (fun _ _ hp => d.M_mono (fun k hk => ⟨hok k hk.1, hk.2⟩) hp)⟩
theorem R_bound (h : d.R e w base ok v xs) : d.R e w base (fun k => ok k ∧ base ≤ k ∧ k < w.heap.size ∧ ∃ q, q ∈ e :: d.E ∧ ∃ cells, w.heap[k]? = some (.cells cells q (0, 0))) v xs := by
  obtain ⟨h0, inner, ho, hr⟩ := h
  refine ⟨fun k hk => ?_, inner, ho, hr.imp_ (fun _ _ hp => d.M_mono (fun k hk => ?_) (d.M_bound hp))⟩
  · obtain ⟨cells, hc⟩ := own_typed ho k hk
    exact ⟨h0 k hk, own_base ho k hk, own_lt ho k hk, e, List.mem_cons_self, cells, hc⟩
  · obtain ⟨⟨h1, h2⟩, h3, h4, q, hq, hc⟩ := hk
    exact ⟨⟨h1, h3, h4, q, List.mem_cons_of_mem _ hq, hc⟩, h2⟩
theorem R_move (h : d.R e w base ok v xs) (hm : ∀ k, ok k → w1.heap[k]? = w.heap[k]?) : d.R e w1 base ok v xs := by
  obtain ⟨h0, inner, ho, hr⟩ := h
  exact ⟨h0, inner, own_move ho (fun k hk => hm k (h0 k hk)), hr.imp_ (fun _ _ hp => d.M_move (fun k hk => hm k hk.1) hp)⟩
theorem R_lower {base' : Nat} (h : d.R e w base ok v xs) (hb : base' ≤ base) : d.R e w base' ok v xs := by
  obtain ⟨h0, inner, ho, hr⟩ := h
  exact ⟨h0, inner, own_weaken ho hb, hr.imp_ (fun _ _ hp => d.M_lower hb hp)⟩
/-- Any mover: what is ok, and a block of w's, stays. -/
theorem R_step (h : d.R e w base ok v xs) (hm : ∀ k, ok k → k < w.heap.size → w1.heap[k]? = w.heap[k]?) : d.R e w1 base ok v xs :=
  R_mono (R_move (R_bound h) (fun k hk => hm k hk.1 hk.2.2.1)) (fun _ hk => hk.1)
theorem M_step {x : α} {cs : List Value} (h : d.M w base ok x cs) (hm : ∀ k, ok k → k < w.heap.size → w1.heap[k]? = w.heap[k]?) : d.M w1 base ok x cs :=
  d.M_mono (fun _ hk => hk.1) (d.M_move (fun k hk => hm k hk.1 hk.2.2.1) (d.M_bound h))
theorem R_below (h : d.R e w base ok v xs) (hb : Below w.heap.size w w1) : d.R e w1 base ok v xs := R_step h (fun k _ hk => hb.block k hk)
theorem M_below {x : α} {cs : List Value} (h : d.M w base ok x cs) (hb : Below w.heap.size w w1) : d.M w1 base ok x cs := M_step h (fun k _ hk => hb.block k hk)
theorem R_reads (h : d.R e w base ok v xs) : ∃ A c, v = .slice A xs.length c ∧ xs.length ≤ c ∧ d.C w A xs.length xs := by
  obtain ⟨A, c, he, hl, hr⟩ := OwnRow.reads h.2
  exact ⟨A, c, he, hl, hr.imp_ (Below.refl _ _) (fun _ _ hp => d.K_of_M hp)⟩
theorem R_slice (h : d.R e w base ok v xs) : ∃ A c, v = .slice A xs.length c := by
  obtain ⟨A, c, he, _⟩ := R_reads h
  exact ⟨A, c, he⟩
theorem R_own (h : d.R e w base ok v xs) : ∃ inner, w.ownsRow base e d.sz v xs.length inner := by
  obtain ⟨_, inner, ho, _⟩ := h
  exact ⟨inner, ho⟩
end
def scalar {α : Type} (enc : α → Value) (h1 : ∀ x, (enc x).oneCell' = true) : Kd α where
  sz := 1
  E := []
  K := fun _ x cs => cs = [enc x]
  M := fun _ _ _ x cs => cs = [enc x]
  K_len := fun h => by rw [h]; rfl
  K_one := fun h u hu => by
    rw [h] at hu
    rw [List.mem_singleton.1 hu]
    exact h1 _
  K_below := fun _ h => h
  K_of_M := fun h => h
  M_mono := fun _ h => h
  M_bound := fun h => h
  M_move := fun _ h => h
  M_lower := fun _ h => h
def int (k : IntKind) : Kd Int := scalar (Value.int k) (fun _ => rfl)
def bool : Kd Bool := scalar Value.bool (fun _ => rfl)
def string : Kd ByteArray := scalar Value.string (fun _ => rfl)
def slice {α : Type} (e : Nat) (d : Kd α) : Kd (List α) where
  sz := 1
  E := e :: d.E
  K := fun w xs cs => ∃ A c, cs = [.slice A xs.length c] ∧ xs.length ≤ c ∧ d.C w A xs.length xs
  M := fun w base ok xs cs => ∃ v, cs = [v] ∧ d.R e w base ok v xs
  K_len := by
    rintro w x cs ⟨A, c, rfl, _⟩
    rfl
  K_one := by
    rintro w x cs ⟨A, c, rfl, _⟩ u hu
    rw [List.mem_singleton.1 hu]
    rfl
  K_below := by
    rintro w w1 x cs hb ⟨A, c, rfl, hl, hr⟩
    exact ⟨A, c, rfl, hl, C_below hr hb⟩
  K_of_M := by
    rintro w base ok x cs ⟨v, rfl, h⟩
    obtain ⟨A, c, rfl, hl, hr⟩ := R_reads h
    exact ⟨A, c, rfl, hl, hr⟩
  M_mono := by
    rintro w base ok ok' x cs hok ⟨v, rfl, h⟩
    exact ⟨v, rfl, R_mono h hok⟩
  M_bound := by
    rintro w base ok x cs ⟨v, rfl, h⟩
    exact ⟨v, rfl, R_bound h⟩
  M_move := by
    rintro w w1 base ok x cs hm ⟨v, rfl, h⟩
    exact ⟨v, rfl, R_move h hm⟩
  M_lower := by
    rintro w base base' ok x cs hb ⟨v, rfl, h⟩
    exact ⟨v, rfl, R_lower h hb⟩
/-- Nothing is of this kind: where the nesting's depth is used up. -/
def bot {α : Type} (sz : Nat) (E : List Nat) : Kd α where
  sz := sz
  E := E
  K := fun _ _ _ => False
  M := fun _ _ _ _ _ => False
  K_len := fun h => h.elim
  K_one := fun h => h.elim
  K_below := fun _ h => h
  K_of_M := fun h => h
  M_mono := fun _ h => h
  M_bound := fun h => h
  M_move := fun _ h => h
  M_lower := fun _ h => h
/-- A type nested in itself: nested at most n deep .. -/
def upto {α : Type} (F : Kd α → Kd α) (sz : Nat) (E : List Nat) : Nat → Kd α
  | 0 => bot sz E
  | n + 1 => F (upto F sz E n)
/-- What an append leaves: the old elements' rows and the new one's are not the new row's block. -/
theorem R_appended {α : Type} {d : Kd α} {e base : Nat} {ok okp : Nat → Prop} {W w1 : World} {v v1 : Value} {xs : List α} {p : α} {inner cs : List Value} (h0 : ∀ k, v.ownBlock = some k → ok k) (hr : Reps (d.M W base (fun k => ok k ∧ some k ≠ v.ownBlock)) d.sz xs inner) (hp : d.M W base okp p cs) (hokp : ∀ k, okp k → ok k ∧ some k ≠ v.ownBlock) (hfresh : ∀ k, W.heap.size ≤ k → ok k)
    (hown : w1.ownsRow base e d.sz v1 (xs.length + 1) (inner ++ cs)) (hg : W.grownBy w1 v.ownBlock) (hat : v1.ownBlock = v.ownBlock ∨ ∃ b, v1.ownBlock = some b ∧ W.heap.size ≤ b) : d.R e w1 base ok v1 (xs ++ [p]) := by
  have hne : ∀ k, some k ≠ v.ownBlock → k < W.heap.size → some k ≠ v1.ownBlock := by
    intro k hk hlt
    rcases hat with hat | ⟨b, hb, hle⟩
    · rw [hat]; exact hk
    · rw [hb]
      intro he
      injection he with he
      omega
  have step : ∀ {q : α} {c : List Value} {o : Nat → Prop}, d.M W base o q c → (∀ k, o k → ok k ∧ some k ≠ v.ownBlock) → d.M w1 base (fun k => ok k ∧ some k ≠ v1.ownBlock) q c := by
    intro q c o hq ho
    have h1 := d.M_move (w1 := w1) (fun k hk => hg.block k hk.2.2.1 (ho k hk.1).2) (d.M_bound hq)
    exact d.M_mono (fun k hk => ⟨(ho k hk.1).1, hne k (ho k hk.1).2 hk.2.2.1⟩) h1
  refine ⟨fun k hk => ?_, inner ++ cs, by rw [List.length_append, List.length_singleton]; exact hown, ?_⟩
  · rcases hat with hat | ⟨b, hb, hle⟩
    · exact h0 k (hat ▸ hk)
    · rw [hb] at hk
      injection hk with hk
      exact hfresh k (by omega)
  · exact (hr.imp_ (fun _ _ hq => step hq (fun _ hk => hk))).snoc (step hp hokp) (d.K_len (d.K_of_M hp))
section
variable {P : Program} {ops : Array Oper} {rest : List Oper} {o : Oper} {a : Act} {Q : Exit → Act → World → Prop} {α : Type}
/-- append(v, x), behind 'at_builtin'; the goal's world is 'W.alloc' of the variadic's box; x's cells are cs, made (its rows satisfy okp). hfresh: a block that is new at W is ok. -/
theorem R_append (d : Kd α) {w0 W : World} (base : Nat) (hgd : o.guard = none) (s x : Operand) (t e : TypeId) (z : Value) (bytes : Nat)
    (ho : o.op = .call { callee := .builtin .append, args := #[s, x], argTypes := #[t, t] })
    (ht : P.underlying t = some (.slice e)) (hinfo : (P.info? e).map (fun i => (i.zero, i.size, i.bytes)) = some (some z, d.sz, bytes)) (hz : z.cells.size = d.sz) (hs0 : 0 < d.sz) (hb0 : 0 < bytes)
    (v : Value) (xs : List α) (p : α) (cs : List Value) (ok okp : Nat → Prop) (hs : a.eval s = v) (hx : a.eval x = .slice (some ⟨W.heap.size, 0, none⟩) 1 1) (hp : d.M W base okp p cs) (hokp : ∀ k, okp k → ok k ∧ some k ≠ v.ownBlock) (hfresh : ∀ k, W.heap.size ≤ k → ok k)
    (HO : d.R e W base ok v xs) (HB : Below base w0 W) (hbase : base ≤ W.heap.size) (hl : (xs.length + 1) * bytes ≤ 140737488355328)
    (h : ∀ v1 w1, d.R e w1 base ok v1 (xs ++ [p]) → Below base w0 w1 → W.grownBy w1 v.ownBlock → (v1.ownBlock = v.ownBlock ∨ ∃ b, v1.ownBlock = some b ∧ W.heap.size ≤ b) → wpList P ops Q rest (a.put o.dst v1) w1) :
    wpList P ops Q (o :: rest) a (W.alloc (.cells cs.toArray e)) := by
  obtain ⟨h0, inner, hown, hr⟩ := HO
  refine print_append_cells base hgd s x t e z d.sz bytes ho ht hinfo hz hs0 hb0 v xs.length inner cs hs hx (d.K_len (d.K_of_M hp)) (d.K_one (d.K_of_M hp)) hown HB hbase hl ?_
  intro v1 w1 hown1 hb1 hg1 hat1
  exact h v1 w1 (R_appended h0 hr hp hokp hfresh hown1 hg1 hat1) hb1 hg1 hat1
end
section
variable {P : Program} {ops : Array Oper} {o : Oper} {a : Act} {Q : Exit → Act → World → Prop} {Kc : Act → World → Prop} {α : Type}
end
theorem reads_of_C {α : Type} {enc : α → Value} {d : α} {h1 : ∀ x, (enc x).oneCell' = true} {w : World} {A : Option Addr} {n : Nat} {xs : List α} (h : (scalar enc h1).C w A n xs) : ReadsOf enc d w A n xs := by
  refine ⟨h.1, h.2.1, fun hn => ?_⟩
  obtain ⟨ad, e, hc⟩ := h.2.2 hn
  refine ⟨ad, e, fun j hj => ?_⟩
  have hl : j < xs.length := by have := h.1; omega
  obtain ⟨c, _, hK, hcell⟩ := hc j _ (List.getElem?_eq_getElem hl)
  have hK' : c = [enc xs[j]] := hK
  subst hK'
  have := hcell 0 _ rfl
  simpa [scalar, List.getD_eq_getElem?_getD, List.getElem?_eq_getElem hl] using this
end Kd
namespace Kd
section
variable {α : Type} {F : Kd α → Kd α} {sz : Nat} {E : List Nat} {hs : ∀ n, (upto F sz E n).sz = sz} {hE : ∀ n q, q ∈ (upto F sz E n).E → q ∈ E}
end
end Kd
namespace Kd
/-- Behind an append to v (it left v1): what is held apart from v is held apart from v1. -/
theorem R_after {α : Type} {d : Kd α} {e base : Nat} {ok : Nat → Prop} {W w1 : World} {u v v1 : Value} {xs : List α} (h : d.R e W base (fun k => ok k ∧ some k ≠ v.ownBlock) u xs) (hg : W.grownBy w1 v.ownBlock) (hat : v1.ownBlock = v.ownBlock ∨ ∃ b, v1.ownBlock = some b ∧ W.heap.size ≤ b) : d.R e w1 base (fun k => ok k ∧ some k ≠ v1.ownBlock) u xs := by
  refine R_mono (R_move (R_bound h) (fun k hk => hg.block k hk.2.2.1 hk.1.2)) (fun k hk => ⟨hk.1.1, ?_⟩)
  rcases hat with hat | ⟨b, hb, hle⟩
  · rw [hat]; exact hk.1.2
  · rw [hb]
    intro he
    injection he with he
    have := hk.2.2.1
    omega
end Kd
namespace Kd
section
variable {α β : Type} {d : Kd α} {d' : Kd β} {e e' : Nat} {w w1 W : World} {base b b' : Nat} {ok ok' okv oku : Nat → Prop} {v u : Value} {xs : List α} {ys : List β}
theorem R_alloc (h : d.R e w base ok v xs) (o : Obj) : d.R e (w.alloc o) base ok v xs := R_below h (below_alloc (Below.refl _ _) o)
theorem R_drew (h : d.R e w base ok v xs) : d.R e w.drew base ok v xs := R_below h (below_drew (Below.refl _ _))
theorem R_drewN (h : d.R e w base ok v xs) (m : Nat) : d.R e (w.drewN m) base ok v xs := R_below h (pw_below_drewN (Below.refl _ _) m)
theorem C_alloc {A : Option Addr} {n : Nat} (h : d.C w A n xs) (o : Obj) : d.C (w.alloc o) A n xs := C_below h (below_alloc (Below.refl _ _) o)
theorem C_drew {A : Option Addr} {n : Nat} (h : d.C w A n xs) : d.C w.drew A n xs := C_below h (below_drew (Below.refl _ _))
theorem C_drewN {A : Option Addr} {n : Nat} (h : d.C w A n xs) (m : Nat) : d.C (w.drewN m) A n xs := C_below h (pw_below_drewN (Below.refl _ _) m)
theorem C_nil (d : Kd α) (w : World) : d.C w none ([] : List α).length [] := ⟨rfl, by simp, fun h => absurd h (Nat.lt_irrefl 0)⟩
theorem R_reads' {A : Option Addr} {n c : Nat} (h : d.R e w base ok (.slice A n c) xs) : n = xs.length ∧ n ≤ c ∧ d.C w A xs.length xs := by
  obtain ⟨A', c', he, hl, hr⟩ := R_reads h
  injection he with h1 h2 h3
  subst h1
  exact ⟨h2, by omega, hr⟩
theorem R_lt (h : d.R e w base ok v xs) : ∀ k, v.ownBlock = some k → k < w.heap.size := by
  obtain ⟨inner, ho⟩ := R_own h
  exact own_lt ho
theorem R_base (h : d.R e w base ok v xs) : ∀ k, v.ownBlock = some k → base ≤ k := by
  obtain ⟨inner, ho⟩ := R_own h
  exact own_base ho
end
section
variable {w W : World} {A : Option Addr} {n : Nat}
theorem at_int {k : IntKind} {xs : List Int} (h : (Kd.int k).C w A n xs) (i : Int) (h0 : 0 ≤ i) (h1 : i < n) : ∃ ad, A = some ad ∧ w.cell? (ad.add i.toNat) = some (.int k (rd xs i)) :=
  ReadsOf.at_ (reads_of_C (enc := Value.int k) (d := (0 : Int)) (h1 := fun _ => rfl) h) i h0 h1
theorem at_string {xs : List ByteArray} (h : Kd.string.C w A n xs) (i : Int) (h0 : 0 ≤ i) (h1 : i < n) : ∃ ad, A = some ad ∧ w.cell? (ad.add i.toNat) = some (.string (rdOf ByteArray.empty xs i)) :=
  ReadsOf.at_ (reads_of_C (enc := Value.string) (d := ByteArray.empty) (h1 := fun _ => rfl) h) i h0 h1
variable {α : Type} {enc : α → Value} {h1 : ∀ x, (enc x).oneCell' = true} {e base g cap : Nat} {ok : Nat → Prop} {xs : List α}
end
section
variable {P : Program} {ops : Array Oper} {rest : List Oper} {o : Oper} {a : Act} {Q : Exit → Act → World → Prop}
theorem event_run {W w1 : World} {v : Value} (hgd : o.guard = none) (hrun : (execOp a.eval o).run P W = .ok (.value v) w1) (h : wpList P ops Q rest (a.put o.dst v) w1) : wpList P ops Q (o :: rest) a W := by
  refine wpList_plain hgd fun K hK => ?_
  unfold Oper.wp
  rw [hrun]
  exact hK _ _ h
variable {α : Type}
/-- A literal '[]T{..}': inner its cells. 'hd' picks the operation; 'hrun' by '(by go_simp; rfl)'. -/
theorem R_lit (d : Kd α) {w0 W : World} (base e : Nat) (hgd : o.guard = none) {N : Tmp} (_hd : o.dst = some N) {xs : List α} {inner : List Value} {ok okp : Nat → Prop}
    (hrun : (execOp a.eval o).run P W = .ok (.value (.slice (some ⟨W.heap.size, 0, none⟩) xs.length xs.length)) (W.alloc (.cells inner.toArray e)))
    (hrep : Reps (d.M W base okp) d.sz xs inner) (hok : ∀ k, okp k → ok k) (hfresh : ok W.heap.size) (HB : Below base w0 W) (hbase : base ≤ W.heap.size) (hm : xs.length ≤ 9223372036854775807)
    (h : ∀ v1 w1, d.R e w1 base ok v1 xs → Below base w0 w1 → W.grownBy w1 none → (∃ b, v1.ownBlock = some b ∧ W.heap.size ≤ b) → wpList P ops Q rest (a.put o.dst v1) w1) : wpList P ops Q (o :: rest) a W := by
  refine event_run hgd hrun (h _ _ ⟨fun k hk => ?_, inner, ?_, ?_⟩ (HB.alloc hbase _) (World.grownBy_alloc W _ none) ⟨W.heap.size, by simp [Value.ownBlock], Nat.le_refl _⟩)
  · have : W.heap.size = k := by simpa [Value.ownBlock] using hk
    subst this
    exact hfresh
  · have h2 := World.ownsRow_lit (base := base) (e := e) (size := d.sz) W inner.toArray xs.length hbase (by simpa [maxLen] using hm) (by simpa using hrep.1)
    simpa using h2
  · refine hrep.imp_ (fun p c hp => d.M_mono (fun k hk => ⟨hok k hk.1, fun he => ?_⟩) (M_below (d.M_bound hp) (below_alloc (Below.refl _ _) _)))
    have h3 : k = W.heap.size := by simpa [Value.ownBlock] using he
    have := hk.2.2.1
    omega
end
end Kd
section
variable {P : Program}
end
/-- A row of one's own that may begin inside its block. -/
def QRow (w : World) (base : Nat) (e : TypeId) (size : Nat) (v : Value) (n : Nat) (xs : List Value) : Prop :=
  xs.length = n * size ∧
  ((n = 0 ∧ ∃ A, v = .slice A 0 0 ∧ ∀ a, A = some a → base ≤ a.block ∧ ∃ cur, w.heap[a.block]? = some (.cells cur e (0, 0))) ∨
   ∃ g off cap cur, v = .slice (some ⟨g, off * size, none⟩) n cap ∧ base ≤ g ∧ w.heap[g]? = some (.cells cur e (0, 0)) ∧ n ≤ cap ∧ off + cap ≤ maxLen ∧ cur.size = (off + cap) * size ∧ (cur.toList.drop (off * size)).take (n * size) = xs)
section
variable {w w1 : World} {base n size : Nat} {e : TypeId} {v : Value} {xs : List Value}
theorem q_of_own (h : w.ownsRow base e size v n xs) : QRow w base e size v n xs := by
  obtain ⟨h1, h2⟩ := h
  refine ⟨h1, ?_⟩
  rcases h2 with ⟨rfl, h0⟩ | ⟨g, cap, cur, rfl, hb, hh, hnc, hcm, hcs, ht⟩
  · exact .inl ⟨h0, none, rfl, fun a ha => by cases ha⟩
  · exact .inr ⟨g, 0, cap, cur, by rw [Nat.zero_mul], hb, hh, hnc, by rw [Nat.zero_add]; exact hcm, by rw [Nat.zero_add]; exact hcs, by rw [Nat.zero_mul, List.drop_zero]; exact ht⟩
end
section
variable {P : Program}
end
namespace Kd
def Q {α : Type} (d : Kd α) (e : Nat) (w : World) (base : Nat) (ok : Nat → Prop) (v : Value) (xs : List α) : Prop :=
  (∀ k, v.ownBlock = some k → ok k) ∧ ∃ inner, QRow w base e d.sz v xs.length inner ∧ Reps (d.M w base (fun k => ok k ∧ some k ≠ v.ownBlock)) d.sz xs inner
section
variable {α : Type} {d : Kd α} {e : Nat} {w w1 W : World} {base : Nat} {ok ok' : Nat → Prop} {v : Value} {xs : List α}
theorem Q_of_R (h : d.R e w base ok v xs) : d.Q e w base ok v xs := by
  obtain ⟨h0, inner, ho, hr⟩ := h
  exact ⟨h0, inner, q_of_own ho, hr⟩
theorem Q_nil (d : Kd α) (e : Nat) (w : World) (base : Nat) (ok : Nat → Prop) : d.Q e w base ok (.slice none 0 0) [] := Q_of_R (R_nil d e w base ok)
end
section
variable {P : Program} {ops : Array Oper} {rest : List Oper} {o : Oper} {a : Act} {Q' : Exit → Act → World → Prop} {Kc : Act → World → Prop} {α : Type}
end
end Kd
namespace Kd
section
variable {α : Type} {d : Kd α} {e e' : Nat} {w w1 W : World} {base : Nat} {ok : Nat → Prop} {u v : Value} {xs : List α}
theorem R_typed (h : d.R e w base ok v xs) : ∀ k, v.ownBlock = some k → ∃ cells, w.heap[k]? = some (.cells cells e (0, 0)) := by
  obtain ⟨inner, ho⟩ := R_own h
  exact fun k hk => own_typed ho k hk
theorem R_over' (h : d.R e W base ok u xs) (hty : ∀ k, v.ownBlock = some k → ∃ cells, W.heap[k]? = some (.cells cells e' (0, 0))) (ht : ∀ q, q ∈ e :: d.E → q ≠ e') (hg : W.grownBy w1 v.ownBlock) : d.R e w1 base ok u xs := by
  refine R_mono (R_move (R_bound h) (fun k hk => hg.block k hk.2.2.1 (fun he => ?_))) (fun _ hk => hk.1)
  obtain ⟨_, _, _, q, hq, cells, hc⟩ := hk
  obtain ⟨cells', hc'⟩ := hty k he.symm
  rw [hc] at hc'
  injection hc' with hc'
  injection hc' with _ hc'
  exact ht q hq hc'
theorem R_elder' (hu : d.R e W base ok u xs) (hbase : ∀ k, v.ownBlock = some k → W.heap.size ≤ k) (hb : Below W.heap.size W w1) : d.R e w1 base (fun k => ok k ∧ some k ≠ v.ownBlock) u xs :=
  R_mono (R_move (R_bound hu) (fun k hk => hb.block k hk.2.2.1)) (fun k hk => ⟨hk.1, fun he => by have := hbase k he.symm; have := hk.2.2.1; omega⟩)
theorem R_new' (h : d.R e w1 W.heap.size ok v xs) (hlt : ∀ k, u.ownBlock = some k → k < W.heap.size) : d.R e w1 W.heap.size (fun k => ok k ∧ some k ≠ u.ownBlock) v xs :=
  R_mono (R_bound h) (fun k hk => ⟨hk.1, fun he => by have := hlt k he.symm; have := hk.2.1; omega⟩)
theorem fresh' (hlt : ∀ k, u.ownBlock = some k → k < W.heap.size) : ∀ k, W.heap.size ≤ k → some k ≠ u.ownBlock := fun k hk he => by have := hlt k he.symm; omega
end
end Kd
namespace Kd
section
variable {α : Type} {d : Kd α} {e base g n cap : Nat} {ok okp : Nat → Prop} {W : World} {xs : List α}
end
end Kd
namespace Kd
section
variable {α : Type} {F : Kd α → Kd α} {sz : Nat} {E : List Nat} {hs : ∀ n, (upto F sz E n).sz = sz} {hE : ∀ n q, q ∈ (upto F sz E n).E → q ∈ E}
end
end Kd
namespace Kd
theorem reps_append {α : Type} {R : α → List Value → Prop} {size : Nat} {ps qs : List α} {cs ds : List Value} (h : Reps R size ps cs) (h' : Reps R size qs ds) : Reps R size (ps ++ qs) (cs ++ ds) := by
  refine ⟨by rw [List.length_append, List.length_append, h.1, h'.1, Nat.add_mul], fun j p hj => ?_⟩
  rcases Nat.lt_or_ge j ps.length with hlt | hge
  · rw [List.getElem?_append_left hlt] at hj
    have hle : j * size + size ≤ cs.length := by rw [h.1, ← Nat.succ_mul]; exact Nat.mul_le_mul_right _ hlt
    rw [List.drop_append_of_le_length (by omega), List.take_append_of_le_length (by rw [List.length_drop]; omega)]
    exact h.2 j p hj
  · rw [List.getElem?_append_right hge] at hj
    have h2 := h'.2 (j - ps.length) p hj
    have hle : ps.length * size ≤ j * size := Nat.mul_le_mul_right _ hge
    rw [List.drop_append, List.drop_eq_nil_of_le (by rw [h.1]; exact hle), List.nil_append, h.1, ← Nat.sub_mul]
    exact h2
section
variable {P : Program} {ops : Array Oper} {rest : List Oper} {o : Oper} {a : Act} {Q : Exit → Act → World → Prop} {α : Type}
/-- append(v, ys...): Rr is what is known of a read element's cells (d.K W; or k<T>.K w0 for a row that came in), hKM: it may stand as_ made. -/
theorem R_append_rows (d : Kd α) {Rr : α → List Value → Prop} {w0 W : World} (base : Nat) (hgd : o.guard = none) (s x : Operand) (t e : TypeId) (z : Value) (bytes : Nat)
    (ho : o.op = .call { callee := .builtin .append, args := #[s, x], argTypes := #[t, t] })
    (ht : P.underlying t = some (.slice e)) (hinfo : (P.info? e).map (fun i => (i.zero, i.size, i.bytes)) = some (some z, d.sz, bytes)) (hz : z.cells.size = d.sz) (hs0 : 0 < d.sz) (hb0 : 0 < bytes)
    (v : Value) (xs ys : List α) (A : Option Addr) (m c : Nat) (ok okp : Nat → Prop) (hs : a.eval s = v) (hx : a.eval x = .slice A m c)
    (HO : d.R e W base ok v xs) (HR : ReadsRow Rr d.sz W A m ys) (hKM : ∀ x cs, Rr x cs → d.M W base okp x cs) (hokp : ∀ k, okp k → ok k ∧ some k ≠ v.ownBlock) (hfresh : ∀ k, W.heap.size ≤ k → ok k)
    (HB : Below base w0 W) (hbase : base ≤ W.heap.size) (hl : (xs.length + m) * bytes ≤ 140737488355328)
    (h : ∀ v1 w1, d.R e w1 base ok v1 (xs ++ ys) → Below base w0 w1 → W.grownBy w1 v.ownBlock → (v1.ownBlock = v.ownBlock ∨ ∃ b, v1.ownBlock = some b ∧ W.heap.size ≤ b) → wpList P ops Q rest (a.put o.dst v1) w1) :
    wpList P ops Q (o :: rest) a W := by
  obtain ⟨i0, hi, hzz⟩ := Option.map_eq_some_iff.1 hinfo
  simp only [Prod.mk.injEq] at hzz
  obtain ⟨hz0, hz1, hz2⟩ := hzz
  have hm : ys.length = m := HR.1
  have hlen : xs.length + m ≤ 140737488355328 := Nat.le_trans (Nat.le_mul_of_pos_right _ hb0) hl
  obtain ⟨hok, inner, hown, hr⟩ := HO
  have hrun : ∃ v1 w1, (Builtin.append_ #[t, t] o.type #[v, .slice A m c]).run P W = .ok v1 w1 ∧ d.R e w1 base ok v1 (xs ++ ys) ∧ W.grownBy w1 v.ownBlock ∧ (v1.ownBlock = v.ownBlock ∨ ∃ b, v1.ownBlock = some b ∧ W.heap.size ≤ b) := by
    rcases A with _ | ad
    · have h0 : m = 0 := by
        rcases Nat.eq_zero_or_pos m with h0 | h0
        · exact h0
        · obtain ⟨ad, h, _⟩ := HR.2.2 h0
          cases h
      subst h0
      obtain rfl : ys = [] := List.eq_nil_of_length_eq_zero hm
      refine ⟨v, W, ?_, by rw [List.append_nil]; exact ⟨hok, inner, hown, hr⟩, World.grownBy.refl W _, .inl rfl⟩
      rcases hown.2 with ⟨rfl, hn⟩ | ⟨g, cap, cur, rfl, _, _, hnc, _⟩
      · simp [Builtin.append_, run_underlying ht, sizeOf, typeInfo, hi, Builtin.lenOf, Builtin.firstCells]
      · simp [Builtin.append_, run_underlying ht, sizeOf, typeInfo, hi, Builtin.lenOf, Builtin.firstCells, hnc, storeCells]
    · obtain ⟨news, hnr, hnc⟩ := ReadsRow.inner_ HR
      have hnM : Reps (d.M W base okp) d.sz ys news := hnr.imp_ (fun p c hp => hKM p c hp)
      have hone : ∀ u ∈ news, u.oneCell' = true := by
        intro u hu
        obtain ⟨q, hq, rfl⟩ := List.mem_iff_getElem.1 hu
        have hql : q / d.sz < ys.length := by
          rw [Nat.div_lt_iff_lt_mul hs0]
          rw [← hnM.1]
          exact hq
        have hc := hnM.2 (q / d.sz) _ (List.getElem?_eq_getElem hql)
        refine d.K_one (d.K_of_M hc) _ ?_
        rw [List.mem_iff_getElem?]
        refine ⟨q % d.sz, ?_⟩
        rw [List.getElem?_take, if_pos (Nat.mod_lt _ hs0), List.getElem?_drop, Nat.mul_comm, Nat.div_add_mod, List.getElem?_eq_getElem hq]
      obtain ⟨v1, w1, hrun, h2, hg, _, hat⟩ := run_append_own_at (P := P) W base t o.type e i0 z d.sz bytes ht hi hz0 hz1 hz2 hz hs0 v xs.length inner hown ad m c news (by rw [hnM.1, hm]) hnc hone (by simp only [maxLen]; omega) hl hbase
      have hat' : v1.ownBlock = v.ownBlock ∨ ∃ b, v1.ownBlock = some b ∧ W.heap.size ≤ b := by
        rcases hat with hat | hat
        · exact .inl hat
        · exact .inr ⟨_, hat, Nat.le_refl _⟩
      have hne : ∀ k, some k ≠ v.ownBlock → k < W.heap.size → some k ≠ v1.ownBlock := by
        intro k hk hlt
        rcases hat' with hat | ⟨b, hb, hle⟩
        · rw [hat]; exact hk
        · rw [hb]
          intro he
          injection he with he
          omega
      have step : ∀ {q : α} {c : List Value} {o : Nat → Prop}, d.M W base o q c → (∀ k, o k → ok k ∧ some k ≠ v.ownBlock) → d.M w1 base (fun k => ok k ∧ some k ≠ v1.ownBlock) q c := by
        intro q c o hq ho
        have h1 := d.M_move (w1 := w1) (fun k hk => hg.block k hk.2.2.1 (ho k hk.1).2) (d.M_bound hq)
        exact d.M_mono (fun k hk => ⟨(ho k hk.1).1, hne k (ho k hk.1).2 hk.2.2.1⟩) h1
      refine ⟨v1, w1, hrun, ⟨fun k hk => ?_, inner ++ news, by rw [List.length_append, hm]; exact h2, reps_append (hr.imp_ (fun _ _ hq => step hq (fun _ hk => hk))) (hnM.imp_ (fun _ _ hq => step hq hokp))⟩, hg, hat'⟩
      rcases hat' with hat | ⟨b, hb, hle⟩
      · exact hok k (hat ▸ hk)
      · rw [hb] at hk
        injection hk with hk
        exact hfresh k (by omega)
  obtain ⟨v1, w1, hr1, h1, hg, hat⟩ := hrun
  refine wpList_plain hgd fun K hK => ?_
  unfold Oper.wp execOp
  simp only [ho, resolve, invoke, builtin, Sem.run_bind, Sem.run_pure, Result.andThen_ok, List.map_toArray, List.map_cons, List.map_nil, hs, hx, hr1]
  exact hK _ _ (h v1 w1 h1 (HB.grown hg hbase (own_base hown)) hg hat)
end
end Kd
namespace Kd
section
variable {P : Program} {ops : Array Oper} {rest : List Oper} {o : Oper} {a : Act} {Q : Exit → Act → World → Prop} {α : Type}
end
end Kd
namespace Kd
section
variable {α : Type} {k : Kd α} {w : World} {A : Option Addr} {xs : List α} {m c : Nat}
end
end Kd
section
variable {P : Program}
end
theorem below_size {w W : World} (h : Below w.heap.size w W) : w.heap.size ≤ W.heap.size := h.size
theorem below_step {w W w2 : World} (h : Below w.heap.size w W) (k : Below W.heap.size W w2) : Below w.heap.size w w2 := below_then h h.size k
theorem ReadsInt.nil (W : World) (k : IntKind) : ReadsInt W k none ([] : List Int).length [] := ⟨rfl, by simp, fun h => absurd h (Nat.lt_irrefl 0)⟩
theorem ReadsInt.drewN {W : World} {k : IntKind} {A : Option Addr} {n : Nat} {xs : List Int} (h : ReadsInt W k A n xs) (m : Nat) : ReadsInt (W.drewN m) k A n xs := h
theorem keep_cell {w W : World} {g : Nat} (h : KeepBut w W g none) {a : Addr} {v : Value} (hc : w.cell? a = some v) (hne : a.block ≠ g) : W.cell? a = some v := by
  have := h.2 a.block (World.block_lt_of_cell? w a hc) hne (by simp)
  simpa [World.cell?, this] using hc
theorem add_block (a : Addr) (i : Nat) : (a.add i).block = a.block := by unfold Addr.add; split <;> rfl
theorem ReadsOf.nil {α : Type} (enc : α → Value) (d : α) (W : World) : ReadsOf enc d W none ([] : List α).length [] := ⟨rfl, by simp, fun h => absurd h (Nat.lt_irrefl 0)⟩
theorem ReadsOf.drewN {α : Type} {enc : α → Value} {d : α} {W : World} {A : Option Addr} {n : Nat} {xs : List α} (h : ReadsOf enc d W A n xs) (m : Nat) : ReadsOf enc d (W.drewN m) A n xs := h
theorem ReadsInt.keep {w W : World} {k : IntKind} {A : Option Addr} {n g : Nat} {xs : List Int} (h : ReadsInt w k A n xs) (hk : KeepBut w W g none) (hf : ∀ ad, A = some ad → 0 < n → ad.block ≠ g) : ReadsInt W k A n xs :=
  ⟨h.1, h.2.1, fun hn => by
    obtain ⟨ad, e, hc⟩ := h.2.2 hn
    exact ⟨ad, e, fun j hj => keep_cell hk (hc j hj) (by rw [add_block]; exact hf ad e hn)⟩⟩
theorem ReadsOf.keep {α : Type} {enc : α → Value} {d : α} {w W : World} {A : Option Addr} {n g : Nat} {xs : List α} (h : ReadsOf enc d w A n xs) (hk : KeepBut w W g none) (hf : ∀ ad, A = some ad → 0 < n → ad.block ≠ g) : ReadsOf enc d W A n xs :=
  ⟨h.1, h.2.1, fun hn => by
    obtain ⟨ad, e, hc⟩ := h.2.2 hn
    exact ⟨ad, e, fun j hj => keep_cell hk (hc j hj) (by rw [add_block]; exact hf ad e hn)⟩⟩
theorem cell_far {W : World} {p a : Addr} (h : a.block ≠ p.block) (u : Value) : (W.setCell p u).cell? a = W.cell? a := by
  have := Below.heap_setCell W p u a.block h
  simp [World.cell?, this]
theorem blk_put {w : World} {g : Nat} {t : TypeId} {cs cs' : Array Value} (h : w.heap[g]? = some (.cells cs t (0, 0))) (i : Nat) (u : Value) (e : cs.setIfInBounds i u = cs') : (w.setCell ⟨g, i, none⟩ u).heap[g]? = some (.cells cs' t (0, 0)) := e ▸ blk_set h i u
theorem below_drew1 {base : Nat} {w W : World} (h : Below base w W) : Below base w W.drew := h.drew
namespace Kd
section
variable {α β : Type} {d : Kd α} {d' : Kd β} {e e' base base' n : Nat} {ok ok' : Nat → Prop} {w W w1 W1 : World} {v u : Value} {xs : List α} {ys : List β} {A : Option Addr} {c : Nat}
end
section
variable {α : Type} {enc : α → Value} {h1 : ∀ x, (enc x).oneCell' = true} {w W : World} {A : Option Addr} {n g : Nat} {xs : List α}
end
end Kd
namespace Kd
section
variable {α : Type} {d : Kd α} {e base g : Nat} {ok : Nat → Prop} {w w1 : World} {v : Value} {xs : List α} {o : Obj}
end
end Kd
section
variable {P : Program} {ops : Array Oper} {rest : List Oper} {o : Oper} {a : Act} {Q : Exit → Act → World → Prop}
end
namespace Kd
section
variable {α : Type} {enc : α → Value} {h1 : ∀ x, (enc x).oneCell' = true} {e base g n cap : Nat} {ok : Nat → Prop} {W : World} {xs : List α}
end
end Kd
section
variable {P : Program} {ops : Array Oper} {rest : List Oper} {o : Oper} {a : Act} {Q : Exit → Act → World → Prop}
end
namespace Kd
section
variable {α : Type} {enc : α → Value} {h1 : ∀ x, (enc x).oneCell' = true} {e base g n cap : Nat} {ok : Nat → Prop} {W : World} {xs : List α}
end
end Kd
section
variable {P : Program} {ops : Array Oper} {rest : List Oper} {o : Oper} {a : Act} {Q : Exit → Act → World → Prop} {W : World}
theorem gate_dst {N : Tmp} (_hN : o.dst = some N) (h : wpList P ops Q (o :: rest) a W) : wpList P ops Q (o :: rest) a W := h
end
section
variable {P : Program} {ops : Array Oper} {o : Oper} {a : Act} {Q : Exit → Act → World → Prop} {Kc : Act → World → Prop}
namespace Kd
variable {α : Type}
end Kd
end
section
variable {P : Program} {tmps : Array Value} {w : World}
end
namespace Kd
section
variable {P : Program} {α : Type}
end
section
variable {P : Program} {ops : Array Oper} {rest : List Oper} {o : Oper} {a : Act} {Q : Exit → Act → World → Prop} {Kc : Act → World → Prop} {α : Type}
end
end Kd
end Go.Proofs.YtcgdjnmfeibnoaaGreatDoorW.PrintWords
/-! Shelf -/
namespace Go.Proofs
open Go.Shelf
def Tryz.lays132_ren : Go.Shelf.Ren := ⟨fun | 132 => 26 | 127 => 44 | n => n, fun | 49 => 22 | 3 => 3 | 4 => 4 | 46 => 69 | 5 => 5 | 9 => 9 | n => n, fun | n => n⟩
theorem Tryz.lays132 : Go.Proofs.Lays.n132 Tryz.prog Tryz.lays132_ren := {
  mixed := by kernel_rfl
  f127 := Tryz.func44.trans (congrArg some (by kernel_rfl))
  f132 := Tryz.func26.trans (congrArg some (by kernel_rfl))
  t3 := Tryz.underlying3
  a3 := Tryz.isAgg3
  z3 := Tryz.sizeOf3
  v3 := Tryz.zeroValue3
  t4 := Tryz.underlying4
  a4 := Tryz.isAgg4
  z4 := Tryz.sizeOf4
  v4 := Tryz.zeroValue4
  t5 := Tryz.underlying5
  a5 := Tryz.isAgg5
  z5 := Tryz.sizeOf5
  v5 := Tryz.zeroValue5
  t9 := Tryz.underlying9
  a9 := Tryz.isAgg9
  z9 := Tryz.sizeOf9
  v9 := Tryz.zeroValue9
  t46 := Tryz.underlying69
  a46 := Tryz.isAgg69
  z46 := Tryz.sizeOf69
  v46 := Tryz.zeroValue69
  t49 := Tryz.underlying22
  a49 := Tryz.isAgg22
  z49 := Tryz.sizeOf22
  v49 := Tryz.zeroValue22 }
/-- bits.LeadingZeros16: "LeadingZeros16 returns the number of leading zero bits in x; the result is 16 for x == 0.": IT RETURNS '16 - Lib.bitLen x'; the world is as it was. ITS CALLEE bits.Len16 IS MET BY ITS OWN CONTRACT OFF THE SHELF (lay that first): entered in place it sends the kernel out of memory. (LAID: no walk: one application.) -/
theorem Tryz.bits_LeadingZeros16 (x : Int) (w : World) (h0 : 0 ≤ x) (h1 : x ≤ 65535) :
    Calls Tryz.prog 26 #[.int .u16 x] w fun e w' => e = .returned (.int .i64 (16 - (Lib.bitLen x.toNat : Int))) ∧ w' = w := Any.bits_LeadingZeros16 Tryz.lays132 x w h0 h1
def Tryz.lays137_ren : Go.Shelf.Ren := ⟨fun | 137 => 74 | 217 => 89 | 266 => 104 | n => n, fun | 9 => 9 | 5 => 5 | 3 => 3 | n => n, fun | n => n⟩
theorem Tryz.lays137 : Go.Proofs.Lays.n137 Tryz.prog Tryz.lays137_ren := {
  mixed := by kernel_rfl
  f137 := Tryz.func74.trans (congrArg some (by kernel_rfl))
  f217 := Tryz.func89.trans (congrArg some (by kernel_rfl))
  f266 := Tryz.func104.trans (congrArg some (by kernel_rfl))
  t3 := Tryz.underlying3
  a3 := Tryz.isAgg3
  z3 := Tryz.sizeOf3
  v3 := Tryz.zeroValue3
  t5 := Tryz.underlying5
  a5 := Tryz.isAgg5
  z5 := Tryz.sizeOf5
  v5 := Tryz.zeroValue5
  t9 := Tryz.underlying9
  a9 := Tryz.isAgg9
  z9 := Tryz.sizeOf9
  v9 := Tryz.zeroValue9 }
open Go.RowKit in
/-- strings.IndexByte: "IndexByte returns the index of the first instance of c in s, or -1 if c is not present in s.": IT RETURNS 'Lib.indexByte s c'; the world is as it was. (LAID: no walk: one application.) -/
theorem Tryz.strings_IndexByte (s : ByteArray) (c : Int) (w : World) :
    Calls Tryz.prog 74 #[.string s, .int .u8 c] w fun e w' => e = .returned (.int .i64 (Lib.indexByte s.data.toList c.toNat.toUInt8)) ∧ w' = w := Any.strings_IndexByte Tryz.lays137 s c w
def Tryz.laysM171_ren : Go.Shelf.Ren := ⟨fun | 171 => 19 | 243 => 38 | 246 => 59 | 283 => 82 | 284 => 83 | 285 => 84 | 286 => 85 | 129 => 99 | 317 => 98 | 318 => 100 | 319 => 101 | 320 => 102 | 337 => 109 | 338 => 110 | n => n, fun | 3 => 3 | 9 => 9 | 2 => 2 | 4 => 4 | 171 => 133 | 0 => 0 | 53 => 62 | 37 => 103 | 5 => 5 | 173 => 136 | 212 => 149 | 51 => 97 | 20 => 20 | 213 => 150 | 46 => 69 | 232 => 161 | 233 => 162 | n => n, fun | 17 => 3 | 18 => 4 | 19 => 5 | n => n⟩
theorem Tryz.laysM171 : Go.Proofs.LaysM.n171 Tryz.prog Tryz.laysM171_ren := {
  mixed := by kernel_rfl
  f129 := Tryz.func99.trans (congrArg some (by kernel_rfl))
  f171 := Tryz.func19.trans (congrArg some (by kernel_rfl))
  f243 := Tryz.func38.trans (congrArg some (by kernel_rfl))
  f246 := Tryz.func59.trans (congrArg some (by kernel_rfl))
  f283 := Tryz.func82.trans (congrArg some (by kernel_rfl))
  f284 := Tryz.func83.trans (congrArg some (by kernel_rfl))
  f285 := Tryz.func84.trans (congrArg some (by kernel_rfl))
  f286 := Tryz.func85.trans (congrArg some (by kernel_rfl))
  f317 := Tryz.func98.trans (congrArg some (by kernel_rfl))
  f318 := Tryz.func100.trans (congrArg some (by kernel_rfl))
  f319 := Tryz.func101.trans (congrArg some (by kernel_rfl))
  f320 := Tryz.func102.trans (congrArg some (by kernel_rfl))
  f337 := Tryz.func109.trans (congrArg some (by kernel_rfl))
  f338 := Tryz.func110.trans (congrArg some (by kernel_rfl))
  t0 := Tryz.underlying0
  a0 := Tryz.isAgg0
  z0 := Tryz.sizeOf0
  v0 := Tryz.zeroValue0
  t2 := Tryz.underlying2
  a2 := Tryz.isAgg2
  z2 := Tryz.sizeOf2
  v2 := Tryz.zeroValue2
  t3 := Tryz.underlying3
  a3 := Tryz.isAgg3
  z3 := Tryz.sizeOf3
  v3 := Tryz.zeroValue3
  t4 := Tryz.underlying4
  a4 := Tryz.isAgg4
  z4 := Tryz.sizeOf4
  v4 := Tryz.zeroValue4
  t5 := Tryz.underlying5
  a5 := Tryz.isAgg5
  z5 := Tryz.sizeOf5
  v5 := Tryz.zeroValue5
  t9 := Tryz.underlying9
  a9 := Tryz.isAgg9
  z9 := Tryz.sizeOf9
  v9 := Tryz.zeroValue9
  t20 := Tryz.underlying20
  a20 := Tryz.isAgg20
  z20 := Tryz.sizeOf20
  v20 := Tryz.zeroValue20
  t37 := Tryz.underlying103
  a37 := Tryz.isAgg103
  z37 := Tryz.sizeOf103
  v37 := Tryz.zeroValue103
  t46 := Tryz.underlying69
  a46 := Tryz.isAgg69
  z46 := Tryz.sizeOf69
  v46 := Tryz.zeroValue69
  t51 := Tryz.underlying97
  a51 := Tryz.isAgg97
  z51 := Tryz.sizeOf97
  v51 := Tryz.zeroValue97
  t53 := Tryz.underlying62
  a53 := Tryz.isAgg62
  z53 := Tryz.sizeOf62
  v53 := Tryz.zeroValue62
  t171 := Tryz.underlying133
  a171 := Tryz.isAgg133
  z171 := Tryz.sizeOf133
  v171 := Tryz.zeroValue133
  t173 := Tryz.underlying136
  a173 := Tryz.isAgg136
  z173 := Tryz.sizeOf136
  v173 := Tryz.zeroValue136
  t212 := Tryz.underlying149
  a212 := Tryz.isAgg149
  z212 := Tryz.sizeOf149
  v212 := Tryz.zeroValue149
  t213 := Tryz.underlying150
  a213 := Tryz.isAgg150
  z213 := Tryz.sizeOf150
  t232 := Tryz.underlying161
  a232 := Tryz.isAgg161
  z232 := Tryz.sizeOf161
  v232 := Tryz.zeroValue161
  t233 := Tryz.underlying162
  a233 := Tryz.isAgg162
  z233 := Tryz.sizeOf162
  v233 := Tryz.zeroValue162
  g17 := by kernel_rfl
  g18 := by kernel_rfl
  g19 := by kernel_rfl
  i0 := by kernel_rfl
  i2 := by kernel_rfl
  i3 := by kernel_rfl
  i4 := by kernel_rfl
  i5 := by kernel_rfl
  i9 := by kernel_rfl
  i20 := by kernel_rfl
  i37 := by kernel_rfl
  i46 := by kernel_rfl
  i51 := by kernel_rfl
  i53 := by kernel_rfl
  i171 := by kernel_rfl
  i173 := by kernel_rfl
  i212 := by kernel_rfl
  i232 := by kernel_rfl
  i233 := by kernel_rfl
  m17 := by kernel_rfl
  m18 := by kernel_rfl
  m19 := by kernel_rfl }
open Go.RowKit Go.Sort Go.Lib in
/-- strconv.Itoa: "Itoa is equivalent to FormatInt(int64(i), 10).": i's DECIMAL NUMERAL ('Lib.itoa': a '-' where i is negative, then the digits), FOR EVERY int. The world behind the call: the world before it, new blocks behind the heap (the library's 'var a [24]byte'), draws. (LAID: no walk: one application.) -/
theorem Tryz.strconv_Itoa (n : Int) (h0 : -9223372036854775808 ≤ n) (h1 : n ≤ 9223372036854775807) (w : World) (htab : Lib.TabIs Tryz.prog w "internal/strconv.uint64pow10" .u64 Lib.pow10Tab) :
    Calls Tryz.prog 19 #[.int .i64 n] w fun e w' => e = .returned (.string ⟨(Lib.itoa n).toArray⟩) ∧ ∃ k os, w' = grow (w.drewN k) os := Any.strconv_Itoa Tryz.laysM171 n h0 h1 w htab
def Tryz.laysC172_ren : Go.Shelf.Ren := ⟨fun | 172 => 18 | 244 => 36 | 245 => 37 | 247 => 54 | 279 => 55 | 280 => 56 | 281 => 57 | 282 => 58 | 287 => 79 | 316 => 80 | 171 => 19 | 205 => 81 | 321 => 96 | 322 => 97 | 243 => 38 | 246 => 59 | 283 => 82 | 284 => 83 | 285 => 84 | 286 => 85 | 129 => 99 | 317 => 98 | 318 => 100 | 319 => 101 | 320 => 102 | 337 => 109 | 338 => 110 | n => n, fun | 9 => 9 | 3 => 3 | 75 => 54 | 76 => 55 | 4 => 4 | 5 => 5 | 167 => 102 | 37 => 103 | 0 => 0 | 85 => 104 | 2 => 2 | 168 => 106 | 53 => 62 | 175 => 127 | 46 => 69 | 210 => 131 | 127 => 140 | 145 => 147 | 143 => 145 | 21 => 21 | 171 => 133 | 173 => 136 | 212 => 149 | 51 => 97 | 20 => 20 | 213 => 150 | 232 => 161 | 233 => 162 | 80 => 119 | n => n, fun | 15 => 1 | 16 => 2 | 17 => 3 | 18 => 4 | 19 => 5 | n => n⟩
theorem Tryz.laysC172 : Go.Proofs.LaysC.n172 Tryz.prog Tryz.laysC172_ren := {
  mixed := by kernel_rfl
  f129 := Tryz.func99.trans (congrArg some (by kernel_rfl))
  f171 := Tryz.func19.trans (congrArg some (by kernel_rfl))
  f172 := Tryz.func18.trans (congrArg some (by kernel_rfl))
  f205 := Tryz.func81.trans (congrArg some (by kernel_rfl))
  f243 := Tryz.func38.trans (congrArg some (by kernel_rfl))
  f244 := Tryz.func36.trans (congrArg some (by kernel_rfl))
  f245 := Tryz.func37.trans (congrArg some (by kernel_rfl))
  f246 := Tryz.func59.trans (congrArg some (by kernel_rfl))
  f247 := Tryz.func54.trans (congrArg some (by kernel_rfl))
  f279 := Tryz.func55.trans (congrArg some (by kernel_rfl))
  f280 := Tryz.func56.trans (congrArg some (by kernel_rfl))
  f281 := Tryz.func57.trans (congrArg some (by kernel_rfl))
  f282 := Tryz.func58.trans (congrArg some (by kernel_rfl))
  f283 := Tryz.func82.trans (congrArg some (by kernel_rfl))
  f284 := Tryz.func83.trans (congrArg some (by kernel_rfl))
  f285 := Tryz.func84.trans (congrArg some (by kernel_rfl))
  f286 := Tryz.func85.trans (congrArg some (by kernel_rfl))
  f287 := Tryz.func79.trans (congrArg some (by kernel_rfl))
  f316 := Tryz.func80.trans (congrArg some (by kernel_rfl))
  f317 := Tryz.func98.trans (congrArg some (by kernel_rfl))
  f318 := Tryz.func100.trans (congrArg some (by kernel_rfl))
  f319 := Tryz.func101.trans (congrArg some (by kernel_rfl))
  f320 := Tryz.func102.trans (congrArg some (by kernel_rfl))
  f321 := Tryz.func96.trans (congrArg some (by kernel_rfl))
  f322 := Tryz.func97.trans (congrArg some (by kernel_rfl))
  f337 := Tryz.func109.trans (congrArg some (by kernel_rfl))
  f338 := Tryz.func110.trans (congrArg some (by kernel_rfl))
  t0 := Tryz.underlying0
  a0 := Tryz.isAgg0
  z0 := Tryz.sizeOf0
  v0 := Tryz.zeroValue0
  t2 := Tryz.underlying2
  a2 := Tryz.isAgg2
  z2 := Tryz.sizeOf2
  v2 := Tryz.zeroValue2
  t3 := Tryz.underlying3
  a3 := Tryz.isAgg3
  z3 := Tryz.sizeOf3
  v3 := Tryz.zeroValue3
  t4 := Tryz.underlying4
  a4 := Tryz.isAgg4
  z4 := Tryz.sizeOf4
  v4 := Tryz.zeroValue4
  t5 := Tryz.underlying5
  a5 := Tryz.isAgg5
  z5 := Tryz.sizeOf5
  v5 := Tryz.zeroValue5
  t9 := Tryz.underlying9
  a9 := Tryz.isAgg9
  z9 := Tryz.sizeOf9
  v9 := Tryz.zeroValue9
  t20 := Tryz.underlying20
  a20 := Tryz.isAgg20
  z20 := Tryz.sizeOf20
  v20 := Tryz.zeroValue20
  t21 := Tryz.underlying21
  a21 := Tryz.isAgg21
  z21 := Tryz.sizeOf21
  v21 := Tryz.zeroValue21
  t37 := Tryz.underlying103
  a37 := Tryz.isAgg103
  z37 := Tryz.sizeOf103
  v37 := Tryz.zeroValue103
  t46 := Tryz.underlying69
  a46 := Tryz.isAgg69
  z46 := Tryz.sizeOf69
  v46 := Tryz.zeroValue69
  t51 := Tryz.underlying97
  a51 := Tryz.isAgg97
  z51 := Tryz.sizeOf97
  v51 := Tryz.zeroValue97
  t53 := Tryz.underlying62
  a53 := Tryz.isAgg62
  z53 := Tryz.sizeOf62
  v53 := Tryz.zeroValue62
  t75 := Tryz.underlying54
  a75 := Tryz.isAgg54
  z75 := Tryz.sizeOf54
  v75 := Tryz.zeroValue54
  t76 := Tryz.underlying55
  a76 := Tryz.isAgg55
  z76 := Tryz.sizeOf55
  v76 := Tryz.zeroValue55
  t85 := Tryz.underlying104
  a85 := Tryz.isAgg104
  z85 := Tryz.sizeOf104
  v85 := Tryz.zeroValue104
  t127 := Tryz.underlying140
  a127 := Tryz.isAgg140
  z127 := Tryz.sizeOf140
  v127 := Tryz.zeroValue140
  t143 := Tryz.underlying145
  a143 := Tryz.isAgg145
  z143 := Tryz.sizeOf145
  v143 := Tryz.zeroValue145
  t145 := Tryz.underlying147
  a145 := Tryz.isAgg147
  z145 := Tryz.sizeOf147
  v145 := Tryz.zeroValue147
  t167 := Tryz.underlying102
  a167 := Tryz.isAgg102
  z167 := Tryz.sizeOf102
  v167 := Tryz.zeroValue102
  t168 := Tryz.underlying106
  a168 := Tryz.isAgg106
  z168 := Tryz.sizeOf106
  v168 := Tryz.zeroValue106
  t171 := Tryz.underlying133
  a171 := Tryz.isAgg133
  z171 := Tryz.sizeOf133
  v171 := Tryz.zeroValue133
  t173 := Tryz.underlying136
  a173 := Tryz.isAgg136
  z173 := Tryz.sizeOf136
  v173 := Tryz.zeroValue136
  t175 := Tryz.underlying127
  a175 := Tryz.isAgg127
  z175 := Tryz.sizeOf127
  v175 := Tryz.zeroValue127
  t210 := Tryz.underlying131
  a210 := Tryz.isAgg131
  z210 := Tryz.sizeOf131
  v210 := Tryz.zeroValue131
  t212 := Tryz.underlying149
  a212 := Tryz.isAgg149
  z212 := Tryz.sizeOf149
  v212 := Tryz.zeroValue149
  t213 := Tryz.underlying150
  a213 := Tryz.isAgg150
  z213 := Tryz.sizeOf150
  t232 := Tryz.underlying161
  a232 := Tryz.isAgg161
  z232 := Tryz.sizeOf161
  v232 := Tryz.zeroValue161
  t233 := Tryz.underlying162
  a233 := Tryz.isAgg162
  z233 := Tryz.sizeOf162
  v233 := Tryz.zeroValue162
  g15 := by kernel_rfl
  g16 := by kernel_rfl
  g17 := by kernel_rfl
  g18 := by kernel_rfl
  g19 := by kernel_rfl
  t80 := Tryz.underlying119
  a80 := Tryz.isAgg119
  z80 := Tryz.sizeOf119
  v80 := Tryz.zeroValue119
  i0 := by kernel_rfl
  i2 := by kernel_rfl
  i3 := by kernel_rfl
  i4 := by kernel_rfl
  i5 := by kernel_rfl
  i9 := by kernel_rfl
  i20 := by kernel_rfl
  i21 := by kernel_rfl
  i37 := by kernel_rfl
  i46 := by kernel_rfl
  i51 := by kernel_rfl
  i53 := by kernel_rfl
  i75 := by kernel_rfl
  i76 := by kernel_rfl
  i80 := by kernel_rfl
  i85 := by kernel_rfl
  i127 := by kernel_rfl
  i143 := by kernel_rfl
  i145 := by kernel_rfl
  i167 := by kernel_rfl
  i168 := by kernel_rfl
  i171 := by kernel_rfl
  i173 := by kernel_rfl
  i175 := by kernel_rfl
  i210 := by kernel_rfl
  i212 := by kernel_rfl
  i232 := by kernel_rfl
  i233 := by kernel_rfl
  m15 := by kernel_rfl
  m16 := by kernel_rfl
  m17 := by kernel_rfl
  m18 := by kernel_rfl
  m19 := by kernel_rfl
  c0 := by kernel_rfl
  c2 := by kernel_rfl
  c3 := by kernel_rfl
  c4 := by kernel_rfl
  c5 := by kernel_rfl
  c9 := by kernel_rfl
  c20 := by kernel_rfl
  c21 := by kernel_rfl
  c37 := by kernel_rfl
  c46 := by kernel_rfl
  c51 := by kernel_rfl
  c53 := by kernel_rfl
  c75 := by kernel_rfl
  c76 := by kernel_rfl
  c80 := by kernel_rfl
  c85 := by kernel_rfl
  c127 := by kernel_rfl
  c143 := by kernel_rfl
  c145 := by kernel_rfl
  c167 := by kernel_rfl
  c168 := by kernel_rfl
  c171 := by kernel_rfl
  c173 := by kernel_rfl
  c175 := by kernel_rfl
  c210 := by kernel_rfl
  c212 := by kernel_rfl
  c213 := by kernel_rfl
  c232 := by kernel_rfl
  c233 := by kernel_rfl }
open Go.RowKit in
/-- strconv.Atoi, AT EVERY STRING THAT SPELLS AN int ('Lib.atoiAll .. = .ok v'; of whatever length: leading zeros count): v, AND NO ERROR. The world: as it was, or with the one new row that '[]byte(..)' lays. (LAID: no walk: one application.) -/
theorem Tryz.strconv_Atoi_ok (s : ByteArray) (hmax : s.size ≤ 9223372036854775806) (v : Int) (h : Lib.atoiAll s.data.toList = .ok v) (w : World) :
    Calls Tryz.prog 18 #[.string s] w fun e w' => e = .returned (.tuple #[.int .i64 v, .nilIface]) ∧ (w' = w ∨ ∃ t, w' = Lib.bytesWorld w 5 t) := Any.strconv_Atoi_ok Tryz.laysC172 s hmax v h w
open Go.RowKit in
/-- strconv.Atoi, AT EVERY NUMERAL THAT NO int HOLDS ('.range'): THE GREATEST OR THE LEAST int, BY THE SIGN ('Lib.atoiSat'), AND AN ERROR THAT IS NOT nil: a *NumError in a new block N: {Func: "Atoi", Num: s's bytes, Err: what the variable ErrRange holds}. Of what was there nothing has turned. (LAID: no walk: one application.) -/
theorem Tryz.strconv_Atoi_range (s : ByteArray) (hlim : s.size ≤ 281474976710656) (h : Lib.atoiAll s.data.toList = .range) (ev : Value) (w : World) (hv : w.cell? ⟨2, 0, none⟩ = some ev) (hev : ev = .nilIface ∨ ∃ te pe, ev = .iface te pe) :
    Calls Tryz.prog 18 #[.string s] w fun e w' => ∃ N, e = .returned (.tuple #[.int .i64 (Lib.atoiSat s.data.toList), .iface 106 (.pointer (some ⟨N, 0, none⟩))]) ∧ w.heap.size ≤ N ∧ w'.heap[N]? = some (.cells #[.string ⟨#[65, 116, 111, 105]⟩, .string s, ev] 131 (0, 0)) ∧ Below w.heap.size w w' := Any.strconv_Atoi_range Tryz.laysC172 s hlim h ev w hv hev
def Tryz.lays219_ren : Go.Shelf.Ren := ⟨fun | 219 => 75 | 217 => 89 | 225 => 90 | 224 => 91 | 267 => 92 | 266 => 104 | 314 => 105 | n => n, fun | 9 => 9 | 3 => 3 | 4 => 4 | 5 => 5 | 46 => 69 | 146 => 155 | 51 => 97 | n => n, fun | 1 => 0 | n => n⟩
theorem Tryz.lays219 : Go.Proofs.Lays.n219 Tryz.prog Tryz.lays219_ren := {
  mixed := by kernel_rfl
  f217 := Tryz.func89.trans (congrArg some (by kernel_rfl))
  f219 := Tryz.func75.trans (congrArg some (by kernel_rfl))
  f224 := Tryz.func91.trans (congrArg some (by kernel_rfl))
  f225 := Tryz.func90.trans (congrArg some (by kernel_rfl))
  f266 := Tryz.func104.trans (congrArg some (by kernel_rfl))
  f267 := Tryz.func92.trans (congrArg some (by kernel_rfl))
  f314 := Tryz.func105.trans (congrArg some (by kernel_rfl))
  t3 := Tryz.underlying3
  a3 := Tryz.isAgg3
  z3 := Tryz.sizeOf3
  v3 := Tryz.zeroValue3
  t4 := Tryz.underlying4
  a4 := Tryz.isAgg4
  z4 := Tryz.sizeOf4
  v4 := Tryz.zeroValue4
  t5 := Tryz.underlying5
  a5 := Tryz.isAgg5
  z5 := Tryz.sizeOf5
  v5 := Tryz.zeroValue5
  t9 := Tryz.underlying9
  a9 := Tryz.isAgg9
  z9 := Tryz.sizeOf9
  v9 := Tryz.zeroValue9
  t46 := Tryz.underlying69
  a46 := Tryz.isAgg69
  z46 := Tryz.sizeOf69
  v46 := Tryz.zeroValue69
  t51 := Tryz.underlying97
  a51 := Tryz.isAgg97
  z51 := Tryz.sizeOf97
  v51 := Tryz.zeroValue97
  t146 := Tryz.underlying155
  a146 := Tryz.isAgg155
  z146 := Tryz.sizeOf155
  v146 := Tryz.zeroValue155
  g1 := by kernel_rfl }
open Go.RowKit Go.Lib in
/-- internal/stringslite.Index (what strings.Index calls) AT A substr OF ONE BYTE c: IT RETURNS 'Lib.indexByte s c'; the world is as it was. (LAID: no walk: one application.) -/
theorem Tryz.stringslite_Index_one (s : ByteArray) (c : UInt8) (w : World) :
    Calls Tryz.prog 75 #[.string s, .string ⟨#[c]⟩] w fun e w' => e = .returned (.int .i64 (Lib.indexByte s.data.toList c)) ∧ w' = w := Any.stringslite_Index_one Tryz.lays219 s c w
def Tryz.lays145_ren : Go.Shelf.Ren := ⟨fun | 145 => 34 | 220 => 50 | 219 => 75 | 217 => 89 | 225 => 90 | 224 => 91 | 267 => 92 | 266 => 104 | 314 => 105 | n => n, fun | 9 => 9 | 4 => 4 | 59 => 79 | 3 => 3 | 5 => 5 | 46 => 69 | 146 => 155 | 51 => 97 | n => n, fun | 1 => 0 | n => n⟩
theorem Tryz.lays145 : Go.Proofs.Lays.n145 Tryz.prog Tryz.lays145_ren := {
  mixed := by kernel_rfl
  f145 := Tryz.func34.trans (congrArg some (by kernel_rfl))
  f217 := Tryz.func89.trans (congrArg some (by kernel_rfl))
  f219 := Tryz.func75.trans (congrArg some (by kernel_rfl))
  f220 := Tryz.func50.trans (congrArg some (by kernel_rfl))
  f224 := Tryz.func91.trans (congrArg some (by kernel_rfl))
  f225 := Tryz.func90.trans (congrArg some (by kernel_rfl))
  f266 := Tryz.func104.trans (congrArg some (by kernel_rfl))
  f267 := Tryz.func92.trans (congrArg some (by kernel_rfl))
  f314 := Tryz.func105.trans (congrArg some (by kernel_rfl))
  t3 := Tryz.underlying3
  a3 := Tryz.isAgg3
  z3 := Tryz.sizeOf3
  v3 := Tryz.zeroValue3
  t4 := Tryz.underlying4
  a4 := Tryz.isAgg4
  z4 := Tryz.sizeOf4
  v4 := Tryz.zeroValue4
  t5 := Tryz.underlying5
  a5 := Tryz.isAgg5
  z5 := Tryz.sizeOf5
  v5 := Tryz.zeroValue5
  t9 := Tryz.underlying9
  a9 := Tryz.isAgg9
  z9 := Tryz.sizeOf9
  v9 := Tryz.zeroValue9
  t46 := Tryz.underlying69
  a46 := Tryz.isAgg69
  z46 := Tryz.sizeOf69
  v46 := Tryz.zeroValue69
  t51 := Tryz.underlying97
  a51 := Tryz.isAgg97
  z51 := Tryz.sizeOf97
  v51 := Tryz.zeroValue97
  t59 := Tryz.underlying79
  a59 := Tryz.isAgg79
  z59 := Tryz.sizeOf79
  v59 := Tryz.zeroValue79
  t146 := Tryz.underlying155
  a146 := Tryz.isAgg155
  z146 := Tryz.sizeOf155
  v146 := Tryz.zeroValue155
  g1 := by kernel_rfl }
open Go.RowKit Go.Lib in
/-- strings.Cut: "Cut slices s around the first instance of sep, returning the text before and after sep. The found result reports whether sep appears in s. If sep does not appear in s, cut returns s, "", false.": IT RETURNS 'Lib.cut s sep'; the world is as it was but for the count of draws. (LAID: no walk: one application.) -/
theorem Tryz.strings_Cut (s sep : ByteArray) (m : Int) (w : World) (hs : s.size < 4294967281) (hm : w.cell? ⟨0, 0, none⟩ = some (.int .i64 m)) :
    Calls Tryz.prog 34 #[.string s, .string sep] w fun e w' => e = .returned (.tuple #[.string ⟨(Lib.cut s.data.toList sep.data.toList).1.toArray⟩, .string ⟨(Lib.cut s.data.toList sep.data.toList).2.1.toArray⟩, .bool (Lib.cut s.data.toList sep.data.toList).2.2]) ∧ ∃ n, w' = w.drewN n := Any.strings_Cut Tryz.lays145 s sep m w hs hm
def Tryz.laysM219_ren : Go.Shelf.Ren := ⟨fun | 219 => 75 | 217 => 89 | 225 => 90 | 224 => 91 | 267 => 92 | 266 => 104 | 314 => 105 | n => n, fun | 9 => 9 | 3 => 3 | 4 => 4 | 5 => 5 | 46 => 69 | 146 => 155 | 51 => 97 | n => n, fun | 1 => 0 | n => n⟩
theorem Tryz.laysM219 : Go.Proofs.LaysM.n219 Tryz.prog Tryz.laysM219_ren := {
  mixed := by kernel_rfl
  f217 := Tryz.func89.trans (congrArg some (by kernel_rfl))
  f219 := Tryz.func75.trans (congrArg some (by kernel_rfl))
  f224 := Tryz.func91.trans (congrArg some (by kernel_rfl))
  f225 := Tryz.func90.trans (congrArg some (by kernel_rfl))
  f266 := Tryz.func104.trans (congrArg some (by kernel_rfl))
  f267 := Tryz.func92.trans (congrArg some (by kernel_rfl))
  f314 := Tryz.func105.trans (congrArg some (by kernel_rfl))
  t3 := Tryz.underlying3
  a3 := Tryz.isAgg3
  z3 := Tryz.sizeOf3
  v3 := Tryz.zeroValue3
  t4 := Tryz.underlying4
  a4 := Tryz.isAgg4
  z4 := Tryz.sizeOf4
  v4 := Tryz.zeroValue4
  t5 := Tryz.underlying5
  a5 := Tryz.isAgg5
  z5 := Tryz.sizeOf5
  v5 := Tryz.zeroValue5
  t9 := Tryz.underlying9
  a9 := Tryz.isAgg9
  z9 := Tryz.sizeOf9
  v9 := Tryz.zeroValue9
  t46 := Tryz.underlying69
  a46 := Tryz.isAgg69
  z46 := Tryz.sizeOf69
  v46 := Tryz.zeroValue69
  t51 := Tryz.underlying97
  a51 := Tryz.isAgg97
  z51 := Tryz.sizeOf97
  v51 := Tryz.zeroValue97
  t146 := Tryz.underlying155
  a146 := Tryz.isAgg155
  z146 := Tryz.sizeOf155
  v146 := Tryz.zeroValue155
  g1 := by kernel_rfl
  i3 := by kernel_rfl
  i4 := by kernel_rfl
  i5 := by kernel_rfl
  i9 := by kernel_rfl
  i46 := by kernel_rfl
  i51 := by kernel_rfl
  i146 := by kernel_rfl
  m1 := by kernel_rfl
  s1_3 := fun w h => Go.Proofs.cell_of_shapedOpen_int (zero := #[.int .i64 0]) (t := 3) h (of_decide_eq_true (by kernel_rfl)) (by kernel_rfl) rfl (by kernel_rfl) (by kernel_rfl) Tryz.underlying3 }
def Tryz.lays149_ren : Go.Shelf.Ren := ⟨fun | 149 => 16 | 222 => 30 | n => n, fun | 9 => 9 | 5 => 5 | 3 => 3 | 4 => 4 | n => n, fun | n => n⟩
theorem Tryz.lays149 : Go.Proofs.Lays.n149 Tryz.prog Tryz.lays149_ren := {
  mixed := by kernel_rfl
  f149 := Tryz.func16.trans (congrArg some (by kernel_rfl))
  f222 := Tryz.func30.trans (congrArg some (by kernel_rfl))
  t3 := Tryz.underlying3
  a3 := Tryz.isAgg3
  z3 := Tryz.sizeOf3
  v3 := Tryz.zeroValue3
  t4 := Tryz.underlying4
  a4 := Tryz.isAgg4
  z4 := Tryz.sizeOf4
  v4 := Tryz.zeroValue4
  t5 := Tryz.underlying5
  a5 := Tryz.isAgg5
  z5 := Tryz.sizeOf5
  v5 := Tryz.zeroValue5
  t9 := Tryz.underlying9
  a9 := Tryz.isAgg9
  z9 := Tryz.sizeOf9
  v9 := Tryz.zeroValue9 }
open Go.RowKit Go.Lib in
/-- strings.LastIndexByte: "LastIndexByte returns the index of the last instance of c in s, or -1 if c is not present in s." (LAID: no walk: one application.) -/
theorem Tryz.strings_LastIndexByte (s : ByteArray) (c : Int) (hs : s.size < 4611686018427387904) (w : World) :
    Calls Tryz.prog 16 #[.string s, .int .u8 c] w fun e w' => e = .returned (.int .i64 (Lib.lastIndexByte s c)) ∧ w' = w := Any.strings_LastIndexByte Tryz.lays149 s c hs w
def Tryz.lays146_ren : Go.Shelf.Ren := ⟨fun | 146 => 51 | 221 => 76 | 268 => 93 | 138 => 94 | 143 => 95 | 195 => 106 | 197 => 107 | 218 => 108 | 219 => 75 | 260 => 111 | 217 => 89 | 225 => 90 | 224 => 91 | 267 => 92 | 266 => 104 | 314 => 105 | n => n, fun | 9 => 9 | 31 => 95 | 3 => 3 | 4 => 4 | 0 => 0 | 105 => 158 | 21 => 21 | 5 => 5 | 46 => 69 | 119 => 163 | 139 => 166 | 138 => 165 | 146 => 155 | 51 => 97 | n => n, fun | 1 => 0 | 3 => 6 | 4 => 7 | n => n⟩
theorem Tryz.lays146 : Go.Proofs.Lays.n146 Tryz.prog Tryz.lays146_ren := {
  mixed := by kernel_rfl
  f138 := Tryz.func94.trans (congrArg some (by kernel_rfl))
  f143 := Tryz.func95.trans (congrArg some (by kernel_rfl))
  f146 := Tryz.func51.trans (congrArg some (by kernel_rfl))
  f195 := Tryz.func106.trans (congrArg some (by kernel_rfl))
  f197 := Tryz.func107.trans (congrArg some (by kernel_rfl))
  f217 := Tryz.func89.trans (congrArg some (by kernel_rfl))
  f218 := Tryz.func108.trans (congrArg some (by kernel_rfl))
  f219 := Tryz.func75.trans (congrArg some (by kernel_rfl))
  f221 := Tryz.func76.trans (congrArg some (by kernel_rfl))
  f224 := Tryz.func91.trans (congrArg some (by kernel_rfl))
  f225 := Tryz.func90.trans (congrArg some (by kernel_rfl))
  f260 := Tryz.func111.trans (congrArg some (by kernel_rfl))
  f266 := Tryz.func104.trans (congrArg some (by kernel_rfl))
  f267 := Tryz.func92.trans (congrArg some (by kernel_rfl))
  f268 := Tryz.func93.trans (congrArg some (by kernel_rfl))
  f314 := Tryz.func105.trans (congrArg some (by kernel_rfl))
  t0 := Tryz.underlying0
  a0 := Tryz.isAgg0
  z0 := Tryz.sizeOf0
  v0 := Tryz.zeroValue0
  t3 := Tryz.underlying3
  a3 := Tryz.isAgg3
  z3 := Tryz.sizeOf3
  v3 := Tryz.zeroValue3
  t4 := Tryz.underlying4
  a4 := Tryz.isAgg4
  z4 := Tryz.sizeOf4
  v4 := Tryz.zeroValue4
  t5 := Tryz.underlying5
  a5 := Tryz.isAgg5
  z5 := Tryz.sizeOf5
  v5 := Tryz.zeroValue5
  t9 := Tryz.underlying9
  a9 := Tryz.isAgg9
  z9 := Tryz.sizeOf9
  v9 := Tryz.zeroValue9
  t21 := Tryz.underlying21
  a21 := Tryz.isAgg21
  z21 := Tryz.sizeOf21
  v21 := Tryz.zeroValue21
  t31 := Tryz.underlying95
  a31 := Tryz.isAgg95
  z31 := Tryz.sizeOf95
  v31 := Tryz.zeroValue95
  t46 := Tryz.underlying69
  a46 := Tryz.isAgg69
  z46 := Tryz.sizeOf69
  v46 := Tryz.zeroValue69
  t51 := Tryz.underlying97
  a51 := Tryz.isAgg97
  z51 := Tryz.sizeOf97
  v51 := Tryz.zeroValue97
  t105 := Tryz.underlying158
  a105 := Tryz.isAgg158
  z105 := Tryz.sizeOf158
  v105 := Tryz.zeroValue158
  t119 := Tryz.underlying163
  a119 := Tryz.isAgg163
  z119 := Tryz.sizeOf163
  t138 := Tryz.underlying165
  a138 := Tryz.isAgg165
  z138 := Tryz.sizeOf165
  v138 := Tryz.zeroValue165
  t139 := Tryz.underlying166
  a139 := Tryz.isAgg166
  z139 := Tryz.sizeOf166
  v139 := Tryz.zeroValue166
  t146 := Tryz.underlying155
  a146 := Tryz.isAgg155
  z146 := Tryz.sizeOf155
  v146 := Tryz.zeroValue155
  g1 := by kernel_rfl
  g3 := by kernel_rfl
  g4 := by kernel_rfl }
open Go.RowKit Go.Lib in
/-- strings.Split. (LAID: no walk: one application.) -/
theorem Tryz.strings_Split (s sep : ByteArray) (m : Int) (w : World) (hs : s.size < 4294967281) (hm : w.cell? ⟨0, 0, none⟩ = some (.int .i64 m)) (h1 : 1 ≤ sep.size) :
    Calls Tryz.prog 51 #[.string s, .string sep] w fun e w' =>
      e = .returned (.slice (some ⟨w.heap.size, 0, none⟩) (Lib.countB s sep + 1) (Lib.countB s sep + 1)) ∧ w' = w.alloc (.cells ((Lib.splitB sep 0 (Lib.countB s sep) s).map Value.string).toArray 9) := Any.strings_Split Tryz.lays146 (by kernel_rfl) s sep m w hs hm h1
def Tryz.lays264_ren : Go.Shelf.Ren := ⟨fun | 264 => 77 | n => n, fun | 53 => 62 | 46 => 69 | n => n, fun | n => n⟩
theorem Tryz.lays264 : Go.Proofs.Lays.n264 Tryz.prog Tryz.lays264_ren := {
  mixed := by kernel_rfl
  f264 := Tryz.func77.trans (congrArg some (by kernel_rfl))
  t46 := Tryz.underlying69
  a46 := Tryz.isAgg69
  z46 := Tryz.sizeOf69
  v46 := Tryz.zeroValue69
  t53 := Tryz.underlying62
  a53 := Tryz.isAgg62
  z53 := Tryz.sizeOf62
  v53 := Tryz.zeroValue62 }
open Go.RowKit Go.Lib in
theorem Tryz.bits_Mul64 (x y : Nat) (hx : x < 18446744073709551616) (hy : y < 18446744073709551616) (w : World) :
    Calls Tryz.prog 77 #[.int .u64 x, .int .u64 y] w fun e w' => e = .returned (.tuple #[.int .u64 ((x * y / 18446744073709551616 : Nat) : Int), .int .u64 ((x * y % 18446744073709551616 : Nat) : Int)]) ∧ w' = w := Any.bits_Mul64 Tryz.lays264 x y hx hy w
end Go.Proofs
/-! Oct -/
namespace Go.Proofs.YtcgdjnmfeibnoaaGreatDoor
open Go.RowKit Go.Proofs.YtcgdjnmfeibnoaaGreatDoorW.PrintWords
set_option linter.unusedVariables false
set_option linter.unusedSimpArgs false
theorem ret_int {k : IntKind} {a b : Int} (h : a = b) : Ending.returned (.int k a) = .returned (.int k b) := by rw [h]
theorem drawn_same {w w' : World} (h : w = w') : Drawn0 w w' := h ▸ Drawn0.refl w
/-- The digits to the base 36. -/
def digs : List UInt8 := [48, 49, 50, 51, 52, 53, 54, 55, 56, 57, 97, 98, 99, 100, 101, 102, 103, 104, 105, 106, 107, 108, 109, 110, 111, 112, 113, 114, 115, 116, 117, 118, 119, 120, 121, 122]
/-- What a byte says. -/
def digN (b : Int) : Int := if 48 ≤ b ∧ b ≤ 57 then b - 48 else if 65 ≤ b ∧ b ≤ 90 then b - 55 else if 97 ≤ b ∧ b ≤ 122 then b - 87 else -1
/-- .. to a base. -/
def digV (b base : Int) : Int := if base < 2 ∨ 36 < base then -1 else if digN b < base then digN b else -1
theorem idx_digs : ∀ n : Fin 256, Lib.indexByte digs (n.val.toUInt8) = digN (if 65 ≤ (n.val : Int) ∧ (n.val : Int) ≤ 90 then -1 else n.val) := by decide +kernel
theorem idx_of (b : Int) (h0 : 0 ≤ b) (h1 : b < 256) (h2 : ¬ (65 ≤ b ∧ b ≤ 90)) : Lib.indexByte digs b.toNat.toUInt8 = digN b := by
  obtain ⟨n, rfl⟩ := Int.eq_ofNat_of_zero_le h0
  have := idx_digs ⟨n, by omega⟩
  rw [if_neg (by simpa using h2)] at this
  simpa using this
theorem idx_up (b : Int) (h0 : 65 ≤ b) (h1 : b ≤ 90) : Lib.indexByte digs (b + 32).toNat.toUInt8 = digN b := by
  rw [idx_of (b + 32) (by omega) (by omega) (by omega)]
  unfold digN
  rw [if_neg (by omega), if_neg (by omega), if_pos (by omega), if_neg (by omega), if_pos (by omega)]
  omega
/-- The class of a byte. -/
def classV (b : Int) : Int :=
  if 48 ≤ b ∧ b ≤ 57 then 9 else if 65 ≤ b ∧ b ≤ 70 then 10 else if 97 ≤ b ∧ b ≤ 102 then 12 else if 65 ≤ b ∧ b ≤ 90 then 2 else if 97 ≤ b ∧ b ≤ 122 then 4 else if b < 32 ∨ b = 127 then 16 else if 127 < b then 32 else if b = 32 then 128 else 64
set_option maxHeartbeats 4000000 in
set_option maxRecDepth 100000 in
theorem class_walk (b : Int) (h0 : 0 ≤ b) (h1 : b < 256) (w : World) : Calls Tryz.prog 73 #[.int .u8 b] w fun e w' => e = .returned (.int .i64 (classV b)) ∧ w = w' := by
  go_enter Tryz.func73, Tryz.ntmps73
  go_wp2
  all_goals go_ret
  all_goals refine ⟨ret_int ?_, rfl⟩
  all_goals (try simp only [beq_iff_eq, beq_eq_false_iff_ne, ne_eq] at *)
  all_goals unfold classV
  all_goals (repeat' split)
  all_goals omega
theorem class_bits (b : Int) : (bits BinOp.and IntKind.i64 (classV b) 2 != 0) = decide (65 ≤ b ∧ b ≤ 90) := by
  unfold classV
  (repeat' split) <;> rw [eq_comm] <;> first
    | (rw [decide_eq_true (by omega)]; rfl)
    | (rw [decide_eq_false (by omega)]; rfl)
theorem digN_lo (b : Int) : -1 ≤ digN b := by
  unfold digN
  repeat' split
  all_goals omega
theorem digV_of {b base : Int} (h : ¬ (base < 2 ∨ 36 < base)) : digV b base = if digN b < base then digN b else -1 := if_neg h
theorem dig_case {b base i : Int} (h : ¬ (base < 2 ∨ 36 < base)) (hi : i = digN b) : (base ≤ i → digV b base = -1) ∧ (i < base → digV b base = i) := by
  rw [digV_of h, hi]
  exact ⟨fun h => if_neg (by omega), fun h => if_pos h⟩
theorem idx_up' (b : Int) (h : 65 ≤ b ∧ b ≤ 90) : Lib.indexByte [48, 49, 50, 51, 52, 53, 54, 55, 56, 57, 97, 98, 99, 100, 101, 102, 103, 104, 105, 106, 107, 108, 109, 110, 111, 112, 113, 114, 115, 116, 117, 118, 119, 120, 121, 122] (UInt8.ofNat ((b + 32) % 256).toNat) = digN b := by
  rw [show (b + 32) % 256 = b + 32 by omega]
  exact idx_up b h.1 h.2
theorem idx_lo' (b : Int) (h0 : 0 ≤ b) (h1 : b < 256) (h : ¬ (65 ≤ b ∧ b ≤ 90)) : Lib.indexByte [48, 49, 50, 51, 52, 53, 54, 55, 56, 57, 97, 98, 99, 100, 101, 102, 103, 104, 105, 106, 107, 108, 109, 110, 111, 112, 113, 114, 115, 116, 117, 118, 119, 120, 121, 122] (UInt8.ofNat b.toNat) = digN b :=
  idx_of b h0 h1 h
set_option maxHeartbeats 4000000 in
set_option maxRecDepth 100000 in
theorem digit_walk (b base : Int) (h0 : 0 ≤ b) (h1 : b < 256) (w : World) : Calls Tryz.prog 48 #[.int .u8 b, .int .i64 base] w fun e w' => e = .returned (.int .i64 (digV b base)) ∧ w = w' := by
  have HB := class_bits b
  have HC := Aside0.mk HB
  clear HB
  go_enter Tryz.func48, Tryz.ntmps48
  go_wp2_with (first | (go_at_call 73; refine (class_walk b h0 h1 _).mono ?_; rintro e w' ⟨rfl, rfl⟩) | (go_at_call 74; refine (Tryz.strings_IndexByte _ _ _).mono ?_; rintro e w' ⟨rfl, rfl⟩))
  all_goals go_ret
  all_goals refine ⟨ret_int ?_, rfl⟩
  all_goals go_tidy
  all_goals have hB := HC.out
  all_goals clear HC
  all_goals first
    | (rw [show digV b base = -1 from if_pos (by omega)])
    | (rw [‹(bits BinOp.and IntKind.i64 (classV b) 2 != 0) = true›] at hB
       have hu := of_decide_eq_true hB.symm
       have e := idx_up' b hu
       simp only [e] at *
       first | exact ((dig_case (by omega) rfl).1 (by omega)).symm | exact ((dig_case (by omega) rfl).2 (by omega)).symm)
    | (rw [‹(bits BinOp.and IntKind.i64 (classV b) 2 != 0) = false›] at hB
       have hu := of_decide_eq_false hB.symm
       have e := idx_lo' b h0 h1 hu
       simp only [e] at *
       first | exact ((dig_case (by omega) rfl).1 (by omega)).symm | exact ((dig_case (by omega) rfl).2 (by omega)).symm)
    | trace_state
end Go.Proofs.YtcgdjnmfeibnoaaGreatDoor
/-! Bytes -/
namespace Go.Proofs.YtcgdjnmfeibnoaaGreatDoor
open Go.RowKit Go.Proofs.YtcgdjnmfeibnoaaGreatDoorW.PrintWords
set_option linter.unusedVariables false
set_option linter.unusedSimpArgs false
/-- A list of bytes as a text. -/
def BA (l : List UInt8) : ByteArray := ⟨l.toArray⟩
theorem ba_list (l : List UInt8) : (BA l).data.toList = l := rfl
theorem ba_of (s : ByteArray) : BA s.data.toList = s := Lib.mk_data s
theorem ba_size (l : List UInt8) : (BA l).size = l.length := rfl
theorem ba_ext {a b : ByteArray} (h : a.data.toList = b.data.toList) : a = b := by rw [← ba_of a, ← ba_of b, h]
theorem extract_ba (s : ByteArray) (a b : Nat) : s.extract a b = BA ((s.data.toList.drop a).take (b - a)) := ba_ext (Lib.extract_data s a b)
theorem extract_head (s : ByteArray) (a : Nat) : s.extract 0 a = BA (s.data.toList.take a) := by rw [extract_ba]; simp
theorem toList_data (s : ByteArray) : s.toList = s.data.toList := ByteArray.toList_eq s
theorem bt_get (s : ByteArray) (k : Nat) (h : k < s.data.toList.length) : bt s (k : Int) = ((s.data.toList[k]'h).toNat : Int) := by
  have hk : k < s.size := by rw [Lib.size_eq]; exact h
  have := bt_at s (k : Int) (by simpa using hk)
  rw [← this]
  rfl
theorem size_len (s : ByteArray) : s.size = s.data.toList.length := Lib.size_eq s
theorem byte_eq (a b : UInt8) : ((a.toNat : Int) = (b.toNat : Int)) ↔ a = b := by
  rw [Int.natCast_inj]
  exact UInt8.toNat_inj
/-- A list cut at each byte c. -/
def splitC (c : UInt8) : List UInt8 → List (List UInt8)
  | [] => [[]]
  | b :: l => if b = c then [] :: splitC c l else
    match splitC c l with
    | [] => [[b]]
    | p :: ps => (b :: p) :: ps
/-- p ahead of the first piece. -/
def ahead1 (p : List UInt8) : List (List UInt8) → List (List UInt8)
  | [] => [p]
  | q :: qs => (p ++ q) :: qs
theorem splitC_ne (c : UInt8) (l : List UInt8) : splitC c l ≠ [] := by
  cases l with
  | nil => simp [splitC]
  | cons b l =>
    unfold splitC
    split
    · simp
    · split <;> simp
theorem splitC_eq (c : UInt8) (l : List UInt8) : splitC c (c :: l) = [] :: splitC c l := by rw [splitC, if_pos rfl]
theorem splitC_cons {c b : UInt8} (h : b ≠ c) (l : List UInt8) : splitC c (b :: l) = ahead1 [b] (splitC c l) := by
  rw [splitC, if_neg h]
  cases splitC c l <;> rfl
theorem splitC_len (c : UInt8) (l : List UInt8) : (splitC c l).length ≤ l.length + 1 := by
  induction l with
  | nil => simp [splitC]
  | cons b l ih =>
    unfold splitC
    split
    · simp; omega
    · split
      · simp
      · rename_i h; rw [h] at ih; simp at *; omega
theorem split_one (c : UInt8) : ∀ l : List UInt8, Lib.split l [c] = splitC c l
  | [] => by simp [Lib.split, Lib.count_one, Lib.splitK, splitC]
  | b :: l => by
    have ih := split_one c l
    unfold Lib.split at *
    by_cases h : b = c
    · subst h
      rw [Lib.count_cons_eq, Nat.add_comm, Lib.splitK, splitC_eq, ← ih]
      have : Lib.index (b :: l) [b] = 0 := by rw [Lib.index]; simp [List.isPrefixOf]
      rw [this]
      simp
    · rw [Lib.count_cons_ne b c l h, splitC_cons h, ← ih]
      have hix : Lib.index (b :: l) [c] = if Lib.index l [c] == -1 then -1 else Lib.index l [c] + 1 := by
        rw [Lib.index]
        simp [List.isPrefixOf, Ne.symm h]
      generalize hk : Lib.count l [c] = k
      cases k with
      | zero => rfl
      | succ k =>
        rw [Lib.splitK, Lib.splitK, hix]
        have hge := Lib.index_ge l [c]
        by_cases hm : Lib.index l [c] = -1
        · simp [hm, ahead1]
        · rw [if_neg (by simp; omega), if_neg (by simpa using hm), if_neg (by simpa using hm)]
          have e : (Lib.index l [c] + 1).toNat = (Lib.index l [c]).toNat + 1 := by omega
          rw [e]
          simp [ahead1]
/-- The library's split at one byte. -/
theorem splitB_one (s : ByteArray) (c : UInt8) : Lib.splitB (BA [c]) 0 (Lib.countB s (BA [c])) s = (splitC c s.data.toList).map BA := by
  have h : (Lib.splitB (BA [c]) 0 (Lib.countB s (BA [c])) s).map (fun x => x.data.toList) = Lib.split s.data.toList [c] := Lib.splitB_data (BA [c]) 0 (Lib.countB s (BA [c])) s
  rw [← split_one, ← h, List.map_map]
  rw [show (BA ∘ fun x => x.data.toList) = id from funext fun x => ba_of x, List.map_id]
theorem rd_map (L : List (List UInt8)) (i : Nat) (hi : i < L.length) : rdOf ByteArray.empty (L.map BA) (i : Int) = BA L[i] := by
  unfold rdOf
  rw [Int.toNat_natCast, List.getD_eq_getElem?_getD, List.getElem?_map, List.getElem?_eq_getElem hi]
  rfl
theorem splitC_part (c : UInt8) (l : List UInt8) : ∀ w ∈ splitC c l, w.length ≤ l.length := by
  induction l with
  | nil => intro w hw; simp [splitC] at hw; simp [hw]
  | cons b l ih =>
    intro w hw
    by_cases hb : b = c
    · subst hb
      rw [splitC_eq] at hw
      rcases List.mem_cons.1 hw with rfl | hw
      · simp
      · have := ih w hw; simp; omega
    · rw [splitC_cons hb] at hw
      cases hL : splitC c l with
      | nil => exact absurd hL (splitC_ne c l)
      | cons p ps =>
        rw [hL] at hw ih
        simp only [ahead1] at hw
        rcases List.mem_cons.1 hw with rfl | hw
        · have := ih p (by simp); simp at *; omega
        · have := ih w (by simp [hw]); simp; omega
end Go.Proofs.YtcgdjnmfeibnoaaGreatDoor
/-! DigL -/
namespace Go.Proofs.YtcgdjnmfeibnoaaGreatDoor
open Go.RowKit Go.Proofs.YtcgdjnmfeibnoaaGreatDoorW.PrintWords
set_option linter.unusedVariables false
set_option linter.unusedSimpArgs false
theorem digV_lt {b base : Int} (h : 2 ≤ base) : digV b base < base := by
  unfold digV
  repeat' split
  all_goals omega
theorem digV_lo (b base : Int) : -1 ≤ digV b base := by
  unfold digV
  have := digN_lo b
  repeat' split
  all_goals omega
end Go.Proofs.YtcgdjnmfeibnoaaGreatDoor
/-! SixNV -/
namespace Go.Proofs.YtcgdjnmfeibnoaaGreatDoor
open Go.RowKit Go.Proofs.YtcgdjnmfeibnoaaGreatDoorW.PrintWords
set_option linter.unusedVariables false
set_option linter.unusedSimpArgs false
/-- Where a reader of the program may stand. -/
structure St where
  wh : Int
  pc : Int
  gap : Bool
  dg : Int
  nu : Int
  va : Int
def moreP (x : St) : Bool := if x.gap then decide (x.pc < 7) else decide (x.pc < 8)
def mayP (x : St) : Bool := if x.gap then decide (x.pc ≤ 5) else decide (x.pc = 6)
def beginP (x : St) (c : Int) : List St :=
  (if 0 ≤ digV c 16 ∧ moreP x = true then [{ x with wh := 4, dg := 1 }] else []) ++ (if 0 ≤ digV c 10 ∧ mayP x = true then [{ x with wh := 5, va := digV c 10 }] else [])
def nextP (x : St) (c : Int) : List St :=
  if x.wh = 0 ∧ c = 58 then [{ x with wh := 1 }]
  else if (x.wh = 1 ∨ x.wh = 2 ∧ x.gap = false) ∧ c = 58 then [{ x with wh := 3, gap := true }]
  else if x.wh = 0 ∨ x.wh = 2 ∨ x.wh = 3 then beginP x c
  else if x.wh = 4 ∧ c = 58 then (if moreP { x with wh := 2, pc := x.pc + 1 } = true then [{ x with wh := 2, pc := x.pc + 1 }] else [])
  else if x.wh = 4 ∧ 0 ≤ digV c 16 ∧ x.dg < 4 then [{ x with dg := x.dg + 1 }]
  else if x.wh = 5 ∧ c = 46 ∧ x.nu < 3 then [{ x with wh := 6, nu := x.nu + 1 }]
  else if x.wh = 6 ∧ 0 ≤ digV c 10 then [{ x with wh := 5, va := digV c 10 }]
  else if x.wh = 5 ∧ 0 ≤ digV c 10 ∧ 0 < x.va ∧ 10 * x.va + digV c 10 ≤ 255 then [{ x with va := 10 * x.va + digV c 10 }]
  else []
def endsP (x : St) : Bool := if x.wh = 3 then true else if x.wh = 4 then (x.gap || decide (x.pc = 7)) else if x.wh = 5 then decide (x.nu = 3) else false
/-- The document's scan so far. -/
structure Sc where
  L : Nat → Int
  N : Int
  skip : Int
  st : Int
  digs : Int
  val : Int
  ten : Int
  parts : Int
  four : Int
def Sc.bad (x : Sc) : Sc := { x with st := 7 }
def Sc.room (x : Sc) : Int := if 0 ≤ x.skip then 7 - x.N else 8 - x.N
def Sc.more (x : Sc) (b : Int) : Sc :=
  { x with ten := if b < 48 ∨ 57 < b ∨ (0 < x.digs ∧ x.ten = 0) ∨ x.ten < 0 ∨ 255 < 10 * x.ten + (b - 48) then -1 else 10 * x.ten + (b - 48), digs := x.digs + 1, val := 16 * x.val + digV b 16 }
def Sc.first (x : Sc) (b : Int) : Sc :=
  if digV b 16 < 0 ∨ x.room < 1 then { x with st := 7, digs := 0, val := 0, ten := 0 } else { x with st := 4, digs := 0, val := 0, ten := 0 : Sc }.more b
def Sc.closed (x : Sc) : Sc := { x with L := fun j => if (j : Int) = x.N then x.val % 65536 else x.L j, N := x.N + 1 }
def Sc.fits (x : Sc) : Bool := decide (x.N = 6 ∧ x.skip < 0 ∨ x.N ≤ 5 ∧ 0 ≤ x.skip)
def Sc.dotted (x : Sc) : Sc := if x.ten < 0 ∨ x.fits = false then { x with st := 7 } else { x with four := x.ten, parts := 1, st := 5 }
def Sc.step (x : Sc) (b : Int) : Sc :=
  if x.st = 0 then (if b = 58 then { x with st := 1 } else x.first b)
  else if x.st = 1 then (if b = 58 then { x with skip := 0, st := 3 } else x.bad)
  else if x.st = 2 then (if b = 58 ∧ x.skip < 0 ∧ x.N ≤ 7 then { x with skip := x.N, st := 3 } else x.first b)
  else if x.st = 3 then x.first b
  else if x.st = 4 then
    (if 0 ≤ digV b 16 then (if x.digs = 4 then x.bad else x.more b)
     else if b = 58 ∧ x.parts = 0 then (if x.N + 1 = 8 ∨ (0 ≤ x.skip ∧ x.N + 1 = 7) then x.bad else { x.closed with st := 2 })
     else if b = 46 then x.dotted else x.bad)
  else if x.st = 5 then (if 48 ≤ b ∧ b ≤ 57 then { x with st := 6, digs := 1, ten := b - 48 } else x.bad)
  else if x.st = 6 then
    (if 48 ≤ b ∧ b ≤ 57 ∧ 0 < x.digs ∧ 0 < x.ten ∧ 10 * x.ten + (b - 48) ≤ 255 then { x with digs := x.digs + 1, ten := 10 * x.ten + (b - 48) }
     else if b = 46 ∧ x.parts < 3 then { x with four := 256 * x.four + x.ten, parts := x.parts + 1, st := 5 } else x.bad)
  else x.bad
/-- The bounds of a scan. -/
structure Inv (x : Sc) : Prop where
  k0 : -1 ≤ x.skip
  n0 : 0 ≤ x.N
  n7 : x.N ≤ 7
  kn : x.skip ≤ x.N
structure Com (x : Sc) (s : St) : Prop where
  pc : s.pc = x.N
  gap : s.gap = decide (0 ≤ x.skip)
/-- What digits say to the base 10. -/
def TenOk (digs ten : Int) : Prop := ten = -1 ∨ (0 ≤ ten ∧ ten ≤ 255 ∧ (digs = 1 ∧ ten ≤ 9 ∨ digs = 2 ∧ 10 ≤ ten ∨ digs = 3 ∧ 100 ≤ ten))
/-- A scan and the program's states say the same. -/
inductive Sim : Sc → List St → Prop
  | ahead {x : Sc} {s : St} (h : x.st = 0 ∨ x.st = 1 ∨ x.st = 2 ∨ x.st = 3) (hi : Inv x) (hc : Com x s) (hw : s.wh = x.st) (hn : s.nu = 0) (hp : x.parts = 0) (h1 : x.st ≤ 1 → x.skip = -1 ∧ x.N = 0) (h3 : x.st = 3 → 0 ≤ x.skip) (h2 : x.st = 2 → 0 ≤ x.skip → x.N ≤ 6) : Sim x [s]
  | piece {x : Sc} {s : St} (h : x.st = 4) (hi : Inv x) (hr : 1 ≤ x.room) (hp : x.parts = 0) (d1 : 1 ≤ x.digs) (d4 : x.digs ≤ 4) (ht : TenOk x.digs x.ten) (hc : Com x s) (hw : s.wh = 4) (hd : s.dg = x.digs) (hn : s.nu = 0) (hno : x.ten < 0 ∨ x.fits = false) : Sim x [s]
  | both {x : Sc} {s t : St} (h : x.st = 4) (hi : Inv x) (hr : 1 ≤ x.room) (hp : x.parts = 0) (d1 : 1 ≤ x.digs) (d4 : x.digs ≤ 4) (ht : TenOk x.digs x.ten) (hc : Com x s) (hw : s.wh = 4) (hd : s.dg = x.digs) (hn : s.nu = 0) (t0 : 0 ≤ x.ten) (hf : x.fits = true)
      (kc : Com x t) (kw : t.wh = 5) (kn : t.nu = 0) (kv : t.va = x.ten) : Sim x [s, t]
  | stop {x : Sc} {s : St} (h : x.st = 5) (hi : Inv x) (hf : x.fits = true) (p1 : 1 ≤ x.parts) (p3 : x.parts ≤ 3) (hc : Com x s) (hw : s.wh = 6) (hn : s.nu = x.parts) : Sim x [s]
  | part {x : Sc} {s : St} (h : x.st = 6) (hi : Inv x) (hf : x.fits = true) (p1 : 1 ≤ x.parts) (p3 : x.parts ≤ 3) (d1 : 1 ≤ x.digs) (ht : TenOk x.digs x.ten) (t0 : 0 ≤ x.ten) (t1 : x.ten ≤ 255) (hc : Com x s) (hw : s.wh = 5) (hn : s.nu = x.parts) (hv : s.va = x.ten) : Sim x [s]
theorem digV10 (c : Int) : digV c 10 = if 48 ≤ c ∧ c ≤ 57 then c - 48 else -1 := by
  unfold digV digN
  repeat' split
  all_goals omega
theorem digV16 (c : Int) : digV c 16 = if 48 ≤ c ∧ c ≤ 57 then c - 48 else if 65 ≤ c ∧ c ≤ 70 then c - 55 else if 97 ≤ c ∧ c ≤ 102 then c - 87 else -1 := by
  unfold digV digN
  repeat' split
  all_goals omega
theorem more_com {x : Sc} {s : St} (h : Com x s) : moreP s = decide (1 ≤ x.room) := by
  unfold moreP Sc.room
  rw [h.gap, h.pc]
  by_cases hk : 0 ≤ x.skip
  · rw [decide_eq_true hk, if_pos rfl, if_pos hk]; exact decide_eq_decide.2 (by omega)
  · rw [decide_eq_false hk, if_neg (by simp), if_neg hk]; exact decide_eq_decide.2 (by omega)
theorem may_com {x : Sc} {s : St} (h : Com x s) : mayP s = x.fits := by
  unfold mayP Sc.fits
  rw [h.gap, h.pc]
  by_cases hk : 0 ≤ x.skip
  · rw [decide_eq_true hk, if_pos rfl]; exact decide_eq_decide.2 (by omega)
  · rw [decide_eq_false hk, if_neg (by simp)]; exact decide_eq_decide.2 (by omega)
theorem fits_room {x : Sc} (h : x.fits = true) : 1 ≤ x.room := by
  unfold Sc.fits at h
  unfold Sc.room
  have := of_decide_eq_true h
  split <;> omega
/-- The first byte of a piece. -/
theorem first_sim {x : Sc} {s : St} (hi : Inv x) (hc : Com x s) (hn : s.nu = 0) (hp : x.parts = 0) (c : Int) :
    ((x.first c).st = 7 ∧ beginP s c = []) ∨ ((x.first c).st = 4 ∧ Sim (x.first c) (beginP s c)) := by
  unfold Sc.first beginP
  rw [more_com hc, may_com hc]
  by_cases hd : digV c 16 < 0 ∨ x.room < 1
  · rw [if_pos hd]
    refine .inl ⟨rfl, ?_⟩
    have hm : ¬ (0 ≤ digV c 10 ∧ x.fits = true) := by
      rintro ⟨a, b⟩
      have := fits_room b
      rw [digV10] at a
      rw [digV16] at hd
      split at a
      · rename_i h; rw [if_pos h] at hd; omega
      · omega
    rw [if_neg (by simp; omega), if_neg hm]
    rfl
  · rw [if_neg hd]
    refine .inr ⟨rfl, ?_⟩
    rw [if_pos ⟨by omega, by simp; omega⟩]
    by_cases hm : 0 ≤ digV c 10 ∧ x.fits = true
    · rw [if_pos hm]
      have h10 := hm.1
      rw [digV10] at h10
      have hr : 48 ≤ c ∧ c ≤ 57 := by by_cases h : 48 ≤ c ∧ c ≤ 57; exact h; rw [if_neg h] at h10; omega
      have ht : ({ x with st := 4, digs := 0, val := 0, ten := 0 : Sc }.more c).ten = c - 48 := by
        unfold Sc.more
        show (if _ then _ else _) = _
        rw [if_neg (by show ¬ (c < 48 ∨ 57 < c ∨ ((0 : Int) < 0 ∧ (0 : Int) = 0) ∨ (0 : Int) < 0 ∨ 255 < 10 * (0 : Int) + (c - 48)); omega)]
        show 10 * (0 : Int) + (c - 48) = _
        omega
      refine Sim.both rfl ⟨hi.k0, hi.n0, hi.n7, hi.kn⟩ (fits_room hm.2) hp (by show 1 ≤ (0 : Int) + 1; omega) (by show (0 : Int) + 1 ≤ 4; omega) ?_ ⟨hc.pc, hc.gap⟩ rfl rfl hn (by rw [ht]; omega) hm.2 ⟨hc.pc, hc.gap⟩ rfl hn (by rw [ht]; show digV c 10 = _; rw [digV10, if_pos hr])
      rw [ht]
      exact .inr ⟨by omega, by omega, .inl ⟨rfl, by omega⟩⟩
    · rw [if_neg hm]
      have hr : ¬ (48 ≤ c ∧ c ≤ 57) ∨ x.fits = false := by
        by_cases hf : x.fits = true
        · left
          intro h
          exact hm ⟨by rw [digV10, if_pos h]; omega, hf⟩
        · right; simpa using hf
      refine Sim.piece rfl ⟨hi.k0, hi.n0, hi.n7, hi.kn⟩ (by show 1 ≤ x.room; omega) hp (by show 1 ≤ (0 : Int) + 1; omega) (by show (0 : Int) + 1 ≤ 4; omega) ?_ ⟨hc.pc, hc.gap⟩ rfl rfl hn ?_
      · show TenOk 1 (if c < 48 ∨ 57 < c ∨ ((0 : Int) < 0 ∧ (0 : Int) = 0) ∨ (0 : Int) < 0 ∨ 255 < 10 * (0 : Int) + (c - 48) then -1 else 10 * 0 + (c - 48))
        split
        · exact .inl rfl
        · exact .inr ⟨by omega, by omega, .inl ⟨rfl, by omega⟩⟩
      · rcases hr with h | h
        · left
          show (if c < 48 ∨ 57 < c ∨ ((0 : Int) < 0 ∧ (0 : Int) = 0) ∨ (0 : Int) < 0 ∨ 255 < 10 * (0 : Int) + (c - 48) then -1 else 10 * 0 + (c - 48)) < 0
          rw [if_pos (by omega)]; omega
        · exact .inr h
/-- What a digit more says to the base 10. -/
theorem ten_more {x : Sc} (ht : TenOk x.digs x.ten) (d1 : 1 ≤ x.digs) (c : Int) : TenOk (x.more c).digs (x.more c).ten := by
  show TenOk (x.digs + 1) (if c < 48 ∨ 57 < c ∨ (0 < x.digs ∧ x.ten = 0) ∨ x.ten < 0 ∨ 255 < 10 * x.ten + (c - 48) then -1 else 10 * x.ten + (c - 48))
  split
  · exact .inl rfl
  · rename_i h
    rcases ht with h' | h'
    · omega
    · exact .inr ⟨by omega, by omega, by omega⟩
theorem more_ten_lt {x : Sc} {c : Int} (h : c < 48 ∨ 57 < c ∨ x.ten < 0) : (x.more c).ten < 0 := by
  show (if c < 48 ∨ 57 < c ∨ (0 < x.digs ∧ x.ten = 0) ∨ x.ten < 0 ∨ 255 < 10 * x.ten + (c - 48) then -1 else 10 * x.ten + (c - 48)) < 0
  rw [if_pos (by omega)]; decide
/-- What the state in a piece does. -/
theorem next_piece {x : Sc} {s : St} (hc : Com x s) (hw : s.wh = 4) (hd : s.dg = x.digs) (c : Int) :
    nextP s c = if c = 58 then (if 2 ≤ x.room then [{ s with wh := 2, pc := s.pc + 1 }] else []) else if 0 ≤ digV c 16 ∧ x.digs < 4 then [{ s with dg := s.dg + 1 }] else [] := by
  unfold nextP
  rw [if_neg (by omega), if_neg (by omega), if_neg (by omega)]
  have hm : moreP { s with wh := 2, pc := s.pc + 1 } = decide (2 ≤ x.room) := by
    have hcom : Com { x with N := x.N + 1 } { s with wh := 2, pc := s.pc + 1 } := ⟨by show s.pc + 1 = x.N + 1; rw [hc.pc], hc.gap⟩
    rw [more_com hcom]
    unfold Sc.room
    show decide (1 ≤ if 0 ≤ x.skip then 7 - (x.N + 1) else 8 - (x.N + 1)) = _
    split <;> exact decide_eq_decide.2 (by omega)
  by_cases h : c = 58
  · rw [if_pos ⟨hw, h⟩, if_pos h, hm]
    simp only [decide_eq_true_eq]
  · rw [if_neg (fun q => h q.2), if_neg h]
    by_cases hd' : 0 ≤ digV c 16 ∧ x.digs < 4
    · rw [if_pos ⟨hw, hd'.1, by omega⟩, if_pos hd']
    · rw [if_neg (by omega), if_neg hd', if_neg (by omega), if_neg (by omega), if_neg (by omega)]
/-- What the document does behind a piece. -/
theorem step_colon {x : Sc} (h : x.st = 4) (hp : x.parts = 0) (hr : 1 ≤ x.room) (hi : Inv x) : x.step 58 = if 2 ≤ x.room then { x.closed with st := 2 } else x.bad := by
  unfold Sc.step
  rw [if_neg (by omega), if_neg (by omega), if_neg (by omega), if_neg (by omega), if_pos h, if_neg (by rw [digV16]; decide), if_pos ⟨rfl, hp⟩]
  unfold Sc.room at hr ⊢
  have := hi.n7
  by_cases hk : 0 ≤ x.skip
  · rw [if_pos hk] at hr ⊢
    by_cases h2 : 2 ≤ 7 - x.N
    · rw [if_pos h2, if_neg (by omega)]
    · rw [if_neg h2, if_pos (by omega)]
  · rw [if_neg hk] at hr ⊢
    by_cases h2 : 2 ≤ 8 - x.N
    · rw [if_pos h2, if_neg (by omega)]
    · rw [if_neg h2, if_pos (by omega)]
theorem colon_sim {x : Sc} {s : St} (h : x.st = 4) (hi : Inv x) (hr : 2 ≤ x.room) (hp : x.parts = 0) (hc : Com x s) (hn : s.nu = 0) : Sim { x.closed with st := 2 } [{ s with wh := 2, pc := s.pc + 1 }] := by
  have hr' : x.N ≤ 6 ∧ (0 ≤ x.skip → x.N + 1 ≤ 6) := by
    unfold Sc.room at hr
    split at hr <;> omega
  refine Sim.ahead (.inr (.inr (.inl rfl))) ⟨hi.k0, by have := hi.n0; show 0 ≤ x.N + 1; omega, by show x.N + 1 ≤ 7; omega, by have := hi.kn; show x.skip ≤ x.N + 1; omega⟩ ⟨by show s.pc + 1 = x.N + 1; rw [hc.pc], hc.gap⟩ rfl hn hp (fun h => absurd (show (2 : Int) ≤ 1 from h) (by decide)) (fun h => absurd (show (2 : Int) = 3 from h) (by decide)) (fun _ hk => hr'.2 hk)
/-- One byte more: both refuse, or both go on. -/
theorem step_sim {x : Sc} {l : List St} (h : Sim x l) (c : Int) :
    ((x.step c).st = 7 ∧ l.flatMap (nextP · c) = []) ∨ ((x.step c).st ≠ 7 ∧ Sim (x.step c) (l.flatMap (nextP · c))) := by
  cases h with
  | @ahead s h hi hc hw hn hp h1 h3 h2 =>
    simp only [List.flatMap_cons, List.flatMap_nil, List.append_nil]
    rcases h with h | h | h | h
    · obtain ⟨e1, e2⟩ := h1 (by omega)
      unfold Sc.step nextP
      rw [if_pos h]
      by_cases hb : c = 58
      · rw [if_pos hb, if_pos ⟨by omega, hb⟩]
        exact .inr ⟨by show (1 : Int) ≠ 7; decide, Sim.ahead (.inr (.inl rfl)) ⟨hi.k0, hi.n0, hi.n7, hi.kn⟩ ⟨hc.pc, hc.gap⟩ rfl hn hp (fun _ => ⟨e1, e2⟩) (fun h => absurd (show (1 : Int) = 3 from h) (by decide)) (fun h => absurd (show (1 : Int) = 2 from h) (by decide))⟩
      · rw [if_neg hb, if_neg (by omega), if_neg (by omega), if_pos (by omega)]
        rcases first_sim hi hc hn hp c with ⟨a, b⟩ | ⟨a, b⟩
        · exact .inl ⟨a, b⟩
        · exact .inr ⟨by omega, b⟩
    · obtain ⟨e1, e2⟩ := h1 (by omega)
      unfold Sc.step nextP
      rw [if_neg (by omega), if_pos h]
      by_cases hb : c = 58
      · rw [if_pos hb, if_neg (by omega), if_pos ⟨.inl (by omega), hb⟩]
        exact .inr ⟨by show (3 : Int) ≠ 7; decide, Sim.ahead (.inr (.inr (.inr rfl))) ⟨by show (-1 : Int) ≤ 0; decide, hi.n0, hi.n7, hi.n0⟩ ⟨hc.pc, rfl⟩ rfl hn hp (fun h => absurd (show (3 : Int) ≤ 1 from h) (by decide)) (fun _ => Int.le_refl 0) (fun h => absurd (show (3 : Int) = 2 from h) (by decide))⟩
      · rw [if_neg hb, if_neg (by omega), if_neg (by omega), if_neg (by omega), if_neg (by omega), if_neg (by omega), if_neg (by omega), if_neg (by omega), if_neg (by omega)]
        exact .inl ⟨rfl, rfl⟩
    · unfold Sc.step nextP
      rw [if_neg (by omega), if_neg (by omega), if_pos h]
      have hg : s.gap = false ↔ x.skip < 0 := by rw [hc.gap]; simp
      by_cases hb : c = 58 ∧ x.skip < 0
      · rw [if_pos ⟨hb.1, hb.2, hi.n7⟩, if_neg (by omega), if_pos ⟨.inr ⟨by omega, hg.2 hb.2⟩, hb.1⟩]
        exact .inr ⟨by show (3 : Int) ≠ 7; decide, Sim.ahead (.inr (.inr (.inr rfl))) ⟨by have := hi.n0; show -1 ≤ x.N; omega, hi.n0, hi.n7, Int.le_refl _⟩ ⟨hc.pc, (decide_eq_true hi.n0).symm⟩ rfl hn hp (fun h => absurd (show (3 : Int) ≤ 1 from h) (by decide)) (fun _ => hi.n0) (fun h => absurd (show (3 : Int) = 2 from h) (by decide))⟩
      · rw [if_neg (fun q => hb ⟨q.1, q.2.1⟩), if_neg (by omega), if_neg (by rintro ⟨q | q, e⟩; omega; exact hb ⟨e, hg.1 q.2⟩), if_pos (by omega)]
        rcases first_sim hi hc hn hp c with ⟨a, b⟩ | ⟨a, b⟩
        · exact .inl ⟨a, b⟩
        · exact .inr ⟨by omega, b⟩
    · unfold Sc.step nextP
      rw [if_neg (by omega), if_neg (by omega), if_neg (by omega), if_pos h]
      rw [if_neg (by omega), if_neg (by omega), if_pos (by omega)]
      rcases first_sim hi hc hn hp c with ⟨a, b⟩ | ⟨a, b⟩
      · exact .inl ⟨a, b⟩
      · exact .inr ⟨by omega, b⟩
  | @piece s h hi hr hp d1 d4 ht hc hw hd hn hno =>
    simp only [List.flatMap_cons, List.flatMap_nil, List.append_nil]
    rw [next_piece hc hw hd]
    by_cases h58 : c = 58
    · subst h58
      rw [if_pos rfl, step_colon h hp hr hi]
      by_cases h2 : 2 ≤ x.room
      · rw [if_pos h2, if_pos h2]
        exact .inr ⟨by show (2 : Int) ≠ 7; decide, colon_sim h hi h2 hp hc hn⟩
      · rw [if_neg h2, if_neg h2]
        exact .inl ⟨rfl, rfl⟩
    · rw [if_neg h58]
      unfold Sc.step
      rw [if_neg (by omega), if_neg (by omega), if_neg (by omega), if_neg (by omega), if_pos h]
      by_cases hx : 0 ≤ digV c 16
      · rw [if_pos hx]
        by_cases h4 : x.digs = 4
        · rw [if_pos h4, if_neg (by omega)]
          exact .inl ⟨rfl, rfl⟩
        · rw [if_neg h4, if_pos ⟨hx, by omega⟩]
          refine .inr ⟨by show x.st ≠ 7; omega, Sim.piece h ⟨hi.k0, hi.n0, hi.n7, hi.kn⟩ hr hp (by show 1 ≤ x.digs + 1; omega) (by show x.digs + 1 ≤ 4; omega) (ten_more ht d1 c) ⟨hc.pc, hc.gap⟩ hw (by show s.dg + 1 = x.digs + 1; omega) hn ?_⟩
          rcases hno with h' | h'
          · exact .inl (more_ten_lt (.inr (.inr h')))
          · exact .inr h'
      · rw [if_neg hx, if_neg (fun q : c = 58 ∧ x.parts = 0 => h58 q.1), if_neg (fun q : 0 ≤ digV c 16 ∧ x.digs < 4 => hx q.1)]
        by_cases hs : c = 46
        · rw [if_pos hs]
          unfold Sc.dotted
          rw [if_pos hno]
          exact .inl ⟨rfl, rfl⟩
        · rw [if_neg hs]
          exact .inl ⟨rfl, rfl⟩
  | @both s t h hi hr hp d1 d4 ht hc hw hd hn t0 hf kc kw kn kv =>
    simp only [List.flatMap_cons, List.flatMap_nil, List.append_nil]
    rw [next_piece hc hw hd]
    have h3 : x.digs ≤ 3 := by unfold TenOk at ht; omega
    have hN : nextP t c = if c = 46 then [{ t with wh := 6, nu := t.nu + 1 }] else if 0 ≤ digV c 10 ∧ 0 < x.ten ∧ 10 * x.ten + digV c 10 ≤ 255 then [{ t with va := 10 * t.va + digV c 10 }] else [] := by
      unfold nextP
      rw [if_neg (by omega), if_neg (by omega), if_neg (by omega), if_neg (by omega), if_neg (by omega)]
      by_cases hs : c = 46
      · rw [if_pos ⟨kw, hs, by omega⟩, if_pos hs]
      · rw [if_neg (by omega), if_neg (by omega), if_neg hs, kv]
        by_cases q : 0 ≤ digV c 10 ∧ 0 < x.ten ∧ 10 * x.ten + digV c 10 ≤ 255
        · rw [if_pos ⟨kw, q⟩, if_pos q]
        · rw [if_neg (fun z => q z.2), if_neg q]
    rw [hN]
    clear hN
    have e := digV10 c
    by_cases h58 : c = 58
    · subst h58
      rw [if_pos rfl, step_colon h hp hr hi, if_neg (show ¬ (58 : Int) = 46 by decide), if_neg (show ¬ (0 ≤ digV 58 10 ∧ 0 < x.ten ∧ 10 * x.ten + digV 58 10 ≤ 255) by rw [e]; rintro ⟨q, _⟩; exact absurd q (by decide)), List.append_nil]
      by_cases h2 : 2 ≤ x.room
      · rw [if_pos h2, if_pos h2]
        exact .inr ⟨by show (2 : Int) ≠ 7; decide, colon_sim h hi h2 hp hc hn⟩
      · rw [if_neg h2, if_neg h2]
        exact .inl ⟨rfl, rfl⟩
    · rw [if_neg h58]
      unfold Sc.step
      rw [if_neg (by omega), if_neg (by omega), if_neg (by omega), if_neg (by omega), if_pos h]
      by_cases hx : 0 ≤ digV c 16
      · have h46 : c ≠ 46 := by
          rintro rfl
          rw [digV16] at hx
          exact absurd hx (by decide)
        rw [if_pos hx, if_neg (by omega), if_pos ⟨hx, by omega⟩, if_neg h46]
        by_cases hq : 0 ≤ digV c 10 ∧ 0 < x.ten ∧ 10 * x.ten + digV c 10 ≤ 255
        · rw [if_pos hq]
          have hr' : 48 ≤ c ∧ c ≤ 57 := by
            by_cases z : 48 ≤ c ∧ c ≤ 57
            · exact z
            · rw [if_neg z] at e; omega
          rw [if_pos hr'] at e
          have hm : (x.more c).ten = 10 * x.ten + (c - 48) := by
            show (if c < 48 ∨ 57 < c ∨ (0 < x.digs ∧ x.ten = 0) ∨ x.ten < 0 ∨ 255 < 10 * x.ten + (c - 48) then -1 else 10 * x.ten + (c - 48)) = _
            rw [if_neg (by omega)]
          exact .inr ⟨by show x.st ≠ 7; omega, Sim.both h ⟨hi.k0, hi.n0, hi.n7, hi.kn⟩ hr hp (by show 1 ≤ x.digs + 1; omega) (by show x.digs + 1 ≤ 4; omega) (ten_more ht d1 c) ⟨hc.pc, hc.gap⟩ hw (by show s.dg + 1 = x.digs + 1; omega) hn (by rw [hm]; omega) hf ⟨kc.pc, kc.gap⟩ kw kn (by rw [hm]; show 10 * t.va + digV c 10 = _; rw [kv, e])⟩
        · rw [if_neg hq, List.append_nil]
          refine .inr ⟨by show x.st ≠ 7; omega, Sim.piece h ⟨hi.k0, hi.n0, hi.n7, hi.kn⟩ hr hp (by show 1 ≤ x.digs + 1; omega) (by show x.digs + 1 ≤ 4; omega) (ten_more ht d1 c) ⟨hc.pc, hc.gap⟩ hw (by show s.dg + 1 = x.digs + 1; omega) hn (.inl ?_)⟩
          show (if c < 48 ∨ 57 < c ∨ (0 < x.digs ∧ x.ten = 0) ∨ x.ten < 0 ∨ 255 < 10 * x.ten + (c - 48) then -1 else 10 * x.ten + (c - 48)) < 0
          rw [if_pos]
          · decide
          · by_cases z : 48 ≤ c ∧ c ≤ 57
            · rw [if_pos z] at e
              omega
            · omega
      · have hd : ¬ (48 ≤ c ∧ c ≤ 57) := by
          intro z
          rw [digV16, if_pos z] at hx
          omega
        rw [if_neg hd] at e
        rw [if_neg hx, if_neg (fun q : c = 58 ∧ x.parts = 0 => h58 q.1), if_neg (fun q : 0 ≤ digV c 16 ∧ x.digs < 4 => hx q.1)]
        by_cases hs : c = 46
        · rw [if_pos hs, if_pos hs]
          unfold Sc.dotted
          rw [if_neg (by rintro (q | q); omega; rw [hf] at q; cases q)]
          exact .inr ⟨by show (5 : Int) ≠ 7; decide, Sim.stop rfl ⟨hi.k0, hi.n0, hi.n7, hi.kn⟩ hf (Int.le_refl 1) (by show (1 : Int) ≤ 3; decide) ⟨kc.pc, kc.gap⟩ rfl (by show t.nu + 1 = 1; omega)⟩
        · rw [if_neg hs, if_neg hs, if_neg (by omega)]
          exact .inl ⟨rfl, rfl⟩
  | @stop s h hi hf p1 p3 hc hw hn =>
    simp only [List.flatMap_cons, List.flatMap_nil, List.append_nil]
    have hN : nextP s c = if 0 ≤ digV c 10 then [{ s with wh := 5, va := digV c 10 }] else [] := by
      unfold nextP
      rw [if_neg (by omega), if_neg (by omega), if_neg (by omega), if_neg (by omega), if_neg (by omega), if_neg (by omega)]
      by_cases q : 0 ≤ digV c 10
      · rw [if_pos ⟨hw, q⟩, if_pos q]
      · rw [if_neg (fun z => q z.2), if_neg q, if_neg (by omega)]
    rw [hN]
    clear hN
    unfold Sc.step
    rw [if_neg (by omega), if_neg (by omega), if_neg (by omega), if_neg (by omega), if_neg (by omega), if_pos h]
    have e := digV10 c
    by_cases hb : 48 ≤ c ∧ c ≤ 57
    · rw [if_pos hb] at e
      rw [if_pos hb, if_pos (show 0 ≤ digV c 10 by omega)]
      exact .inr ⟨by show (6 : Int) ≠ 7; decide, Sim.part rfl ⟨hi.k0, hi.n0, hi.n7, hi.kn⟩ hf p1 p3 (by show (1 : Int) ≤ 1; decide) (.inr ⟨by show 0 ≤ c - 48; omega, by show c - 48 ≤ 255; omega, .inl ⟨rfl, by show c - 48 ≤ 9; omega⟩⟩) (by show 0 ≤ c - 48; omega) (by show c - 48 ≤ 255; omega) ⟨hc.pc, hc.gap⟩ rfl hn e⟩
    · rw [if_neg hb] at e
      rw [if_neg hb, if_neg (show ¬ 0 ≤ digV c 10 by omega)]
      exact .inl ⟨rfl, rfl⟩
  | @part s h hi hf p1 p3 d1 ht t0 t1 hc hw hn hv =>
    simp only [List.flatMap_cons, List.flatMap_nil, List.append_nil]
    have hN : nextP s c = if c = 46 ∧ x.parts < 3 then [{ s with wh := 6, nu := s.nu + 1 }] else if 0 ≤ digV c 10 ∧ 0 < x.ten ∧ 10 * x.ten + digV c 10 ≤ 255 then [{ s with va := 10 * s.va + digV c 10 }] else [] := by
      unfold nextP
      rw [if_neg (by omega), if_neg (by omega), if_neg (by omega), if_neg (by omega), if_neg (by omega), hn, hv]
      by_cases q : c = 46 ∧ x.parts < 3
      · rw [if_pos ⟨hw, q⟩, if_pos q]
      · rw [if_neg (fun z => q z.2), if_neg q, if_neg (by omega)]
        by_cases q' : 0 ≤ digV c 10 ∧ 0 < x.ten ∧ 10 * x.ten + digV c 10 ≤ 255
        · rw [if_pos ⟨hw, q'⟩, if_pos q']
        · rw [if_neg (fun z => q' z.2), if_neg q']
    rw [hN]
    clear hN
    unfold Sc.step
    rw [if_neg (by omega), if_neg (by omega), if_neg (by omega), if_neg (by omega), if_neg (by omega), if_neg (by omega), if_pos h]
    have e := digV10 c
    by_cases hb : 48 ≤ c ∧ c ≤ 57 ∧ 0 < x.digs ∧ 0 < x.ten ∧ 10 * x.ten + (c - 48) ≤ 255
    · rw [if_pos ⟨hb.1, hb.2.1⟩] at e
      rw [if_pos hb, if_neg (show ¬ (c = 46 ∧ x.parts < 3) by omega), if_pos (show 0 ≤ digV c 10 ∧ 0 < x.ten ∧ 10 * x.ten + digV c 10 ≤ 255 from ⟨by omega, by omega, by rw [e]; omega⟩)]
      exact .inr ⟨by show x.st ≠ 7; omega, Sim.part h ⟨hi.k0, hi.n0, hi.n7, hi.kn⟩ hf p1 p3 (by show 1 ≤ x.digs + 1; omega) (by show TenOk (x.digs + 1) (10 * x.ten + (c - 48)); unfold TenOk at ht ⊢; omega) (by show 0 ≤ 10 * x.ten + (c - 48); omega) hb.2.2.2.2 ⟨hc.pc, hc.gap⟩ hw hn (by show 10 * s.va + digV c 10 = 10 * x.ten + (c - 48); rw [hv, e])⟩
    · rw [if_neg hb]
      by_cases hs : c = 46 ∧ x.parts < 3
      · rw [if_pos hs, if_pos hs]
        exact .inr ⟨by show (5 : Int) ≠ 7; decide, Sim.stop rfl ⟨hi.k0, hi.n0, hi.n7, hi.kn⟩ hf (by show 1 ≤ x.parts + 1; omega) (by show x.parts + 1 ≤ 3; omega) ⟨hc.pc, hc.gap⟩ rfl (by show s.nu + 1 = x.parts + 1; omega)⟩
      · rw [if_neg hs, if_neg hs, if_neg]
        · exact .inl ⟨rfl, rfl⟩
        · rintro ⟨q2, q3, q4⟩
          by_cases hd : 48 ≤ c ∧ c ≤ 57
          · rw [if_pos hd] at e
            exact hb ⟨hd.1, hd.2, by omega, by omega, by omega⟩
          · rw [if_neg hd] at e
            omega
end Go.Proofs.YtcgdjnmfeibnoaaGreatDoor
/-! Arr -/
namespace Go.Proofs.YtcgdjnmfeibnoaaGreatDoor
open Go.RowKit
set_option linter.unusedVariables false
set_option linter.unusedSimpArgs false
theorem run_eqN8 {P : Program} {T E : TypeId} {i : TypeInfo} {k : IntKind} (hT : P.underlying T = some (.array 8 E)) (hi : P.info? E = some i) (hE : P.underlying E = some (.int k)) (hc : P.cellsOf E = 1) (d : Nat) (w : World) (x0 y0 : Int) (x1 y1 : Int) (x2 y2 : Int) (x3 y3 : Int) (x4 y4 : Int) (x5 y5 : Int) (x6 y6 : Int) (x7 y7 : Int) :
    (Op.equalIn (d + 2) T (.agg #[.int k x0, .int k x1, .int k x2, .int k x3, .int k x4, .int k x5, .int k x6, .int k x7]) (.agg #[.int k y0, .int k y1, .int k y2, .int k y3, .int k y4, .int k y5, .int k y6, .int k y7])).run P w = .ok (x0 == y0 && (x1 == y1 && (x2 == y2 && (x3 == y3 && (x4 == y4 && (x5 == y5 && (x6 == y6 && (x7 == y7)))))))) w := by
  rw [run_equalIn_array w (d + 1) _ _ hT hi, hc, show List.range 8 = [0, 1, 2, 3, 4, 5, 6, 7] from rfl]
  have he : ∀ a b : Int, (Op.equalIn (d + 1) E (.int k a) (.int k b)).run P w = .ok (a == b) w := fun a b => run_equalIn_int w d E k k a b hE
  have hp : ∀ (cs : Array Value) (j : Nat) (v : Value), cs[j]? = some v → (part E cs j).run P w = .ok v w := fun cs j v h => by simp [part, isAgg, run_underlying hE, h]
  have st : ∀ (xs ys : Array Value) (j : Nat) (ks : List Nat) (a b : Int) (r : Bool), xs[j]? = some (.int k a) → ys[j]? = some (.int k b) → (Op.eqItems (d + 1) E 1 xs ys ks).run P w = .ok r w →
      (Op.eqItems (d + 1) E 1 xs ys (j :: ks)).run P w = .ok (a == b && r) w := by
    intro xs ys j ks a b r h1 h2 h3
    simp only [Op.eqItems, Sem.run_bind, Nat.mul_one]
    rw [hp _ j _ h1, Result.andThen_ok, hp _ j _ h2, Result.andThen_ok, he, Result.andThen_ok]
    cases a == b
    · simp
    · simpa using h3
  have h8 : (Op.eqItems (d + 1) E 1 #[.int k x0, .int k x1, .int k x2, .int k x3, .int k x4, .int k x5, .int k x6, .int k x7] #[.int k y0, .int k y1, .int k y2, .int k y3, .int k y4, .int k y5, .int k y6, .int k y7] []).run P w = .ok true w := rfl
  have h7 := st _ _ 7 [] x7 y7 _ rfl rfl h8
  have h6 := st _ _ 6 [7] x6 y6 _ rfl rfl h7
  have h5 := st _ _ 5 [6, 7] x5 y5 _ rfl rfl h6
  have h4 := st _ _ 4 [5, 6, 7] x4 y4 _ rfl rfl h5
  have h3 := st _ _ 3 [4, 5, 6, 7] x3 y3 _ rfl rfl h4
  have h2 := st _ _ 2 [3, 4, 5, 6, 7] x2 y2 _ rfl rfl h3
  have h1 := st _ _ 1 [2, 3, 4, 5, 6, 7] x1 y1 _ rfl rfl h2
  have h0 := st _ _ 0 [1, 2, 3, 4, 5, 6, 7] x0 y0 _ rfl rfl h1
  rw [Bool.and_true] at h0
  exact h0
end Go.Proofs.YtcgdjnmfeibnoaaGreatDoor
/-! WLast -/
namespace Go.Proofs.YtcgdjnmfeibnoaaGreatDoorW.PrintLast
section
variable {P : Program} {ops : Array Oper} {Q : Exit → Act → World → Prop} {md : Region.Mode} {S : World → Prop} {ds : List Nat}
def ListedClosed (md : Region.Mode) (ops : Array Oper) (listed : Array Bool) : Prop :=
  ∀ j oj, ops[j]? = some oj → listed.getD j false = true → ∀ e ∈ oj.after, Region.binds md e = true → listed.getD e.on false = true
theorem ListedClosed.set {listed : Array Bool} {i : Nat} (h : ListedClosed md ops listed) (hi : i ∈ Region.ready md ops listed) : ListedClosed md ops (listed.setIfInBounds i true) := by
  obtain ⟨_, oi, hoi, hall⟩ := mem_ready.1 hi
  intro j oj hj hl e he hb
  by_cases hij : i = j
  · subst hij
    have : oj = oi := Option.some.inj (hj.symm.trans hoi)
    subst this
    exact getD_set_true (hall e he hb)
  · rw [getD_set_ne false hij] at hl
    exact getD_set_true (h j oj hj hl e he hb)
/-- Whatever order is picked from here on, AND 'S' HOLDS BEHIND EVERY OPERATION THAT IS CARRIED OUT, those of ds apart. -/
def wpAnyLast (P : Program) (md : Region.Mode) (ops : Array Oper) (Q : Exit → Act → World → Prop) (S : World → Prop) (ds : List Nat) : Nat → Array Bool → Act → World → Prop
  | 0, listed, a, w => Region.ready md ops listed = [] ∧ Q .normal a w
  | fuel + 1, listed, a, w =>
    (Region.ready md ops listed = [] → Q .normal a w) ∧
    ∀ i ∈ Region.ready md ops listed, wpOp P ops Q i (fun a' w' => (i ∉ ds → S w → S w') ∧ wpAnyLast P md ops Q S ds fuel (listed.setIfInBounds i true) a' w') a w
end
section
variable {P : Program} {ops : Array Oper} {Q : Exit → Act → World → Prop} {md : Region.Mode} {S : World → Prop} {ds : List Nat}
def AllReadyL (P : Program) (md : Region.Mode) (ops : Array Oper) (Q : Exit → Act → World → Prop) (S : World → Prop) (ds : List Nat) (fuel : Nat) (listed : Array Bool) (a : Act) (w : World) (rs : List Nat) : Prop :=
  ∀ i ∈ rs, wpOp P ops Q i (fun a' w' => (i ∉ ds → S w → S w') ∧ wpAnyLast P md ops Q S ds fuel (listed.setIfInBounds i true) a' w') a w
theorem AllReadyL.nil {fuel : Nat} {listed : Array Bool} {a : Act} {w : World} : AllReadyL P md ops Q S ds fuel listed a w [] := fun _ h => by cases h
theorem AllReadyL.cons {fuel : Nat} {listed : Array Bool} {a : Act} {w : World} {i : Nat} {o : Oper} {rs : List Nat} (ho : ops[i]? = some o) (hd : i ∉ ds)
    (h : ∀ K' : Act → World → Prop, Shut (∀ a w, S w → (S w → wpAnyLast P md ops Q S ds fuel (listed.setIfInBounds i true) a w) → K' a w) → if Region.wanted o (yielded ops a.tmps) = true then Oper.wp P o a w K' Q else K' (a.put o.dst undef) w)
    (hs : AllReadyL P md ops Q S ds fuel listed a w rs) : AllReadyL P md ops Q S ds fuel listed a w (i :: rs) := fun j hj => by
  rcases List.mem_cons.1 hj with rfl | hj
  · exact wpOp_step ho (fun K' hK => h K' (fun a w hS hW => hK a w ⟨fun _ _ => hS, hW hS⟩))
  · exact hs j hj
theorem enters_ {f : FuncId} {fn : Func} (hf : P.funcs[f]? = some fn) (hname : (fn.name == "runtime.NumGoroutine") = false) (hb : fn.body.isSome = true) (args : Array Value) (w : World) : (callFunc f args).run P w = .ok (.enter f args) w := by
  have h1 : fn.name ≠ "runtime.NumGoroutine" := by simpa using hname
  obtain ⟨c, hc⟩ := Option.isSome_iff_exists.1 hb
  simp [callFunc, hf, h1, hc]
/-- A call in a plain region, as_1 an arm of go_wp2_with ('hd' first: it fails at once at another operation). -/
theorem goesL_ {rest : List Oper} {oi : Oper} {a : Act} {w : World} (N : Option Tmp) (hd : oi.dst = N) (hg : oi.guard = none) {f : FuncId} {fn : Func} {as_1 : Array Operand} {ts : Array TypeId} (hf : P.funcs[f]? = some fn) (hname : (fn.name == "runtime.NumGoroutine") = false) (hb : fn.body.isSome = true) (args : Array Value)
    (hop : oi.op = .call { callee := .value (.func f), args := as_1, argTypes := ts }) (hargs : as_1.map a.eval = args)
    (h : Calls P f args w fun e w' => ∃ v, e = .returned v ∧ wpList P ops Q rest (a.put N v) w') : wpList P ops Q (oi :: rest) a w := by
  refine wpList_plain hg fun K hK => ?_
  have he := enters_ hf hname hb args w
  have hrun : (execOp a.eval oi).run P w = .ok (.enter f args) w := by
    unfold execOp
    simp [hop, resolve, Deferred.ofValue, invoke, Act.eval, hargs, he]
  unfold Oper.wp
  rw [hrun, Oper.upon_enter]
  refine h.mono fun e w'' hh => ?_
  obtain ⟨v, rfl, hk⟩ := hh
  subst hd
  exact hK _ _ hk
theorem i64_w (n : Int) : IntKind.i64.wrap n = Go.RowKit.wrap64 n := by unfold Go.RowKit.wrap64; exact IntKind.wrap_i64 n
theorem i32_w (n : Int) : IntKind.i32.wrap n = Go.RowKit.wrap32 n := by unfold Go.RowKit.wrap32; exact IntKind.wrap_i32 n
end
end Go.Proofs.YtcgdjnmfeibnoaaGreatDoorW.PrintLast
/-! WApart -/
namespace Go.Proofs.YtcgdjnmfeibnoaaGreatDoorW.PrintWords
open Go.RowKit
namespace Kd
/-- An element with its index: its blocks are those that f gives to it. -/
def tag {α : Type} (f : Nat → Nat) (d : Kd α) : Kd (α × Nat) where
  sz := d.sz
  E := d.E
  K := fun w x cs => d.K w x.1 cs
  M := fun w base ok x cs => d.M w base (fun k => ok k ∧ f k = x.2) x.1 cs
  K_len := fun h => d.K_len h
  K_one := fun h => d.K_one h
  K_below := fun hb h => d.K_below hb h
  K_of_M := fun h => d.K_of_M h
  M_mono := fun hok h => d.M_mono (fun k hk => ⟨hok k hk.1, hk.2⟩) h
  M_bound := fun h => d.M_mono (fun _ hk => ⟨⟨hk.1.1, hk.2⟩, hk.1.2⟩) (d.M_bound h)
  M_move := fun hm h => d.M_move (fun k hk => hm k hk.1) h
  M_lower := fun hb h => d.M_lower hb h
/-- The cells themselves. -/
def raw (sz : Nat) : Kd (List Value) where
  sz := sz
  E := []
  K := fun _ x cs => cs = x ∧ cs.length = sz ∧ ∀ u ∈ cs, u.oneCell' = true
  M := fun _ _ _ x cs => cs = x ∧ cs.length = sz ∧ ∀ u ∈ cs, u.oneCell' = true
  K_len := fun h => h.2.1
  K_one := fun h => h.2.2
  K_below := fun _ h => h
  K_of_M := fun h => h
  M_mono := fun _ h => h
  M_bound := fun h => h
  M_move := fun _ h => h
  M_lower := fun _ h => h
/-- A row of elements (type e) of the call's own, no two of which lead to one block. -/
def S {α : Type} (d : Kd α) (e : Nat) (w : World) (base : Nat) (ok : Nat → Prop) (v : Value) (xs : List α) : Prop := ∃ f, (tag f d).R e w base ok v xs.zipIdx
section
variable {α β : Type} {d : Kd α} {d' : Kd β} {e e' : Nat} {w w1 W : World} {base b : Nat} {ok ok' okv oku : Nat → Prop} {u v : Value} {xs : List α} {ys : List β}
theorem S_nil (d : Kd α) (e : Nat) (w : World) (base : Nat) (ok : Nat → Prop) : S d e w base ok (.slice none 0 0) [] := ⟨fun _ => 0, R_nil _ _ _ _ _⟩
end
section
variable {α β : Type} {d : Kd α} {d' : Kd β} {e e' g : Nat} {w w1 W : World} {base b : Nat} {ok ok' okv oku : Nat → Prop} {u v : Value} {xs : List α} {ys : List β}
end
section
variable {P : Program} {ops : Array Oper} {rest : List Oper} {o : Oper} {a : Act} {Q : Exit → Act → World → Prop} {Kc : Act → World → Prop} {α : Type}
end
/-- Element i is these cells; the others are d's. -/
def gap {α : Type} (f : Nat → Nat) (d : Kd α) (i : Nat) (c : List Value) : Kd (α × Nat) where
  sz := d.sz
  E := d.E
  K := fun w x cs => (x.2 = i → cs = c ∧ cs.length = d.sz ∧ ∀ u ∈ cs, u.oneCell' = true) ∧ (x.2 ≠ i → d.K w x.1 cs)
  M := fun w base ok x cs => (x.2 = i → cs = c ∧ cs.length = d.sz ∧ ∀ u ∈ cs, u.oneCell' = true) ∧ (x.2 ≠ i → d.M w base (fun k => ok k ∧ f k = x.2) x.1 cs)
  K_len := fun {w x cs} h => by
    by_cases hx : x.2 = i
    · exact (h.1 hx).2.1
    · exact d.K_len (h.2 hx)
  K_one := fun {w x cs} h => by
    by_cases hx : x.2 = i
    · exact (h.1 hx).2.2
    · exact d.K_one (h.2 hx)
  K_below := fun hb h => ⟨h.1, fun hx => d.K_below hb (h.2 hx)⟩
  K_of_M := fun h => ⟨h.1, fun hx => d.K_of_M (h.2 hx)⟩
  M_mono := fun hok h => ⟨h.1, fun hx => d.M_mono (fun k hk => ⟨hok k hk.1, hk.2⟩) (h.2 hx)⟩
  M_bound := fun h => ⟨h.1, fun hx => d.M_mono (fun _ hk => ⟨⟨hk.1.1, hk.2⟩, hk.1.2⟩) (d.M_bound (h.2 hx))⟩
  M_move := fun hm h => ⟨h.1, fun hx => d.M_move (fun k hk => hm k hk.1) (h.2 hx)⟩
  M_lower := fun hb h => ⟨h.1, fun hx => d.M_lower hb (h.2 hx)⟩
def H {α : Type} (d : Kd α) (e : Nat) (w : World) (base : Nat) (ok : Nat → Prop) (v : Value) (xs : List α) (i : Int) (oki : Nat → Prop) (c : List Value) : Prop :=
  (∀ k, oki k → ok k) ∧ ∃ f, (gap f d i.toNat c).R e w base (fun k => ok k ∧ ¬ oki k) v xs.zipIdx
section
variable {α β : Type} {d : Kd α} {e e' g n cap : Nat} {w w1 W : World} {base : Nat} {ok ok' oki okp : Nat → Prop} {u v : Value} {xs : List α} {i : Int} {c : List Value}
end
section
variable {P : Program} {ops : Array Oper} {rest : List Oper} {o : Oper} {a : Act} {Q : Exit → Act → World → Prop} {α : Type}
end
end Kd
end Go.Proofs.YtcgdjnmfeibnoaaGreatDoorW.PrintWords
/-! WFoot -/
namespace Go.Proofs.YtcgdjnmfeibnoaaGreatDoorW.PrintWords
open Go.RowKit
namespace Kd
/-- What a kind reads lies in the blocks: nothing else of the world is looked at. -/
structure Heap {α : Type} (d : Kd α) : Prop where
  K : ∀ {w w1 : World} {x : α} {cs : List Value}, (∀ k, k < w.heap.size → w1.heap[k]? = w.heap[k]?) → d.K w x cs → d.K w1 x cs
theorem cell_heap {w w1 : World} (hb : ∀ k, k < w.heap.size → w1.heap[k]? = w.heap[k]?) {a : Addr} {v : Value} (h : w.cell? a = some v) : w1.cell? a = some v := by
  have := hb a.block (World.block_lt_of_cell? w a h)
  simpa [World.cell?, this] using h
theorem Heap.C {α : Type} {d : Kd α} (hd : Heap d) {w w1 : World} {A : Option Addr} {n : Nat} {xs : List α} (hb : ∀ k, k < w.heap.size → w1.heap[k]? = w.heap[k]?) (h : d.C w A n xs) : d.C w1 A n xs :=
  ⟨h.1, h.2.1, fun hn => by
    obtain ⟨ad, e, hc⟩ := h.2.2 hn
    refine ⟨ad, e, fun j p hj => ?_⟩
    obtain ⟨c, hs, hr, hcell⟩ := hc j p hj
    exact ⟨c, hs, hd.K hb hr, fun i u hu => cell_heap hb (hcell i u hu)⟩⟩
section
variable {α : Type} {d : Kd α} {e base g n c : Nat} {ok : Nat → Prop} {w w0 W : World} {A : Option Addr} {xs : List α}
end
end Kd
end Go.Proofs.YtcgdjnmfeibnoaaGreatDoorW.PrintWords
/-! WKept -/
namespace Go.Proofs.YtcgdjnmfeibnoaaGreatDoorW.PrintWords
open Go.RowKit
def Kept (w W : World) (S : Nat → Prop) : Prop := w.heap.size ≤ W.heap.size ∧ ∀ i, i < w.heap.size → ¬ S i → W.heap[i]? = w.heap[i]?
section
variable {w W W2 : World} {S S2 S' : Nat → Prop}
theorem Kept.refl (w : World) (S : Nat → Prop) : Kept w w S := ⟨Nat.le_refl _, fun _ _ _ => rfl⟩
theorem Kept.of_below (h : Below w.heap.size w W) (S : Nat → Prop) : Kept w W S := ⟨h.size, fun i hi _ => h.block i hi⟩
theorem Kept.mono (h : Kept w W S) (hs : ∀ k, S k → S' k) : Kept w W S' := ⟨h.1, fun i hi hn => h.2 i hi (fun hk => hn (hs i hk))⟩
theorem Kept.then_ (h : Kept w W S) (k : Kept W W2 S2) (hs : ∀ k, S2 k → S k ∨ w.heap.size ≤ k) : Kept w W2 S :=
  ⟨Nat.le_trans h.1 k.1, fun i hi hn => (k.2 i (Nat.lt_of_lt_of_le hi h.1) (fun h2 => (hs i h2).elim hn (fun h3 => by omega))).trans (h.2 i hi hn)⟩
theorem Kept.below (h : Kept w W S) (hb : Below W.heap.size W W2) : Kept w W2 S := h.then_ (Kept.of_below hb (fun _ => False)) (fun _ hk => hk.elim)
theorem Kept.alloc (h : Kept w W S) (o : Obj) : Kept w (W.alloc o) S := h.below (below_alloc (Below.refl _ _) o)
theorem Kept.drew (h : Kept w W S) : Kept w W.drew S := h
theorem Kept.drewN (h : Kept w W S) (m : Nat) : Kept w (W.drewN m) S := h
theorem Kept.setCell (h : Kept w W S) {p : Addr} (hp : S p.block ∨ w.heap.size ≤ p.block) (u : Value) : Kept w (W.setCell p u) S :=
  h.then_ (S2 := fun k => k = p.block) ⟨by simp [World.setCell], fun i _ hn => Below.heap_setCell W p u i hn⟩ (fun k hk => by rw [hk]; exact hp)
/-- Beside a state: what was written is new since. -/
theorem Kept.keep {g : Nat} (h : KeepBut w W g none) (k : Kept W W2 S2) (hs : ∀ k, S2 k → w.heap.size ≤ k) : KeepBut w W2 g none :=
  ⟨Nat.le_trans h.1 k.1, fun i hi hg hr => (k.2 i (Nat.lt_of_lt_of_le hi h.1) (fun h2 => by have := hs i h2; omega)).trans (h.2 i hi hg hr)⟩
end
namespace Kd
section
variable {α : Type} {d : Kd α} {e base n c : Nat} {ok oki S S2 : Nat → Prop} {w w0 W W1 W2 : World} {v : Value} {A : Option Addr} {xs : List α} {i : Int} {cs : List Value}
end
end Kd
end Go.Proofs.YtcgdjnmfeibnoaaGreatDoorW.PrintWords
/-! WShare -/
namespace Go.Proofs.YtcgdjnmfeibnoaaGreatDoorW.PrintWords
open Go.RowKit
/-- P holds in W and in every world that has W's blocks of ok. -/
def Foot (P : World → Prop) (W : World) (ok : Nat → Prop) : Prop := ∀ W' : World, (∀ k, ok k → k < W.heap.size → W'.heap[k]? = W.heap[k]?) → P W'
theorem heap_lt {W W1 : World} {k : Nat} (h : W1.heap[k]? = W.heap[k]?) (hlt : k < W.heap.size) : k < W1.heap.size := by
  rw [Array.getElem?_eq_getElem hlt] at h
  exact (Array.getElem?_eq_some_iff.1 h).1
namespace Foot
variable {P Q : World → Prop} {W W1 : World} {ok ok' : Nat → Prop}
theorem now (h : Foot P W ok) : P W := h W (fun _ _ _ => rfl)
theorem mono (h : Foot P W ok) (hok : ∀ k, ok k → ok' k) : Foot P W ok' := fun W' hW => h W' (fun k hk hlt => hW k (hok k hk) hlt)
theorem bound (h : Foot P W ok) : Foot P W (fun k => ok k ∧ k < W.heap.size) := fun W' hW => h W' (fun k hk hlt => hW k ⟨hk, hlt⟩ hlt)
theorem step (h : Foot P W ok) (hm : ∀ k, ok k → k < W.heap.size → W1.heap[k]? = W.heap[k]?) : Foot P W1 ok := fun W' hW => h W' (fun k hk hlt => (hW k hk (heap_lt (hm k hk hlt) hlt)).trans (hm k hk hlt))
theorem imp (h : Foot P W ok) (hi : ∀ W', P W' → Q W') : Foot Q W ok := fun W' hW => hi W' (h W' hW)
/-- Moved, and still elder than what is new since W. -/
theorem old (h : Foot P W ok) (hb : Below W.heap.size W W1) : Foot P W1 (fun k => ok k ∧ k < W.heap.size) := (h.bound).step (fun k _ hlt => hb.block k hlt)
end Foot
namespace Kd
/-- A row that is only read: what it leads to lies in ok. -/
def F {α : Type} (d : Kd α) (W : World) (ok : Nat → Prop) (A : Option Addr) (n : Nat) (xs : List α) : Prop := Foot (fun W => d.C W A n xs) W ok
/-- An element's cells: what they lead to lies in ok. -/
def FK {α : Type} (d : Kd α) (W : World) (ok : Nat → Prop) (x : α) (c : List Value) : Prop := Foot (fun W => d.K W x c) W ok
section
variable {α β : Type} {d : Kd α} {e base n n' cc g N : Nat} {ok ok' okp S : Nat → Prop} {w w0 w1 W W1 : World} {A A' : Option Addr} {u v v1 : Value} {xs : List α} {xs' : List β} {d' : Kd β} {x : α} {c : List Value}
theorem F_nil (d : Kd α) (W : World) (ok : Nat → Prop) : F d W ok none ([] : List α).length [] := fun W' _ => C_nil d W'
theorem FK_of_M (h : d.M W base ok x c) : FK d W ok x c := fun _ hW => d.K_of_M (M_step h hW)
end
end Kd
end Go.Proofs.YtcgdjnmfeibnoaaGreatDoorW.PrintWords
/-! WN -/
namespace Go.Proofs.YtcgdjnmfeibnoaaGreatDoorW.PrintWords
open Go.RowKit
namespace Kd
/-- The cells one behind the other, element by element. -/
def chunks (sz : Nat) (n : Nat) (inner : List Value) : List (List Value) := (List.range n).map fun j => (inner.drop (j * sz)).take sz
theorem chunks_length (sz n : Nat) (inner : List Value) : (chunks sz n inner).length = n := by simp [chunks]
theorem chunks_at {sz n : Nat} {inner : List Value} {j : Nat} (hj : j < n) : (chunks sz n inner)[j]? = some ((inner.drop (j * sz)).take sz) := by simp [chunks, hj]
theorem chunks_get {sz n : Nat} {inner : List Value} {j : Nat} {c : List Value} (h : (chunks sz n inner)[j]? = some c) : c = (inner.drop (j * sz)).take sz := by
  have hj : j < n := by have := (List.getElem?_eq_some_iff.1 h).1; rwa [chunks_length] at this
  rw [chunks_at hj] at h
  injection h with h
  exact h.symm
theorem reps_raw {α : Type} {Rr : α → List Value → Prop} {sz : Nat} {xs : List α} {inner : List Value} (h : Reps Rr sz xs inner) (hR : ∀ x c, Rr x c → c.length = sz ∧ ∀ u ∈ c, u.oneCell' = true) : Reps (fun x cs => cs = x ∧ cs.length = sz ∧ ∀ u ∈ cs, u.oneCell' = true) sz (chunks sz xs.length inner) inner := by
  refine ⟨by rw [chunks_length]; exact h.1, fun j p hj => ?_⟩
  have hjl : j < xs.length := by have := (List.getElem?_eq_some_iff.1 hj).1; rwa [chunks_length] at this
  have hp := chunks_get hj
  exact ⟨hp.symm, hR _ _ (h.2 j _ (List.getElem?_eq_getElem hjl))⟩
section
variable {α : Type} {d : Kd α} {e base n cc g : Nat} {ok ok' okp S : Nat → Prop} {w w1 W W1 : World} {A : Option Addr} {u v v1 : Value} {xs : List α} {x : α} {c : List Value}
/-- A row of elements (type e) of the call's own; what the elements lead to is only read, and is not this row. -/
def N {α : Type} (d : Kd α) (e : Nat) (w : World) (base : Nat) (ok : Nat → Prop) (v : Value) (xs : List α) : Prop :=
  (∀ k, v.ownBlock = some k → ok k) ∧ ∃ rows : List (List Value), rows.length = xs.length ∧ (raw d.sz).R e w base (fun k => some k = v.ownBlock) v rows ∧ ∀ (j : Nat) (x : α) (c : List Value), xs[j]? = some x → rows[j]? = some c → FK d w (fun k => ok k ∧ some k ≠ v.ownBlock) x c
theorem R_N (h : d.R e w base ok v xs) : N d e w base ok v xs := by
  obtain ⟨h0, inner, ho, hr⟩ := h
  refine ⟨h0, chunks d.sz xs.length inner, chunks_length _ _ _, ⟨fun k hk => hk.symm, inner, by rw [chunks_length]; exact ho, reps_raw hr (fun x c hp => ⟨d.K_len (d.K_of_M hp), d.K_one (d.K_of_M hp)⟩)⟩, fun j x c hx hc => ?_⟩
  rw [chunks_get hc]
  exact FK_of_M (hr.2 j x hx)
theorem N_nil (d : Kd α) (e : Nat) (w : World) (base : Nat) (ok : Nat → Prop) : N d e w base ok (.slice none 0 0) [] := R_N (R_nil _ _ _ _ _)
end
end Kd
end Go.Proofs.YtcgdjnmfeibnoaaGreatDoorW.PrintWords
/-! WRepsOne -/
namespace Go.Proofs.YtcgdjnmfeibnoaaGreatDoorW.PrintWords
/-- One cell an element. -/
theorem Reps.one {α : Type} {R : α → List Value → Prop} {ps : List α} {cs : List Value} {p : α} {v : Value} (hp : R p [v]) (h : Reps R 1 ps cs) : Reps R 1 (p :: ps) (v :: cs) := by
  refine ⟨by simp [h.1], fun j q hq => ?_⟩
  cases j with
  | zero =>
    simp only [List.getElem?_cons_zero, Option.some.injEq] at hq
    subst hq
    simpa using hp
  | succ j =>
    simp only [List.getElem?_cons_succ] at hq
    have h1 := h.2 j q hq
    simpa [Nat.mul_one] using h1
end Go.Proofs.YtcgdjnmfeibnoaaGreatDoorW.PrintWords
/-! WInv -/
namespace Go.Proofs.YtcgdjnmfeibnoaaGreatDoorW.PrintLast
/-- Number i is listed too. -/
def up (b : Nat → Bool) (i : Nat) : Nat → Bool := fun j => if j = i then true else b j
section
variable {P : Program} {ops : Array Oper} {Q : Exit → Act → World → Prop} {md : Region.Mode} {T : Bool × List (List Nat × List Nat)} {B : List Nat} {O : List Nat} {b : Nat → Bool} {i j n : Nat}
end
end Go.Proofs.YtcgdjnmfeibnoaaGreatDoorW.PrintLast
/-! WMore -/
namespace Go.Proofs.YtcgdjnmfeibnoaaGreatDoorW.PrintMore
open Go.RowKit Go.Proofs.YtcgdjnmfeibnoaaGreatDoorW.PrintWords
namespace Kd
open Go.Proofs.YtcgdjnmfeibnoaaGreatDoorW.PrintWords.Kd
end Kd
namespace Kd
open Go.Proofs.YtcgdjnmfeibnoaaGreatDoorW.PrintWords.Kd
section
variable {α : Type} {d : Kd α} {e base g N : Nat} {ok : Nat → Prop} {W w1 : World} {u v : Value} {xs : List α}
end
end Kd
/-- 'max' and 'min' of two whole numbers. -/
theorem max2_int (k k' : IntKind) (x y : Int) : Builtin.max2 (.int k x) (.int k' y) = pure (.int k (if x < y then y else x)) := by simp only [Builtin.max2, gt_iff_lt]
theorem min2_int (k k' : IntKind) (x y : Int) : Builtin.min2 (.int k x) (.int k' y) = pure (.int k (if y < x then y else x)) := by simp only [Builtin.min2]
theorem max_two (ats : Array TypeId) (ty : TypeId) (a b : Value) : Builtin.max_ ats ty #[a, b] = (Builtin.max2 a b >>= fun s => pure s) := by simp only [Builtin.max_, List.foldlM_cons, List.foldlM_nil]
theorem min_two (ats : Array TypeId) (ty : TypeId) (a b : Value) : Builtin.min_ ats ty #[a, b] = (Builtin.min2 a b >>= fun s => pure s) := by simp only [Builtin.min_, List.foldlM_cons, List.foldlM_nil]
theorem max_three (ats : Array TypeId) (ty : TypeId) (a b c : Value) : Builtin.max_ ats ty #[a, b, c] = (Builtin.max2 a b >>= fun s => Builtin.max2 s c >>= fun s => pure s) := by simp only [Builtin.max_, List.foldlM_cons, List.foldlM_nil]
theorem min_three (ats : Array TypeId) (ty : TypeId) (a b c : Value) : Builtin.min_ ats ty #[a, b, c] = (Builtin.min2 a b >>= fun s => Builtin.min2 s c >>= fun s => pure s) := by simp only [Builtin.min_, List.foldlM_cons, List.foldlM_nil]
theorem max_four (ats : Array TypeId) (ty : TypeId) (a b c d : Value) : Builtin.max_ ats ty #[a, b, c, d] = (Builtin.max2 a b >>= fun s => Builtin.max2 s c >>= fun s => Builtin.max2 s d >>= fun s => pure s) := by simp only [Builtin.max_, List.foldlM_cons, List.foldlM_nil]
theorem min_four (ats : Array TypeId) (ty : TypeId) (a b c d : Value) : Builtin.min_ ats ty #[a, b, c, d] = (Builtin.min2 a b >>= fun s => Builtin.min2 s c >>= fun s => Builtin.min2 s d >>= fun s => pure s) := by simp only [Builtin.min_, List.foldlM_cons, List.foldlM_nil]
end Go.Proofs.YtcgdjnmfeibnoaaGreatDoorW.PrintMore
namespace Go.Proofs.YtcgdjnmfeibnoaaGreatDoorW.PrintWords
open Go.RowKit
section
variable {P : Program} {ops : Array Oper} {rest : List Oper} {o : Oper} {a : Act} {Q : Exit → Act → World → Prop} {W : World}
/-- The operation is a call of this function (a cheap look ahead of a dear step). -/
theorem gate_callee {f : FuncId} {as_1 : Array Operand} {ts : Array TypeId} (_ho : o.op = .call { callee := .value (.func f), args := as_1, argTypes := ts }) (h : wpList P ops Q (o :: rest) a W) : wpList P ops Q (o :: rest) a W := h
/-- The operation is a builtin over these places. -/
theorem gate_builtin {b : Builtin} {xs : Array Operand} {ts : Array TypeId} (_ho : o.op = .call { callee := .builtin b, args := xs, argTypes := ts }) (h : wpList P ops Q (o :: rest) a W) : wpList P ops Q (o :: rest) a W := h
end
namespace Kd
section
variable {α : Type} {d : Kd α} {e base : Nat} {ok : Nat → Prop} {W w1 : World} {v : Value} {xs : List α}
end
section
variable {α : Type} {d : Kd α} {e base g n cap : Nat} {ok oki okp : Nat → Prop} {W : World} {xs : List α} {i : Int} {c : List Value}
end
section
variable {α : Type} {d : Kd α} {e base b b' g N : Nat} {ok ok1 : Nat → Prop} {W W2 w1 : World} {u v : Value} {xs ys : List α} {S : Nat → Prop}
end
end Kd
end Go.Proofs.YtcgdjnmfeibnoaaGreatDoorW.PrintWords
namespace Go.Proofs.YtcgdjnmfeibnoaaGreatDoorW.PrintWords
open Go.RowKit
namespace Kd
/-- A row that is only read, told by its value: its form, its length, what it leads to (in ok). e and base say nothing; they make it as_1 the others are. -/
def V {α : Type} (d : Kd α) (_e : Nat) (W : World) (_base : Nat) (ok : Nat → Prop) (v : Value) (xs : List α) : Prop := ∃ A c, v = .slice A xs.length c ∧ xs.length ≤ c ∧ F d W ok A xs.length xs
section
variable {α β : Type} {d : Kd α} {e base base' n m c g N' lo hi : Nat} {ok ok' S : Nat → Prop} {w W w1 : World} {A : Option Addr} {ad : Addr} {u v v1 : Value} {xs : List α}
theorem V_nil (d : Kd α) (e : Nat) (W : World) (base : Nat) (ok : Nat → Prop) : V d e W base ok (.slice none 0 0) [] := ⟨none, 0, rfl, Nat.le_refl _, F_nil d W ok⟩
end
end Kd
end Go.Proofs.YtcgdjnmfeibnoaaGreatDoorW.PrintWords
/-! X0 -/
namespace Go.Proofs.YtcgdjnmfeibnoaaGreatDoor.X
open Go.RowKit Go.Proofs.YtcgdjnmfeibnoaaGreatDoorW.PrintWords Go.Proofs.YtcgdjnmfeibnoaaGreatDoorW.PrintLast Go.Proofs.YtcgdjnmfeibnoaaGreatDoorW.PrintMore
attribute [local go_sem] max2_int min2_int max_two min_two max_three min_three max_four min_four
set_option linter.unusedVariables false
set_option linter.unusedSimpArgs false
def errW : Option Int → Value
  | none => .nilIface
  | some c => .iface 102 (.int .i64 c)
theorem errW_none : errW none = .nilIface := rfl
theorem errW_some (c : Int) : errW (some c) = .iface 102 (.int .i64 c) := rfl
theorem info22 : (Tryz.prog.info? 22).map (fun i => (i.zero, i.size, i.bytes)) = some (some (.int .u16 0), 1, 2) := by kernel_rfl
end Go.Proofs.YtcgdjnmfeibnoaaGreatDoor.X
/-! Num -/
namespace Go.Proofs.YtcgdjnmfeibnoaaGreatDoor
open Go.RowKit Go.Proofs.YtcgdjnmfeibnoaaGreatDoorW.PrintWords
set_option linter.unusedVariables false
set_option linter.unusedSimpArgs false
/-- What is read of digits to a base: n so far, at place i. -/
def numL (base : Int) : List UInt8 → Int → Int → Int × Int × Int
  | [], n, _ => if 18446744073709551616 ≤ n then (0, 0, 13) else (n, 0, 0)
  | c :: l, n, i => if digV (c.toNat : Int) base < 0 then (0, i, 12) else numL base l (n * base + digV (c.toNat : Int) base) (i + 1)
def numV (l : List UInt8) (base : Int) : Int × Int × Int := if base < 2 ∨ 36 < base then (0, 0, 11) else if l = [] then (0, 0, 12) else numL base l 0 0
def hiM (x y : Int) : Int := x * y / 18446744073709551616
def loM (x y : Int) : Int := x * y % 18446744073709551616
def sumA (x y : Int) : Int := (x + y) % 18446744073709551616
def carA (x y : Int) : Int := (x + y) / 18446744073709551616
theorem mul64_walk (x y : Int) (hx0 : 0 ≤ x) (hx : x < 18446744073709551616) (hy0 : 0 ≤ y) (hy : y < 18446744073709551616) (w : World) :
    Calls Tryz.prog 77 #[.int .u64 x, .int .u64 y] w fun e w' => e = .returned (.tuple #[.int .u64 (hiM x y), .int .u64 (loM x y)]) ∧ w = w' := by
  obtain ⟨a, rfl⟩ := Int.eq_ofNat_of_zero_le hx0
  obtain ⟨b, rfl⟩ := Int.eq_ofNat_of_zero_le hy0
  refine (Tryz.bits_Mul64 a b (by omega) (by omega) w).mono ?_
  rintro e w' ⟨rfl, rfl⟩
  exact ⟨by unfold hiM loM; simp, rfl⟩
theorem add64_0 (x y : Int) (hx : 0 ≤ x) (hy : 0 ≤ y) (w : World) : (callFunc 78 #[.int .u64 x, .int .u64 y, .int .u64 0]).run Tryz.prog w =
    .ok (.value (.tuple #[.int .u64 (sumA x y), .int .u64 (carA x y)])) w := by
  rw [run_callFunc_extern Tryz.func78 (by kernel_rfl) (by kernel_rfl) (by kernel_rfl) (e := add64Entry) (by kernel_rfl), run_add64 x y 0 hx hy (Int.le_refl 0) (by decide)]
  unfold sumA carA
  simp
theorem add64_at (x y : Int) (hx : 0 ≤ x) (hy : 0 ≤ y) : ∀ w : World, (callFunc 78 #[.int .u64 x, .int .u64 y, .int .u64 0]).run Tryz.prog w =
    .ok (.value (.tuple #[.int .u64 (sumA x y), .int .u64 (carA x y)])) w := add64_0 x y hx hy
/-- What a round does, in numbers. -/
theorem num_step {N base d : Int} (h0 : 0 ≤ N) (hb : 2 ≤ base) (hb' : base ≤ 36) (hd : 0 ≤ d) (hd' : d < base) :
    0 ≤ hiM (N % 18446744073709551616) base ∧ hiM (N % 18446744073709551616) base ≤ 36 ∧ 0 ≤ loM (N % 18446744073709551616) base ∧ loM (N % 18446744073709551616) base < 18446744073709551616 ∧
    0 ≤ carA (loM (N % 18446744073709551616) base) d ∧ carA (loM (N % 18446744073709551616) base) d ≤ 1 ∧ sumA (loM (N % 18446744073709551616) base) d = (N * base + d) % 18446744073709551616 ∧ 0 ≤ N * base + d ∧
    (18446744073709551616 ≤ N → 18446744073709551616 ≤ N * base + d) ∧ (N < 18446744073709551616 → (0 < hiM (N % 18446744073709551616) base + carA (loM (N % 18446744073709551616) base) d ↔ 18446744073709551616 ≤ N * base + d)) := by
  have hNb : N ≤ N * base := by have := Int.mul_le_mul_of_nonneg_left (show (1 : Int) ≤ base by omega) h0; omega
  have hm : N % 18446744073709551616 * base % 18446744073709551616 = N * base % 18446744073709551616 := by rw [Int.mul_emod, Int.emod_emod, ← Int.mul_emod]
  have h1 : 0 ≤ N % 18446744073709551616 * base := Int.mul_nonneg (by omega) (by omega)
  have h2 : N % 18446744073709551616 * base ≤ 18446744073709551615 * 36 := by
    have a : N % 18446744073709551616 * base ≤ 18446744073709551615 * base := Int.mul_le_mul_of_nonneg_right (by omega) (by omega)
    omega
  unfold hiM loM carA sumA
  have h3 : N < 18446744073709551616 → N % 18446744073709551616 * base = N * base := fun h => by rw [Int.emod_eq_of_lt h0 h]
  generalize N % 18446744073709551616 * base = p at *
  generalize N * base = q at *
  refine ⟨by omega, by omega, by omega, by omega, by omega, by omega, by omega, by omega, fun h => by omega, fun h => ?_⟩
  have := h3 h
  subst this
  constructor <;> intro h <;> omega
theorem numL_neg {base : Int} {c : UInt8} {l : List UInt8} {n i : Int} (h : digV (c.toNat : Int) base < 0) : numL base (c :: l) n i = (0, i, 12) := by rw [numL, if_pos h]
theorem numL_pos {base : Int} {c : UInt8} {l : List UInt8} {n i : Int} (h : ¬ digV (c.toNat : Int) base < 0) : numL base (c :: l) n i = numL base l (n * base + digV (c.toNat : Int) base) (i + 1) := by rw [numL, if_neg h]
theorem drop_at (s : ByteArray) (k : Nat) (h : k < s.size) : s.data.toList.drop k = s[k] :: s.data.toList.drop (k + 1) := by
  rw [List.drop_eq_getElem_cons (by simpa using h)]
  rfl
/-- A post that the walk does not look into. -/
def Num3 (r : Int × Int × Int) (w : World) (e : Ending) (w' : World) : Prop := e = .returned (.tuple #[.int .u64 r.1, .int .i64 r.2.1, .int .i64 r.2.2]) ∧ w = w'
theorem num3_mk {r : Int × Int × Int} {w : World} {a b c : Int} (h : r = (a, b, c)) : Num3 r w (.returned (.tuple #[.int .u64 a, .int .i64 b, .int .i64 c])) w := by
  subst h
  exact ⟨rfl, rfl⟩
set_option maxHeartbeats 4000000 in
set_option maxRecDepth 100000 in
theorem number_walk (s : ByteArray) (base : Int) (hs : s.size ≤ 9223372036854775807) (w : World) : Calls Tryz.prog 53 #[.string s, .int .i64 base] w (Num3 (numV s.data.toList base) w) := by
  by_cases hb : base < 2 ∨ 36 < base
  · have hv : numV s.data.toList base = (0, 0, 11) := if_pos hb
    have HV := Aside0.mk hv
    clear hv
    rcases hb with hb | hb
    · go_enter Tryz.func53, Tryz.ntmps53
      go_wp2_with fail
      all_goals go_ret3
      all_goals exact num3_mk HV.out
    · have hb2 : ¬ base < 2 := by omega
      go_enter Tryz.func53, Tryz.ntmps53
      go_wp2_with fail
      all_goals go_ret3
      all_goals exact num3_mk HV.out
  · have h2 : 2 ≤ base := by omega
    have h3 : base ≤ 36 := by omega
    by_cases hnil : s.data.toList = []
    · have hv : numV s.data.toList base = (0, 0, 12) := by rw [numV, if_neg hb, if_pos hnil]
      have HV := Aside0.mk hv
      clear hv hb
      have he : s.toList.isEmpty = true := by rw [ByteArray.toList_eq]; simp [hnil]
      go_enter Tryz.func53, Tryz.ntmps53
      go_wp2_with fail
      all_goals go_tidy
      all_goals go_ret3
      all_goals exact num3_mk HV.out
    · have hv : numV s.data.toList base = numL base s.data.toList 0 0 := by rw [numV, if_neg hb, if_neg hnil]
      have HV := Aside0.mk hv
      clear hv hb
      have he : s.toList.isEmpty = false := by rw [ByteArray.toList_eq]; simpa using hnil
      go_enter Tryz.func53, Tryz.ntmps53
      go_wp2_with fail
      go_loop [7, 8, 27] (fun n g i => ∃ (k : Nat) (N : Int), k ≤ s.size ∧ 0 ≤ N ∧ n = .int .u64 (N % 18446744073709551616) ∧ g = .bool (decide (18446744073709551616 ≤ N)) ∧ i = .int .i64 k ∧ Aside0 (numL base s.data.toList 0 0 = numL base (s.data.toList.drop k) N k)) (fun _ _ i => s.size - (intOf i).toNat)
      case atStart => exact ⟨0, 0, Nat.zero_le _, Int.le_refl 0, rfl, rfl, rfl, ⟨rfl⟩⟩
      case round =>
        obtain ⟨k, N, hk, hN, rfl, rfl, rfl, HL⟩ := hrel
        by_cases hlt : k < s.size
        · obtain ⟨d, hd⟩ : ∃ d, d = digV (s[k].toNat : Int) base := ⟨_, rfl⟩
          have hD := fun w => digit_walk (s[k].toNat : Int) base (by omega) (by have := s[k].toNat_lt; omega) w
          have hdlt : d < base := hd ▸ digV_lt h2
          rw [← hd] at hD
          have hdrop := drop_at s k hlt
          have HD := Aside0.mk hdrop
          have HE := Aside0.mk hd
          have HDW := Aside0.mk hD
          clear hdrop hd hD
          by_cases hneg : d < 0
          · go_wp2_with (go_at_call 48; refine (HDW.out _).mono ?_; rintro e w' ⟨rfl, rfl⟩)
            all_goals go_tidy
            all_goals go_ret3
            all_goals exact num3_mk (by rw [HV.out, HL.out, HD.out]; exact numL_neg (by rw [← HE.out]; exact hneg))
          · have hd0 : 0 ≤ d := by omega
            obtain ⟨s1, s2, s3, s4, s5, s6, s7, s8, s9, s10⟩ := num_step hN h2 h3 hd0 hdlt
            have S9 := Aside0.mk s9
            have S10 := Aside0.mk s10
            clear s9 s10
            have hnb : N % 18446744073709551616 < 18446744073709551616 := by omega
            have hnb0 : 0 ≤ N % 18446744073709551616 := by omega
            go_wp2_with (first | (go_at_call 48; refine (HDW.out _).mono ?_; rintro e w' ⟨rfl, rfl⟩) | (go_at_call 77; refine (mul64_walk _ _ (by omega) (by omega) (by omega) (by omega) _).mono ?_; rintro e w' ⟨rfl, rfl⟩) | simp only [add64_at _ d s3 hd0])
            all_goals go_tidy
            all_goals refine ⟨⟨k + 1, N * base + d, by omega, s8, by first | rfl | rw [s7], ?_, by go_num, ⟨by rw [HL.out, HD.out, numL_pos (by rw [← HE.out]; exact hneg), ← HE.out]; rfl⟩⟩, by simp [intOf]; omega⟩
            · rw [decide_eq_false (show ¬ 18446744073709551616 ≤ N by omega), Bool.false_or]
              congr 1
              rw [decide_eq_decide]
              exact S10.out (by omega)
            · rw [decide_eq_true (S9.out (by omega))]
        · obtain rfl : k = s.size := by omega
          have hL : numL base s.data.toList 0 0 = numL base [] N s.size := by rw [HL.out, List.drop_of_length_le (by simp)]
          by_cases hbig : 18446744073709551616 ≤ N
          · have hf : numV s.data.toList base = (0, 0, 13) := by rw [HV.out, hL, numL, if_pos hbig]
            have HF := Aside0.mk hf
            clear hL hf
            go_wp2_with fail
            all_goals go_tidy
            all_goals go_ret3
            all_goals exact num3_mk HF.out
          · have hf : numV s.data.toList base = (N % 18446744073709551616, 0, 0) := by rw [HV.out, hL, numL, if_neg hbig, Int.emod_eq_of_lt hN (by omega)]
            have HF := Aside0.mk hf
            clear hL hf
            go_wp2_with fail
            all_goals go_tidy
            all_goals go_ret3
            all_goals exact num3_mk HF.out
end Go.Proofs.YtcgdjnmfeibnoaaGreatDoor
/-! Given -/
namespace Go.Proofs.YtcgdjnmfeibnoaaGreatDoor
open Go.RowKit Go.Proofs.YtcgdjnmfeibnoaaGreatDoorW.PrintWords
set_option linter.unusedVariables false
def octet_Number.f (a0 : ByteArray) (a1 : Int) : Option (Int × Int × Int) := if a0.size ≤ 9223372036854775807 then some (numV a0.data.toList a1) else none
theorem octet_Number.calls (a0 : ByteArray) (a1 : Int) (r1 r2 r3 : Int) (w : World) (h : octet_Number.f a0 a1 = some (r1, r2, r3)) :
    Calls Tryz.prog 53 #[.string a0, .int .i64 a1] w fun e w' => e = .returned (.tuple #[.int .u64 r1, .int .i64 r2, .int .i64 r3]) ∧ Drawn0 w w' := by
  unfold octet_Number.f at h
  by_cases hs : a0.size ≤ 9223372036854775807
  · rw [if_pos hs] at h
    have h := Option.some.inj h
    refine (number_walk a0 a1 hs w).mono fun e w' ⟨he, hw⟩ => ⟨?_, drawn_same hw⟩
    rw [he, h]
  · rw [if_neg hs] at h
    cases h
end Go.Proofs.YtcgdjnmfeibnoaaGreatDoor
/-! Str -/
namespace Go.Proofs.YtcgdjnmfeibnoaaGreatDoor
open Go.RowKit Go.Proofs.YtcgdjnmfeibnoaaGreatDoorW.PrintWords
set_option linter.unusedVariables false
set_option linter.unusedSimpArgs false
/-- What is asked of the library's variables: bytealg.MaxLen is a number. -/
structure GW (w : World) : Prop where
  maxLen : ∃ m : Int, w.cell? ⟨0, 0, none⟩ = some (.int .i64 m)
theorem maxLen_keep {w w' : World} (h : ∃ m : Int, w.cell? ⟨0, 0, none⟩ = some (.int .i64 m)) (hb : Below w.heap.size w w') : ∃ m : Int, w'.cell? ⟨0, 0, none⟩ = some (.int .i64 m) := by
  obtain ⟨m, hm⟩ := h
  refine ⟨m, ?_⟩
  rw [hb.cell (p := ⟨0, 0, none⟩) (World.block_lt_of_cell? w _ hm)]
  exact hm
theorem tab_keep {w w' : World} {name : String} {k : IntKind} {l : List Int} (h : Lib.TabIs Tryz.prog w name k l) (hb : Below w.heap.size w w') : Lib.TabIs Tryz.prog w' name k l := Lib.tabBelow_of_tabIs h w' hb
theorem GW.keep {w w' : World} (h : GW w) (hb : Below w.heap.size w w') : GW w' where
  maxLen := maxLen_keep h.maxLen hb
set_option maxHeartbeats 1000000 in
set_option maxRecDepth 100000 in
theorem lite_cut_one (s : ByteArray) (c : UInt8) (hs : s.size ≤ 9223372036854775807) (w : World) :
    Calls Tryz.prog 50 #[.string s, .string ⟨#[c]⟩] w fun e w' => e = .returned (.tuple #[.string ⟨(Lib.cut s.data.toList [c]).1.toArray⟩, .string ⟨(Lib.cut s.data.toList [c]).2.1.toArray⟩, .bool (Lib.cut s.data.toList [c]).2.2]) ∧ ∃ n, w' = w.drewN n := by
  have hI := Tryz.stringslite_Index_one s c
  rw [← Lib.index_one] at hI
  have HI := Aside0.mk hI
  clear hI
  rcases Lib.indexB_cases s ⟨#[c]⟩ with hix | ⟨i, hix, hroom⟩
  · obtain ⟨e1, e2, e3⟩ := Lib.cutB_miss s ⟨#[c]⟩ hix
    rw [show ([c] : List UInt8) = (⟨#[c]⟩ : ByteArray).data.toList from rfl, e1, e2, e3]
    have hix' : Lib.index s.data.toList [c] = _ := hix
    rw [hix'] at HI
    clear hix hix' e1 e2 e3
    go_enter Tryz.func50, Tryz.ntmps50
    go_wp2_with (go_at_call 75; refine (HI.out _).mono ?_; rintro e w' ⟨rfl, rfl⟩)
    go_ret3
    exact ⟨rfl, 0, rfl⟩
  · obtain ⟨e1, e2, e3⟩ := Lib.cutB_hit s ⟨#[c]⟩ i hix
    rw [show ([c] : List UInt8) = (⟨#[c]⟩ : ByteArray).data.toList from rfl, e1, e2, e3]
    have hix' : Lib.index s.data.toList [c] = _ := hix
    rw [hix'] at HI
    have hr : i + 1 ≤ s.size := hroom
    have c1 : (0 : Int) ≤ ↑i := by omega
    have c2 : (↑i : Int) ≤ ↑s.size := by omega
    have c3 : (0 : Int) ≤ ↑i + 1 := by omega
    have c4 : (↑i + 1 : Int) ≤ ↑s.size := by omega
    clear hix hix' e1 e2 e3
    go_enter Tryz.func50, Tryz.ntmps50
    go_wp2_with (go_at_call 75; refine (HI.out _).mono ?_; rintro e w' ⟨rfl, rfl⟩)
    go_region
    all_goals go_wp2_with fail
    go_ret3
    exact ⟨rfl, 1, rfl⟩
set_option maxHeartbeats 1000000 in
set_option maxRecDepth 100000 in
theorem cut_one (s : ByteArray) (c : UInt8) (hs : s.size ≤ 9223372036854775807) (w : World) :
    Calls Tryz.prog 34 #[.string s, .string ⟨#[c]⟩] w fun e w' => e = .returned (.tuple #[.string ⟨(Lib.cut s.data.toList [c]).1.toArray⟩, .string ⟨(Lib.cut s.data.toList [c]).2.1.toArray⟩, .bool (Lib.cut s.data.toList [c]).2.2]) ∧ ∃ n, w' = w.drewN n := by
  have HC := Aside0.mk (lite_cut_one s c hs)
  generalize Lib.cut s.data.toList [c] = r at HC ⊢
  go_enter Tryz.func34, Tryz.ntmps34
  go_wp2_with (go_at_call 50; refine (HC.out _).mono ?_; rintro e w' ⟨rfl, n, rfl⟩)
  go_ret3
  exact ⟨rfl, _, rfl⟩
def strings_Cut.f (a0 a1 : ByteArray) : Option (ByteArray × ByteArray × Bool) :=
  if a0.size < 4294967281 ∨ a1.size = 1 ∧ a0.size ≤ 9223372036854775807 then some (⟨(Lib.cut a0.data.toList a1.data.toList).1.toArray⟩, ⟨(Lib.cut a0.data.toList a1.data.toList).2.1.toArray⟩, (Lib.cut a0.data.toList a1.data.toList).2.2) else none
theorem strings_Cut.calls (a0 a1 : ByteArray) (r1 r2 : ByteArray) (r3 : Bool) (w : World) (hG : GW w) (h : strings_Cut.f a0 a1 = some (r1, r2, r3)) :
    Calls Tryz.prog 34 #[.string a0, .string a1] w fun e w' => e = .returned (.tuple #[.string r1, .string r2, .bool r3]) ∧ Drawn0 w w' := by
  unfold strings_Cut.f at h
  by_cases hs : a0.size < 4294967281 ∨ a1.size = 1 ∧ a0.size ≤ 9223372036854775807
  · rw [if_pos hs] at h
    injection h with h
    injection h with h1 h2
    injection h2 with h2 h3
    subst h1 h2 h3
    rcases hs with hs | ⟨h1, hs⟩
    · obtain ⟨m, hm⟩ := hG.maxLen
      refine (Tryz.strings_Cut a0 a1 m w hs hm).mono ?_
      rintro e w' ⟨rfl, hw⟩
      exact ⟨rfl, ⟨hw⟩⟩
    · obtain ⟨⟨l⟩⟩ := a1
      match l, h1 with
      | [c], _ =>
        refine (cut_one a0 c hs w).mono ?_
        rintro e w' ⟨rfl, hw⟩
        exact ⟨rfl, ⟨hw⟩⟩
  · rw [if_neg hs] at h
    cases h
/-- A row of strings of the call's own. -/
theorem kd_strings {w : World} {base : Nat} {e : TypeId} {v : Value} {n : Nat} {xs : List ByteArray} (h : w.ownsRow base e 1 v n (xs.map Value.string)) : Kd.R Kd.string e w base (fun _ => True) v xs := by
  have hn : n = xs.length := by simpa using h.1.symm
  subst hn
  refine ⟨fun _ _ => trivial, xs.map Value.string, h, by show (xs.map Value.string).length = xs.length * 1; simp, fun j p hj => ?_⟩
  show ((xs.map Value.string).drop (j * 1)).take 1 = [Value.string p]
  have hj' : j < xs.length := by
    rcases Nat.lt_or_ge j xs.length with h | h
    · exact h
    · rw [List.getElem?_eq_none h] at hj; cases hj
  rw [List.getElem?_eq_getElem hj'] at hj
  obtain rfl := Option.some.inj hj
  rw [Nat.mul_one, List.drop_eq_getElem_cons (by simpa using hj')]
  simp
/-- A block that was just made, whole. -/
theorem own_made (w : World) (base : Nat) (e : TypeId) (cs : List Value) (h : cs.length ≤ maxLen) (hb : base ≤ w.heap.size) : (w.alloc (.cells cs.toArray e)).ownsRow base e 1 (.slice (some ⟨w.heap.size, 0, none⟩) cs.length cs.length) cs.length cs :=
  ⟨by simp, .inr ⟨w.heap.size, cs.length, cs.toArray, rfl, hb, by simpa using heap_alloc_new w _, Nat.le_refl _, h, by simp, by simp⟩⟩
def strings_Split.f (a0 a1 : ByteArray) : Option (List ByteArray) :=
  if a0.size < 4294967281 ∧ 1 ≤ a1.size then some (Lib.splitB a1 0 (Lib.countB a0 a1) a0) else none
theorem strings_Split.calls (a0 a1 : ByteArray) (r : List ByteArray) (w : World) (hG : GW w) (h : strings_Split.f a0 a1 = some r) :
    Calls Tryz.prog 51 #[.string a0, .string a1] w fun e w' => ∃ v0_ : Value, e = .returned v0_ ∧ Kd.R Kd.string 9 w' w.heap.size (fun _ => True) v0_ r ∧ Below w.heap.size w w' := by
  unfold strings_Split.f at h
  by_cases hs : a0.size < 4294967281 ∧ 1 ≤ a1.size
  · rw [if_pos hs] at h
    obtain rfl := Option.some.inj h
    obtain ⟨m, hm⟩ := hG.maxLen
    refine (Tryz.strings_Split a0 a1 m w hs.1 hm hs.2).mono ?_
    rintro e w' ⟨rfl, rfl⟩
    have hl := Lib.splitB_all a1 hs.2 0 _ a0 rfl
    have hc := Lib.countB_le a1 hs.2 _ a0 (Nat.le_refl _)
    refine ⟨_, rfl, kd_strings (n := Lib.countB a0 a1 + 1) ?_, (Below.refl _ _).alloc (Nat.le_refl _) _⟩
    have := own_made w w.heap.size 9 ((Lib.splitB a1 0 (Lib.countB a0 a1) a0).map Value.string) (by rw [List.length_map, hl]; unfold maxLen; omega) (Nat.le_refl _)
    rw [List.length_map, hl] at this
    exact this
  · rw [if_neg hs] at h
    cases h
end Go.Proofs.YtcgdjnmfeibnoaaGreatDoor
/-! X1 -/
namespace Go.Proofs.YtcgdjnmfeibnoaaGreatDoor.X
open Go.RowKit Go.Proofs.YtcgdjnmfeibnoaaGreatDoorW.PrintWords Go.Proofs.YtcgdjnmfeibnoaaGreatDoorW.PrintLast Go.Proofs.YtcgdjnmfeibnoaaGreatDoorW.PrintMore
attribute [local go_sem] max2_int min2_int max_two min_two max_three min_three max_four min_four
set_option linter.unusedVariables false
set_option linter.unusedSimpArgs false
mutual
def four_Strict.l0 : Nat → ByteArray → Int → Int → Int → Option (Int × Int × Int)
  | 0, _, _, _, _ => none
  | k + 1, x0, x5, x6, x11 => if x11 < 4 then (four_Strict.l1 k x0 x5 x6 x11 0 x6 x11) else (if x6 < (x0.size : Int) then (some (0, x6, 203)) else (some (x5, 0, 0)))
def four_Strict.l1 : Nat → ByteArray → Int → Int → Int → Int → Int → Int → Option (Int × Int × Int)
  | 0, _, _, _, _, _, _, _ => none
  | k + 1, x0, x5, x6, x7, x8, x9, x11 => if x6 < (x0.size : Int) then (if 0 ≤ x6 then (if (bt x0 x6) ≥ 48 then (four_Strict.j2 k x0 x5 x6 x7 x8 x9 x11 (decide ((bt x0 x6) ≤ 57))) else (four_Strict.j2 k x0 x5 x6 x7 x8 x9 x11 false)) else (none)) else (four_Strict.j2 k x0 x5 x6 x7 x8 x9 x11 false)
def four_Strict.j2 : Nat → ByteArray → Int → Int → Int → Int → Int → Int → Bool → Option (Int × Int × Int)
  | 0, _, _, _, _, _, _, _, _ => none
  | k + 1, x0, x5, x6, x7, x8, x9, x11, x30 => if x30 = true then (if 0 ≤ x6 then (if x6 < (x0.size : Int) then (if (wrap64 ((wrap64 (10 * x8)) + (((bt x0 x6) - 48) % 256))) > 255 then (some (0, x6, 203)) else (if x6 > x9 then (if x8 = 0 then (some (0, x6, 203)) else (four_Strict.l1 k x0 x5 (wrap64 (x6 + 1)) x7 (wrap64 ((wrap64 (10 * x8)) + (((bt x0 x6) - 48) % 256))) x9 x11)) else (four_Strict.l1 k x0 x5 (wrap64 (x6 + 1)) x7 (wrap64 ((wrap64 (10 * x8)) + (((bt x0 x6) - 48) % 256))) x9 x11))) else (none)) else (none)) else (if x6 = x9 then (some (0, x6, 203)) else (if x7 = 3 then (if x6 < (x0.size : Int) then (some (0, x6, 203)) else (some (Go.bits .or .u32 ((x5 * 256) % 4294967296) ((x8) % 4294967296), 0, 0))) else (if x6 = (x0.size : Int) then (some (0, x6, 203)) else (if 0 ≤ x6 then (if x6 < (x0.size : Int) then (if (bt x0 x6) = 46 then (four_Strict.l0 k x0 (Go.bits .or .u32 ((x5 * 256) % 4294967296) ((x8) % 4294967296)) (wrap64 (x6 + 1)) (wrap64 (x11 + 1))) else (some (0, x6, 203))) else (none)) else (none)))))
end
def four_Strict.f (k : Nat) (a0 : ByteArray) : Option (Int × Int × Int) := four_Strict.l0 k a0 0 0 0
set_option maxHeartbeats 8000000 in
set_option maxRecDepth 100000 in
theorem four_Strict.calls (k : Nat) (a0 : ByteArray) (r1 : Int) (r2 : Int) (r3 : Int) (w : World) (h : four_Strict.f k a0 = some (r1, r2, r3)) :
    Calls Tryz.prog 52 #[.string a0] w fun e w' => e = .returned (.tuple #[.int .u32 r1, .int .i64 r2, .int .i64 r3]) ∧ Drawn0 w w' := by
  have H : (four_Strict.l0 k a0 0 0 0) = some (r1, r2, r3) := h
  clear h
  have H' := Aside0.mk H
  clear H
  go_enter Tryz.func52, Tryz.ntmps52
  go_wp2
  go_loopg [5, 6, 11] k (fun kq v5 v6 v11 w' => ∃ (x5_1 : Int) (x6_1 : Int) (x11_1 : Int), v5 = .int .u32 x5_1 ∧ v6 = .int .i64 x6_1 ∧ v11 = .int .i64 x11_1 ∧ Aside0 (four_Strict.l0 kq a0 x5_1 x6_1 x11_1 = some (r1, r2, r3)) ∧ Aside0 (kq ≤ k) ∧ Drawn0 w w')
  case atStart => exact ⟨(0), (0), (0), (by first | rfl | (simp; done) | (simp [*]; done)), (by first | rfl | (simp; done) | (simp [*]; done)), (by first | rfl | (simp; done) | (simp [*]; done)), H', ⟨Nat.le_refl _⟩, by repeat (first | exact Drawn0.refl _ | apply Drawn0.step)⟩
  case round =>
    clear H'
    obtain ⟨x5_1, x6_1, x11_1, rfl, rfl, rfl, HA, HK1, ⟨m1, rfl⟩⟩ := hrel
    cases gk with
    | zero => exact absurd HA.out (by simp [four_Strict.l0])
    | succ k1 =>
      have H := HA.out
      clear HA
      simp only [four_Strict.l0] at H
      by_cases c2 : x11_1 < 4
      · rw [if_pos c2] at H
        have c2b0 : decide (x11_1 < 4) = true := decide_eq_true c2
        clear c2
        have H' := Aside0.mk H
        clear H
        go_wp2
        go_loopg [6, 8] k1 (fun kq v6 v8 w' => ∃ (x6_2 : Int) (x8_2 : Int), v6 = .int .i64 x6_2 ∧ v8 = .int .i64 x8_2 ∧ Aside0 (four_Strict.l1 kq a0 x5_1 x6_2 x11_1 x8_2 x6_1 x11_1 = some (r1, r2, r3)) ∧ Aside0 (kq ≤ k1) ∧ Drawn0 w w')
        case atStart => exact ⟨(x6_1), (0), (by first | rfl | (simp; done) | (simp [*]; done)), (by first | rfl | (simp; done) | (simp [*]; done)), H', ⟨Nat.le_refl _⟩, by repeat (first | exact Drawn0.refl _ | apply Drawn0.step)⟩
        case round =>
          clear H'
          try clear c2
          try clear c2b0
          try clear p2
          obtain ⟨x6_2, x8_2, rfl, rfl, HA, HK2, ⟨m2, rfl⟩⟩ := hrel
          cases gk with
          | zero => exact absurd HA.out (by simp [four_Strict.l1])
          | succ k2 =>
            have H := HA.out
            clear HA
            simp only [four_Strict.l1] at H
            have HC3 := Aside0.mk H
            clear H
            go_upto_region 6 with (fail)
            go_cut [30] (fun v30 wc => ∃ (kq : Nat) (x30_2 : Bool), v30 = .bool x30_2 ∧ Aside0 (four_Strict.j2 kq a0 x5_1 x6_2 x11_1 x8_2 x6_1 x11_1 x30_2 = some (r1, r2, r3)) ∧ Aside0 (kq ≤ k2) ∧ Drawn0 w wc)
            case first =>
              have H := HC3.out
              clear HC3
              by_cases c4 : x6_2 < (a0.size : Int)
              · rw [if_pos c4] at H
                have c4b0 : decide (x6_2 < (a0.size : Int)) = true := decide_eq_true c4
                clear c4
                (first | rw [c4b0] | (simp only [i64_w, i32_w]; rw [c4b0]) | skip)
                by_cases c5 : 0 ≤ x6_2
                · rw [if_pos c5] at H
                  have c5b0 : decide (0 ≤ x6_2) = true := decide_eq_true c5
                  clear c5
                  by_cases c7 : (bt a0 x6_2) ≥ 48
                  · rw [if_pos c7] at H
                    have c7b0 : decide (48 ≤ (bt a0 x6_2)) = true := decide_eq_true c7
                    clear c7
                    have H' := Aside0.mk H
                    clear H
                    have p6 : 0 ≤ (x6_2 : Int) := of_decide_eq_true (by first | (with_reducible assumption) | assumption)
                    have q6 : x6_2 < (a0.size : Int) := of_decide_eq_true (by first | (with_reducible assumption) | assumption)
                    have hx6 := bt_at a0 x6_2
                    replace p6 := eq_true p6
                    replace q6 := eq_true q6
                    have p8 : 0 ≤ (x6_2 : Int) := of_decide_eq_true (by first | (with_reducible assumption) | assumption)
                    have q8 : x6_2 < (a0.size : Int) := of_decide_eq_true (by first | (with_reducible assumption) | assumption)
                    have hx8 := bt_at a0 x6_2
                    replace p8 := eq_true p8
                    replace q8 := eq_true q8
                    go_wp2
                    go_meet
                    case rel => exact ⟨_, (decide ((bt a0 x6_2) ≤ 57)), (by first | rfl | (simp; done) | (simp [*]; done)), H', ⟨by have := HK1.out; have := HK2.out; first | omega | exact Nat.le_refl _⟩, by repeat (first | exact Drawn0.refl _ | apply Drawn0.step)⟩
                  · rw [if_neg c7] at H
                    have c7b0 : decide (48 ≤ (bt a0 x6_2)) = false := decide_eq_false c7
                    clear c7
                    have H' := Aside0.mk H
                    clear H
                    have p6 : 0 ≤ (x6_2 : Int) := of_decide_eq_true (by first | (with_reducible assumption) | assumption)
                    have q6 : x6_2 < (a0.size : Int) := of_decide_eq_true (by first | (with_reducible assumption) | assumption)
                    have hx6 := bt_at a0 x6_2
                    replace p6 := eq_true p6
                    replace q6 := eq_true q6
                    go_wp2
                    go_meet
                    case rel => exact ⟨_, (false), (by first | rfl | (simp; done) | (simp [*]; done)), H', ⟨by have := HK1.out; have := HK2.out; first | omega | exact Nat.le_refl _⟩, by repeat (first | exact Drawn0.refl _ | apply Drawn0.step)⟩
                · rw [if_neg c5] at H
                  exact absurd H (by simp)
              · rw [if_neg c4] at H
                have c4b0 : decide (x6_2 < (a0.size : Int)) = false := decide_eq_false c4
                clear c4
                (first | rw [c4b0] | (simp only [i64_w, i32_w]; rw [c4b0]) | skip)
                have H' := Aside0.mk H
                clear H
                go_wp2
                go_meet
                case rel => exact ⟨_, (false), (by first | rfl | (simp; done) | (simp [*]; done)), H', ⟨by have := HK1.out; have := HK2.out; first | omega | exact Nat.le_refl _⟩, by repeat (first | exact Drawn0.refl _ | apply Drawn0.step)⟩
            case rest =>
              clear HC3
              try clear c2
              try clear c2b0
              try clear p2
              try clear c4
              try clear c4b0
              try clear c5
              try clear c5b0
              try clear p6
              try clear q6
              try clear hx6
              try clear c7
              try clear c7b0
              try clear p8
              try clear q8
              try clear hx8
              try clear p2
              try clear p6
              try clear p8
              try clear q6
              try clear q8
              obtain ⟨kq, x30_2, rfl, HA, HJ2, ⟨mc2, rfl⟩⟩ := hcut
              cases kq with
              | zero => exact absurd HA.out (by simp [four_Strict.j2])
              | succ kj2 =>
                have H := HA.out
                clear HA
                simp only [four_Strict.j2] at H
                by_cases c9 : x30_2 = true
                · subst c9
                  have H1 : (if 0 ≤ x6_2 then (if x6_2 < (a0.size : Int) then (if (wrap64 ((wrap64 (10 * x8_2)) + (((bt a0 x6_2) - 48) % 256))) > 255 then (some (0, x6_2, 203)) else (if x6_2 > x6_1 then (if x8_2 = 0 then (some (0, x6_2, 203)) else (four_Strict.l1 kj2 a0 x5_1 (wrap64 (x6_2 + 1)) x11_1 (wrap64 ((wrap64 (10 * x8_2)) + (((bt a0 x6_2) - 48) % 256))) x6_1 x11_1)) else (four_Strict.l1 kj2 a0 x5_1 (wrap64 (x6_2 + 1)) x11_1 (wrap64 ((wrap64 (10 * x8_2)) + (((bt a0 x6_2) - 48) % 256))) x6_1 x11_1))) else (none)) else (none)) = some (r1, r2, r3) := by rw [if_pos rfl] at H; exact H
                  clear H
                  have H := H1
                  clear H1
                  by_cases c10 : 0 ≤ x6_2
                  · rw [if_pos c10] at H
                    have c10b0 : decide (0 ≤ x6_2) = true := decide_eq_true c10
                    clear c10
                    by_cases c11 : x6_2 < (a0.size : Int)
                    · rw [if_pos c11] at H
                      have c11b0 : decide (x6_2 < (a0.size : Int)) = true := decide_eq_true c11
                      clear c11
                      by_cases c13 : (wrap64 ((wrap64 (10 * x8_2)) + (((bt a0 x6_2) - 48) % 256))) > 255
                      · rw [if_pos c13] at H
                        have c13b0 : decide (255 < (wrap64 ((wrap64 (10 * x8_2)) + (((bt a0 x6_2) - 48) % 256)))) = true := decide_eq_true c13
                        clear c13
                        simp only [Option.some.injEq, Prod.mk.injEq] at H
                        obtain ⟨rfl, rfl, rfl⟩ := H
                        have p12 : 0 ≤ (x6_2 : Int) := of_decide_eq_true (by first | (with_reducible assumption) | assumption)
                        have q12 : x6_2 < (a0.size : Int) := of_decide_eq_true (by first | (with_reducible assumption) | assumption)
                        have hx12 := bt_at a0 x6_2
                        replace p12 := eq_true p12
                        replace q12 := eq_true q12
                        go_wp2
                        go_ret3
                        exact ⟨by first | rfl | (simp; done) | (simp [*]; done), by repeat (first | exact Drawn0.refl _ | apply Drawn0.step)⟩
                      · rw [if_neg c13] at H
                        have c13b0 : decide (255 < (wrap64 ((wrap64 (10 * x8_2)) + (((bt a0 x6_2) - 48) % 256)))) = false := decide_eq_false c13
                        clear c13
                        by_cases c14 : x6_2 > x6_1
                        · rw [if_pos c14] at H
                          have c14b0 : decide (x6_1 < x6_2) = true := decide_eq_true c14
                          clear c14
                          by_cases c15 : x8_2 = 0
                          · rw [if_pos c15] at H
                            have c15b0 : (x8_2 == 0) = true := beq_iff_eq.mpr c15
                            have c15b1 : (x8_2 != 0) = false := bne_eq_false_iff_eq.mpr c15
                            clear c15
                            simp only [Option.some.injEq, Prod.mk.injEq] at H
                            obtain ⟨rfl, rfl, rfl⟩ := H
                            have p12 : 0 ≤ (x6_2 : Int) := of_decide_eq_true (by first | (with_reducible assumption) | assumption)
                            have q12 : x6_2 < (a0.size : Int) := of_decide_eq_true (by first | (with_reducible assumption) | assumption)
                            have hx12 := bt_at a0 x6_2
                            replace p12 := eq_true p12
                            replace q12 := eq_true q12
                            go_wp2
                            go_ret3
                            exact ⟨by first | rfl | (simp; done) | (simp [*]; done), by repeat (first | exact Drawn0.refl _ | apply Drawn0.step)⟩
                          · rw [if_neg c15] at H
                            have c15b0 : (x8_2 == 0) = false := beq_eq_false_iff_ne.mpr c15
                            have c15b1 : (x8_2 != 0) = true := bne_iff_ne.mpr c15
                            have H' := Aside0.mk H
                            clear H
                            have p12 : 0 ≤ (x6_2 : Int) := of_decide_eq_true (by first | (with_reducible assumption) | assumption)
                            have q12 : x6_2 < (a0.size : Int) := of_decide_eq_true (by first | (with_reducible assumption) | assumption)
                            have hx12 := bt_at a0 x6_2
                            replace p12 := eq_true p12
                            replace q12 := eq_true q12
                            go_wp2
                            go_roundg kj2
                            case measure => have := HK1.out; have := HK2.out; have := HJ2.out; omega
                            case rel => exact ⟨(wrap64 (x6_2 + 1)), (wrap64 ((wrap64 (10 * x8_2)) + (((bt a0 x6_2) - 48) % 256))), (by first | rfl | (simp; done) | (simp [*]; done)), (by first | rfl | (simp; done) | (simp [*]; done)), H', ⟨by have := HK1.out; have := HK2.out; have := HJ2.out; omega⟩, by repeat (first | exact Drawn0.refl _ | apply Drawn0.step)⟩
                        · rw [if_neg c14] at H
                          have c14b0 : decide (x6_1 < x6_2) = false := decide_eq_false c14
                          clear c14
                          have H' := Aside0.mk H
                          clear H
                          have p12 : 0 ≤ (x6_2 : Int) := of_decide_eq_true (by first | (with_reducible assumption) | assumption)
                          have q12 : x6_2 < (a0.size : Int) := of_decide_eq_true (by first | (with_reducible assumption) | assumption)
                          have hx12 := bt_at a0 x6_2
                          replace p12 := eq_true p12
                          replace q12 := eq_true q12
                          go_wp2
                          go_roundg kj2
                          case measure => have := HK1.out; have := HK2.out; have := HJ2.out; omega
                          case rel => exact ⟨(wrap64 (x6_2 + 1)), (wrap64 ((wrap64 (10 * x8_2)) + (((bt a0 x6_2) - 48) % 256))), (by first | rfl | (simp; done) | (simp [*]; done)), (by first | rfl | (simp; done) | (simp [*]; done)), H', ⟨by have := HK1.out; have := HK2.out; have := HJ2.out; omega⟩, by repeat (first | exact Drawn0.refl _ | apply Drawn0.step)⟩
                    · rw [if_neg c11] at H
                      exact absurd H (by simp)
                  · rw [if_neg c10] at H
                    exact absurd H (by simp)
                · replace c9 := Bool.eq_false_iff.mpr c9
                  subst c9
                  have H1 : (if x6_2 = x6_1 then (some (0, x6_2, 203)) else (if x11_1 = 3 then (if x6_2 < (a0.size : Int) then (some (0, x6_2, 203)) else (some (Go.bits .or .u32 ((x5_1 * 256) % 4294967296) ((x8_2) % 4294967296), 0, 0))) else (if x6_2 = (a0.size : Int) then (some (0, x6_2, 203)) else (if 0 ≤ x6_2 then (if x6_2 < (a0.size : Int) then (if (bt a0 x6_2) = 46 then (four_Strict.l0 kj2 a0 (Go.bits .or .u32 ((x5_1 * 256) % 4294967296) ((x8_2) % 4294967296)) (wrap64 (x6_2 + 1)) (wrap64 (x11_1 + 1))) else (some (0, x6_2, 203))) else (none)) else (none))))) = some (r1, r2, r3) := by rw [if_neg (show ¬ (false = true) by decide)] at H; exact H
                  clear H
                  have H := H1
                  clear H1
                  by_cases c16 : x6_2 = x6_1
                  · rw [if_pos c16] at H
                    have c16b0 : (x6_2 == x6_1) = true := beq_iff_eq.mpr c16
                    have c16b1 : (x6_2 != x6_1) = false := bne_eq_false_iff_eq.mpr c16
                    clear c16
                    simp only [Option.some.injEq, Prod.mk.injEq] at H
                    obtain ⟨rfl, rfl, rfl⟩ := H
                    go_wp2
                    go_ret3
                    exact ⟨by first | rfl | (simp; done) | (simp [*]; done), by repeat (first | exact Drawn0.refl _ | apply Drawn0.step)⟩
                  · rw [if_neg c16] at H
                    have c16b0 : (x6_2 == x6_1) = false := beq_eq_false_iff_ne.mpr c16
                    have c16b1 : (x6_2 != x6_1) = true := bne_iff_ne.mpr c16
                    by_cases c17 : x11_1 = 3
                    · rw [if_pos c17] at H
                      have c17b0 : (x11_1 == 3) = true := beq_iff_eq.mpr c17
                      have c17b1 : (x11_1 != 3) = false := bne_eq_false_iff_eq.mpr c17
                      clear c17
                      by_cases c18 : x6_2 < (a0.size : Int)
                      · rw [if_pos c18] at H
                        have c18b0 : decide (x6_2 < (a0.size : Int)) = true := decide_eq_true c18
                        clear c18
                        simp only [Option.some.injEq, Prod.mk.injEq] at H
                        obtain ⟨rfl, rfl, rfl⟩ := H
                        go_wp2
                        go_ret3
                        exact ⟨by first | rfl | (simp; done) | (simp [*]; done), by repeat (first | exact Drawn0.refl _ | apply Drawn0.step)⟩
                      · rw [if_neg c18] at H
                        have c18b0 : decide (x6_2 < (a0.size : Int)) = false := decide_eq_false c18
                        clear c18
                        simp only [Option.some.injEq, Prod.mk.injEq] at H
                        obtain ⟨rfl, rfl, rfl⟩ := H
                        go_wp2
                        go_ret3
                        exact ⟨by first | rfl | (simp; done) | (simp [*]; done), by repeat (first | exact Drawn0.refl _ | apply Drawn0.step)⟩
                    · rw [if_neg c17] at H
                      have c17b0 : (x11_1 == 3) = false := beq_eq_false_iff_ne.mpr c17
                      have c17b1 : (x11_1 != 3) = true := bne_iff_ne.mpr c17
                      by_cases c19 : x6_2 = (a0.size : Int)
                      · rw [if_pos c19] at H
                        have c19b0 : (x6_2 == (a0.size : Int)) = true := beq_iff_eq.mpr c19
                        have c19b1 : (x6_2 != (a0.size : Int)) = false := bne_eq_false_iff_eq.mpr c19
                        clear c19
                        simp only [Option.some.injEq, Prod.mk.injEq] at H
                        obtain ⟨rfl, rfl, rfl⟩ := H
                        go_wp2
                        go_ret3
                        exact ⟨by first | rfl | (simp; done) | (simp [*]; done), by repeat (first | exact Drawn0.refl _ | apply Drawn0.step)⟩
                      · rw [if_neg c19] at H
                        have c19b0 : (x6_2 == (a0.size : Int)) = false := beq_eq_false_iff_ne.mpr c19
                        have c19b1 : (x6_2 != (a0.size : Int)) = true := bne_iff_ne.mpr c19
                        by_cases c20 : 0 ≤ x6_2
                        · rw [if_pos c20] at H
                          have c20b0 : decide (0 ≤ x6_2) = true := decide_eq_true c20
                          clear c20
                          by_cases c21 : x6_2 < (a0.size : Int)
                          · rw [if_pos c21] at H
                            have c21b0 : decide (x6_2 < (a0.size : Int)) = true := decide_eq_true c21
                            clear c21
                            by_cases c23 : (bt a0 x6_2) = 46
                            · rw [if_pos c23] at H
                              have c23b0 : ((bt a0 x6_2) == 46) = true := beq_iff_eq.mpr c23
                              have c23b1 : ((bt a0 x6_2) != 46) = false := bne_eq_false_iff_eq.mpr c23
                              clear c23
                              have H' := Aside0.mk H
                              clear H
                              have p22 : 0 ≤ (x6_2 : Int) := of_decide_eq_true (by first | (with_reducible assumption) | assumption)
                              have q22 : x6_2 < (a0.size : Int) := of_decide_eq_true (by first | (with_reducible assumption) | assumption)
                              have hx22 := bt_at a0 x6_2
                              replace p22 := eq_true p22
                              replace q22 := eq_true q22
                              go_wp2
                              go_roundg kj2
                              case measure => have := HK1.out; have := HK2.out; have := HJ2.out; omega
                              case rel => exact ⟨(Go.bits .or .u32 ((x5_1 * 256) % 4294967296) ((x8_2) % 4294967296)), (wrap64 (x6_2 + 1)), (wrap64 (x11_1 + 1)), (by first | rfl | (simp; done) | (simp [*]; done)), (by first | rfl | (simp; done) | (simp [*]; done)), (by first | rfl | (simp; done) | (simp [*]; done)), H', ⟨by have := HK1.out; have := HK2.out; have := HJ2.out; omega⟩, by repeat (first | exact Drawn0.refl _ | apply Drawn0.step)⟩
                            · rw [if_neg c23] at H
                              have c23b0 : ((bt a0 x6_2) == 46) = false := beq_eq_false_iff_ne.mpr c23
                              have c23b1 : ((bt a0 x6_2) != 46) = true := bne_iff_ne.mpr c23
                              simp only [Option.some.injEq, Prod.mk.injEq] at H
                              obtain ⟨rfl, rfl, rfl⟩ := H
                              have p22 : 0 ≤ (x6_2 : Int) := of_decide_eq_true (by first | (with_reducible assumption) | assumption)
                              have q22 : x6_2 < (a0.size : Int) := of_decide_eq_true (by first | (with_reducible assumption) | assumption)
                              have hx22 := bt_at a0 x6_2
                              replace p22 := eq_true p22
                              replace q22 := eq_true q22
                              go_wp2
                              go_ret3
                              exact ⟨by first | rfl | (simp; done) | (simp [*]; done), by repeat (first | exact Drawn0.refl _ | apply Drawn0.step)⟩
                          · rw [if_neg c21] at H
                            exact absurd H (by simp)
                        · rw [if_neg c20] at H
                          exact absurd H (by simp)
      · rw [if_neg c2] at H
        have c2b0 : decide (x11_1 < 4) = false := decide_eq_false c2
        clear c2
        by_cases c24 : x6_1 < (a0.size : Int)
        · rw [if_pos c24] at H
          have c24b0 : decide (x6_1 < (a0.size : Int)) = true := decide_eq_true c24
          clear c24
          simp only [Option.some.injEq, Prod.mk.injEq] at H
          obtain ⟨rfl, rfl, rfl⟩ := H
          go_wp2
          go_ret3
          exact ⟨by first | rfl | (simp; done) | (simp [*]; done), by repeat (first | exact Drawn0.refl _ | apply Drawn0.step)⟩
        · rw [if_neg c24] at H
          have c24b0 : decide (x6_1 < (a0.size : Int)) = false := decide_eq_false c24
          clear c24
          simp only [Option.some.injEq, Prod.mk.injEq] at H
          obtain ⟨rfl, rfl, rfl⟩ := H
          go_wp2
          go_ret3
          exact ⟨by first | rfl | (simp; done) | (simp [*]; done), by repeat (first | exact Drawn0.refl _ | apply Drawn0.step)⟩
def six_written.l0 : Nat → List Int → List ByteArray → Int → Int → Option (List Int)
  | 0, _, _, _, _ => none
  | k + 1, x3, x15, x16, x17 => if x17 < x16 then (if 0 ≤ x17 then (if x17 < (x15.length : Int) then ((four_Strict.f k (rdOf ByteArray.empty x15 x17)).bind fun bt106 => (if bt106.2.2 = 0 then ((some (([IntKind.u16.wrap (bt106.1 / 65536), IntKind.u16.wrap (bt106.1)] : List Int) : List Int)).bind fun y109 => (if x3.length + y109.length < 70368744177664 then (six_written.l0 k (x3 ++ y109) x15 x16 (wrap64 (x17 + 1))) else (none))) else ((octet_Number.f (rdOf ByteArray.empty x15 x17) 16).bind fun bt115 => (if x3.length < 70368744177664 then (six_written.l0 k (x3 ++ [IntKind.u16.wrap (bt115.1)]) x15 x16 (wrap64 (x17 + 1))) else (none))))) else (none)) else (none)) else (some x3)
def six_written.f (k : Nat) (a0 : ByteArray) : Option (List Int) := if a0.toList = ([] : List UInt8) then (some ([] : List Int)) else ((strings_Split.f a0 (⟨#[58]⟩ : ByteArray)).bind fun t102 => (six_written.l0 k ([] : List Int) t102 (t102.length : Int) 0))
set_option maxHeartbeats 8000000 in
set_option maxRecDepth 100000 in
theorem six_written.calls (k : Nat) (a0 : ByteArray) (r : List Int) (w : World) (hG : GW w) (h : six_written.f k a0 = some r) :
    Calls Tryz.prog 35 #[.string a0] w fun e w' => ∃ v0_ : Value, e = .returned (v0_) ∧ Kd.R (Kd.int .u16) 22 w' w.heap.size (fun _ => True) v0_ r ∧ Below w.heap.size w w' := by
  have HG := Aside0.mk hG
  clear hG
  have HB := Aside0.mk (Below.refl w.heap.size w)
  have H : (if a0.toList = ([] : List UInt8) then (some ([] : List Int)) else ((strings_Split.f a0 (⟨#[58]⟩ : ByteArray)).bind fun t102 => (six_written.l0 k ([] : List Int) t102 (t102.length : Int) 0))) = some r := h
  clear h
  by_cases c2 : a0.toList = ([] : List UInt8)
  · rw [if_pos c2] at H
    have c2b0 : (a0.toList == ([] : List UInt8)) = true := beq_iff_eq.mpr c2
    have c2b1 : (a0.toList != ([] : List UInt8)) = false := bne_eq_false_iff_eq.mpr c2
    clear c2
    obtain rfl := Option.some.inj H
    go_enter Tryz.func35, Tryz.ntmps35
    go_wp2
    go_ret
    exact ⟨_, by first | rfl | (simp [errW_none, errW_some] <;> rfl) | (simp [*, errW_none, errW_some] <;> rfl), by first | exact Kd.R_nil _ _ _ _ _ | exact Kd.N_nil _ _ _ _ _ | exact Kd.V_nil _ _ _ _ _ | exact Kd.Q_nil _ _ _ _ _ | exact Kd.S_nil _ _ _ _ _, by repeat (first | (with_reducible first | exact HB.out | apply below_alloc | apply pw_below_drewN | apply below_drew1) | exact HB.out)⟩
  · rw [if_neg c2] at H
    have c2b0 : (a0.toList == ([] : List UInt8)) = false := beq_eq_false_iff_ne.mpr c2
    have c2b1 : (a0.toList != ([] : List UInt8)) = true := bne_iff_ne.mpr c2
    replace H := Option.bind_eq_some_iff.mp H
    obtain ⟨t102, A30, H⟩ := H
    replace H : (six_written.l0 k ([] : List Int) t102 (t102.length : Int) 0) = some r := H
    have A3 := Aside0.mk A30
    clear A30
    have H' := Aside0.mk H
    clear H
    go_enter Tryz.func35, Tryz.ntmps35
    go_wp2_with (first | ((with_reducible refine gate_callee (f := 51) rfl ?_); refine goesL_ (some 15) rfl rfl Tryz.func51 (by kernel_rfl) rfl #[.string a0, .string (⟨#[58]⟩ : ByteArray)] rfl (by (try simp only [List.map_toArray, List.map_cons, List.map_nil]); first | done | rfl | (simp only [List.length_drop, List.length_take]; rfl)) ?_; (with_reducible refine (strings_Split.calls a0 (⟨#[58]⟩ : ByteArray) t102 _ (GW.keep HG.out (by repeat (first | (with_reducible first | exact HB.out | apply below_alloc | apply pw_below_drewN | apply below_drew1) | exact HB.out | exact Below.refl _ _))) A3.out).mono ?_); rintro e w4 ⟨v103, rfl, ho0, hb⟩; refine ⟨_, rfl, ?_⟩; have n0_ := Aside0.mk (Kd.R_lower ho0 (below_size (by repeat (first | (with_reducible first | exact HB.out | apply below_alloc | apply pw_below_drewN | apply below_drew1) | exact HB.out)))); have n1_ := Aside0.mk (below_step (by repeat (first | (with_reducible first | exact HB.out | apply below_alloc | apply pw_below_drewN | apply below_drew1) | exact HB.out)) hb); clear HB; have HO104 := n0_; have HB := n1_; clear n0_ n1_; (try clear hb); (try clear hb2); (try clear hk); (try clear hi); (try clear ho0); obtain ⟨Ao5, co5, eo5⟩ := Kd.R_slice HO104.out; subst eo5))
    go_loopg [3, 17] k (fun kq v3 v17 w' => ∃ (x3_1 : List Int) (x17_1 : Int), v17 = .int .i64 x17_1 ∧ Aside0 (six_written.l0 kq x3_1 t102 (t102.length : Int) x17_1 = some r) ∧ Aside0 (kq ≤ k) ∧ Aside0 (Kd.R (Kd.int .u16) 22 w' w.heap.size (fun _ => True) v3 x3_1) ∧ Aside0 (Kd.R Kd.string 9 w' w.heap.size (fun _ => True) (.slice Ao5 t102.length co5) t102) ∧ Aside0 (Below w.heap.size w w'))
    case atStart => exact ⟨(([] : List Int)), (0), (by first | rfl | (simp; done) | (simp [*]; done)), H', ⟨Nat.le_refl _⟩, ⟨by first | exact Kd.R_nil _ _ _ _ _ | exact Kd.N_nil _ _ _ _ _ | exact Kd.V_nil _ _ _ _ _ | exact Kd.Q_nil _ _ _ _ _ | exact Kd.S_nil _ _ _ _ _⟩, ⟨by (with_reducible repeat (first | apply Kd.R_alloc | apply Kd.R_drewN | apply Kd.R_drew)); exact HO104.out⟩, ⟨by repeat (first | (with_reducible first | exact HB.out | apply below_alloc | apply pw_below_drewN | apply below_drew1) | exact HB.out)⟩⟩
    case round =>
      clear H'
      try clear c2
      try clear c2b0
      try clear c2b1
      try clear p2
      try clear c3
      try clear c5
      obtain ⟨x3_1, x17_1, rfl, HA, HK1, HO_3, HO_15, HB⟩ := hrel
      cases gk with
      | zero => exact absurd HA.out (by simp [six_written.l0])
      | succ k1 =>
        have H := HA.out
        clear HA
        simp only [six_written.l0] at H
        by_cases c6 : x17_1 < (t102.length : Int)
        · rw [if_pos c6] at H
          have c6b0 : decide (x17_1 < (t102.length : Int)) = true := decide_eq_true c6
          clear c6
          by_cases c7 : 0 ≤ x17_1
          · rw [if_pos c7] at H
            have c7b0 : decide (0 ≤ x17_1) = true := decide_eq_true c7
            clear c7
            by_cases c8 : x17_1 < (t102.length : Int)
            · rw [if_pos c8] at H
              have c8b0 : decide (x17_1 < (t102.length : Int)) = true := decide_eq_true c8
              clear c8
              replace H := Option.bind_eq_some_iff.mp H
              obtain ⟨⟨t106, t107, t108⟩, A90, H⟩ := H
              replace H : (if t108 = 0 then ((some (([IntKind.u16.wrap (t106 / 65536), IntKind.u16.wrap (t106)] : List Int) : List Int)).bind fun y109 => (if x3_1.length + y109.length < 70368744177664 then (six_written.l0 k1 (x3_1 ++ y109) t102 (t102.length : Int) (wrap64 (x17_1 + 1))) else (none))) else ((octet_Number.f (rdOf ByteArray.empty t102 x17_1) 16).bind fun bt115 => (if x3_1.length < 70368744177664 then (six_written.l0 k1 (x3_1 ++ [IntKind.u16.wrap (bt115.1)]) t102 (t102.length : Int) (wrap64 (x17_1 + 1))) else (none)))) = some r := H
              have A9 := Aside0.mk A90
              clear A90
              by_cases c10 : t108 = 0
              · rw [if_pos c10] at H
                have c10b0 : (t108 == 0) = true := beq_iff_eq.mpr c10
                have c10b1 : (t108 != 0) = false := bne_eq_false_iff_eq.mpr c10
                clear c10
                obtain ⟨y109, hy109⟩ : ∃ y_ : List Int, y_ = (([IntKind.u16.wrap (t106 / 65536), IntKind.u16.wrap (t106)] : List Int)) := ⟨_, rfl⟩
                replace H : (if x3_1.length + y109.length < 70368744177664 then (six_written.l0 k1 (x3_1 ++ y109) t102 (t102.length : Int) (wrap64 (x17_1 + 1))) else (none)) = some r := by first | (rw [hy109]; with_reducible exact H) | (have H2_ := (Option.bind_some _ _).symm.trans H; rw [hy109]; with_reducible exact H2_) | (have H2_ := (Option.bind_some _ _).symm.trans H; with_reducible exact H2_) | with_reducible exact H | (rw [hy109]; exact H) | exact H
                have Ny109 := Aside0.mk hy109
                clear hy109
                by_cases c11 : x3_1.length + y109.length < 70368744177664
                · rw [if_pos c11] at H
                  have LMc11 := Aside0.mk c11
                  clear c11
                  obtain ⟨y112, hy112⟩ : ∃ y_ : List Int, y_ = (x3_1 ++ y109) := ⟨_, rfl⟩
                  replace H : (six_written.l0 k1 y112 t102 (t102.length : Int) (wrap64 (x17_1 + 1))) = some r := by first | (rw [hy112]; with_reducible exact H) | (have H2_ := (Option.bind_some _ _).symm.trans H; rw [hy112]; with_reducible exact H2_) | (have H2_ := (Option.bind_some _ _).symm.trans H; with_reducible exact H2_) | with_reducible exact H | (rw [hy112]; exact H) | exact H
                  have Ny112 := Aside0.mk hy112
                  clear hy112
                  have H' := Aside0.mk H
                  clear H
                  have p105 : 0 ≤ (x17_1 : Int) := of_decide_eq_true (by first | (with_reducible assumption) | assumption)
                  have q105 : x17_1 < (t102.length : Int) := of_decide_eq_true (by first | (with_reducible assumption) | assumption)
                  obtain ⟨ad105, e105, hx105_0⟩ := Kd.at_string (Kd.R_reads' HO_15.out).2.2 x17_1 p105 q105
                  cases e105
                  replace p105 := eq_true p105
                  replace q105 := eq_true q105
                  go_wp2_with (first | ((with_reducible refine gate_callee (f := 52) rfl ?_); refine goesL_ (some 23) rfl rfl Tryz.func52 (by kernel_rfl) rfl #[.string (rdOf ByteArray.empty t102 x17_1)] rfl (by (try simp only [List.map_toArray, List.map_cons, List.map_nil]); first | done | rfl | (simp only [List.length_drop, List.length_take]; rfl)) ?_; (with_reducible refine (four_Strict.calls k1 (rdOf ByteArray.empty t102 x17_1) t106 t107 t108 _ A9.out).mono ?_); rintro e w' ⟨rfl, ⟨nd, rfl⟩⟩; refine ⟨_, rfl, ?_⟩) | ((with_reducible refine gate_dst (N := 35) rfl ?_); refine Kd.R_lit (Kd.int .u16) _ 22 ?hg (N := 35) ?hd (xs := ([IntKind.u16.wrap (t106 / 65536), IntKind.u16.wrap (t106)] : List Int)) (inner := [.int .u16 (IntKind.u16.wrap (t106 / 65536)), .int .u16 (IntKind.u16.wrap (t106))]) (ok := fun _ => True) (okp := fun _ => True) ?hr ?hp (fun _ hk => hk) trivial (Below.refl _ _) (Nat.le_refl _) (by simp) ?_; (case hd => rfl); (case hg => rfl); (case hr => first | (go_simp; done) | (go_simp; rfl)); (case hp => exact (Reps.one (show Kd.M (Kd.int .u16) _ _ _ (IntKind.u16.wrap (t106 / 65536)) [.int .u16 (IntKind.u16.wrap (t106 / 65536))] from rfl) (Reps.one (show Kd.M (Kd.int .u16) _ _ _ (IntKind.u16.wrap (t106)) [.int .u16 (IntKind.u16.wrap (t106))] from rfl) (Reps.none _ _)))); intro v110 w12 ho13 hb hg_ hnew_; clear hg_ hnew_; (first | rw [← Ny109.out] at ho13 | (simp only [Int.reduceToNat] at ho13; rw [← Ny109.out] at ho13)); have n0_ := Aside0.mk (Kd.R_elder' (by (with_reducible repeat (first | apply Kd.R_alloc | apply Kd.R_drewN | apply Kd.R_drew)); exact HO_3.out) (Kd.R_base ho13) hb); have n1_ := Aside0.mk (Kd.R_below (by (with_reducible repeat (first | apply Kd.R_alloc | apply Kd.R_drewN | apply Kd.R_drew)); exact HO_15.out) hb); have n2_ := Aside0.mk (Kd.R_lower (Kd.R_new' ho13 (Kd.R_lt (by (with_reducible repeat (first | apply Kd.R_alloc | apply Kd.R_drewN | apply Kd.R_drew)); exact HO_3.out))) (below_size (by repeat (first | (with_reducible first | exact HB.out | apply below_alloc | apply pw_below_drewN | apply below_drew1) | exact HB.out)))); have n3_ := Aside0.mk (below_step (by repeat (first | (with_reducible first | exact HB.out | apply below_alloc | apply pw_below_drewN | apply below_drew1) | exact HB.out)) hb); clear HO_3; clear HO_15; clear HB; have HO_3 := n0_; have HO_15 := n1_; have HO111 := n2_; have HB := n3_; clear n0_ n1_ n2_ n3_; clear hb ho13; obtain ⟨Ao15, co15, eo15⟩ := Kd.R_slice HO111.out; subst eo15) | ((with_reducible refine gate_builtin (b := .append) (xs := #[.tmp 29, .tmp 35]) rfl ?_); at_builtin; refine Kd.R_append_rows (Kd.int .u16) (w0 := w) w.heap.size rfl (.tmp 29) (.tmp 35) 81 22 (.int .u16 0) 2 rfl Tryz.underlying81 info22 rfl (by decide) (by omega) u3 x3_1 y109 _ _ _ (fun k_ => some k_ ≠ (.slice Ao15 y109.length co15 : Value).ownBlock) (fun _ => False) rfl rfl ?aO ?aR (fun _ _ h => h) (fun _ h => h.elim) ?aF ?aB ?aS ?aL ?_; (case aR => repeat (first | exact (Kd.R_reads' HO111.out).2.2 | (with_reducible refine Kd.C_alloc ?_ _) | (with_reducible refine Kd.C_drewN ?_ _) | (with_reducible refine Kd.C_drew ?_))); (case aB => exact (by repeat (first | (with_reducible first | exact HB.out | apply below_alloc | apply pw_below_drewN | apply below_drew1) | exact HB.out))); (case aF => exact (fun k_ hk => Kd.fresh' (Kd.R_lt (by (with_reducible repeat (first | apply Kd.R_alloc | apply Kd.R_drewN | apply Kd.R_drew)); exact HO111.out)) k_ hk)); (case aO => exact (by (with_reducible repeat (first | apply Kd.R_alloc | apply Kd.R_drewN | apply Kd.R_drew)); exact Kd.R_mono HO_3.out (fun _ hk => hk.2))); (case aS => exact (below_size (by repeat (first | (with_reducible first | exact HB.out | apply below_alloc | apply pw_below_drewN | apply below_drew1) | exact HB.out)))); (case aL => have := LMc11.out; omega); intro v113 w14 ho hb hg hat; rw [← Ny112.out] at ho; have n0_ := Aside0.mk (Kd.R_over' (by (with_reducible repeat (first | apply Kd.R_alloc | apply Kd.R_drewN | apply Kd.R_drew)); exact HO_15.out) (Kd.R_typed (by (with_reducible repeat (first | apply Kd.R_alloc | apply Kd.R_drewN | apply Kd.R_drew)); exact HO_3.out)) (by decide) hg); have n1_ := Aside0.mk (Kd.R_after (ok := (fun _ => True)) (by (with_reducible repeat (first | apply Kd.R_alloc | apply Kd.R_drewN | apply Kd.R_drew)); exact HO111.out) hg hat); have n2_ := Aside0.mk (hb); have n3_ := Aside0.mk (ho); clear HO_15; clear HO111; clear HB; clear HO_3; have HO_15 := n0_; have HO111 := n1_; have HB := n2_; have HO114 := n3_; clear n0_ n1_ n2_ n3_; clear ho hb hg hat))
                  go_roundg k1
                  case measure => have := HK1.out; omega
                  case rel => exact ⟨(y112), (wrap64 (x17_1 + 1)), (by first | rfl | (simp; done) | (simp [*]; done)), H', ⟨by have := HK1.out; omega⟩, ⟨by (with_reducible repeat (first | apply Kd.R_alloc | apply Kd.R_drewN | apply Kd.R_drew)); exact Kd.R_mono HO114.out (fun _ hk => trivial)⟩, ⟨by (with_reducible repeat (first | apply Kd.R_alloc | apply Kd.R_drewN | apply Kd.R_drew)); exact HO_15.out⟩, ⟨by repeat (first | (with_reducible first | exact HB.out | apply below_alloc | apply pw_below_drewN | apply below_drew1) | exact HB.out)⟩⟩
                · rw [if_neg c11] at H
                  exact absurd H (by simp)
              · rw [if_neg c10] at H
                have c10b0 : (t108 == 0) = false := beq_eq_false_iff_ne.mpr c10
                have c10b1 : (t108 != 0) = true := bne_iff_ne.mpr c10
                replace H := Option.bind_eq_some_iff.mp H
                obtain ⟨⟨t115, t116, t117⟩, A160, H⟩ := H
                replace H : (if x3_1.length < 70368744177664 then (six_written.l0 k1 (x3_1 ++ [IntKind.u16.wrap (t115)]) t102 (t102.length : Int) (wrap64 (x17_1 + 1))) else (none)) = some r := H
                have A16 := Aside0.mk A160
                clear A160
                by_cases c17 : x3_1.length < 70368744177664
                · rw [if_pos c17] at H
                  have LMc17 := Aside0.mk c17
                  clear c17
                  obtain ⟨y118, hy118⟩ : ∃ y_ : List Int, y_ = (x3_1 ++ [IntKind.u16.wrap (t115)]) := ⟨_, rfl⟩
                  replace H : (six_written.l0 k1 y118 t102 (t102.length : Int) (wrap64 (x17_1 + 1))) = some r := by first | (rw [hy118]; with_reducible exact H) | (have H2_ := (Option.bind_some _ _).symm.trans H; rw [hy118]; with_reducible exact H2_) | (have H2_ := (Option.bind_some _ _).symm.trans H; with_reducible exact H2_) | with_reducible exact H | (rw [hy118]; exact H) | exact H
                  have Ny118 := Aside0.mk hy118
                  clear hy118
                  have H' := Aside0.mk H
                  clear H
                  have p105 : 0 ≤ (x17_1 : Int) := of_decide_eq_true (by first | (with_reducible assumption) | assumption)
                  have q105 : x17_1 < (t102.length : Int) := of_decide_eq_true (by first | (with_reducible assumption) | assumption)
                  obtain ⟨ad105, e105, hx105_0⟩ := Kd.at_string (Kd.R_reads' HO_15.out).2.2 x17_1 p105 q105
                  cases e105
                  replace p105 := eq_true p105
                  replace q105 := eq_true q105
                  go_wp2_with (first | ((with_reducible refine gate_callee (f := 52) rfl ?_); refine goesL_ (some 23) rfl rfl Tryz.func52 (by kernel_rfl) rfl #[.string (rdOf ByteArray.empty t102 x17_1)] rfl (by (try simp only [List.map_toArray, List.map_cons, List.map_nil]); first | done | rfl | (simp only [List.length_drop, List.length_take]; rfl)) ?_; (with_reducible refine (four_Strict.calls k1 (rdOf ByteArray.empty t102 x17_1) t106 t107 t108 _ A9.out).mono ?_); rintro e w' ⟨rfl, ⟨nd, rfl⟩⟩; refine ⟨_, rfl, ?_⟩) | ((with_reducible refine gate_callee (f := 53) rfl ?_); refine goesL_ (some 39) rfl rfl Tryz.func53 (by kernel_rfl) rfl #[.string (rdOf ByteArray.empty t102 x17_1), .int .i64 16] rfl (by (try simp only [List.map_toArray, List.map_cons, List.map_nil]); first | done | rfl | (simp only [List.length_drop, List.length_take]; rfl)) ?_; (with_reducible refine (octet_Number.calls (rdOf ByteArray.empty t102 x17_1) 16 t115 t116 t117 _ A16.out).mono ?_); rintro e w' ⟨rfl, ⟨nd, rfl⟩⟩; refine ⟨_, rfl, ?_⟩) | ((with_reducible refine gate_builtin (b := .append) (xs := #[.tmp 43, .tmp 46]) rfl ?_); at_builtin; refine Kd.R_append (Kd.int .u16) (w0 := w) w.heap.size rfl (.tmp 43) (.tmp 46) 81 22 (.int .u16 0) 2 rfl Tryz.underlying81 info22 rfl (by decide) (by omega) u3 x3_1 (IntKind.u16.wrap (t115)) [.int .u16 (IntKind.u16.wrap (t115))] (fun _ => True) (fun _ => False) rfl rfl ?aP (fun _ hk => hk.elim) ?aF ?aO ?aB ?aS ?aL ?_; (case aP => exact rfl); (case aB => exact (by repeat (first | (with_reducible first | exact HB.out | apply below_alloc | apply pw_below_drewN | apply below_drew1) | exact HB.out))); (case aF => exact (fun _ _ => trivial)); (case aO => exact (by (with_reducible repeat (first | apply Kd.R_alloc | apply Kd.R_drewN | apply Kd.R_drew)); exact HO_3.out)); (case aS => exact (below_size (by repeat (first | (with_reducible first | exact HB.out | apply below_alloc | apply pw_below_drewN | apply below_drew1) | exact HB.out)))); (case aL => have := LMc17.out; omega); intro v119 w18 ho hb hg hat; rw [← Ny118.out] at ho; have n0_ := Aside0.mk (Kd.R_over' (by (with_reducible repeat (first | apply Kd.R_alloc | apply Kd.R_drewN | apply Kd.R_drew)); exact HO_15.out) (Kd.R_typed (by (with_reducible repeat (first | apply Kd.R_alloc | apply Kd.R_drewN | apply Kd.R_drew)); exact HO_3.out)) (by decide) hg); have n1_ := Aside0.mk (hb); have n2_ := Aside0.mk (ho); clear HO_15; clear HB; clear HO_3; have HO_15 := n0_; have HB := n1_; have HO120 := n2_; clear n0_ n1_ n2_; clear ho hb hg hat))
                  go_roundg k1
                  case measure => have := HK1.out; omega
                  case rel => exact ⟨(y118), (wrap64 (x17_1 + 1)), (by first | rfl | (simp; done) | (simp [*]; done)), H', ⟨by have := HK1.out; omega⟩, ⟨by (with_reducible repeat (first | apply Kd.R_alloc | apply Kd.R_drewN | apply Kd.R_drew)); exact HO120.out⟩, ⟨by (with_reducible repeat (first | apply Kd.R_alloc | apply Kd.R_drewN | apply Kd.R_drew)); exact HO_15.out⟩, ⟨by repeat (first | (with_reducible first | exact HB.out | apply below_alloc | apply pw_below_drewN | apply below_drew1) | exact HB.out)⟩⟩
                · rw [if_neg c17] at H
                  exact absurd H (by simp)
            · rw [if_neg c8] at H
              exact absurd H (by simp)
          · rw [if_neg c7] at H
            exact absurd H (by simp)
        · rw [if_neg c6] at H
          have c6b0 : decide (x17_1 < (t102.length : Int)) = false := decide_eq_false c6
          clear c6
          obtain rfl := Option.some.inj H
          go_wp2
          go_ret
          exact ⟨_, by first | rfl | (simp [errW_none, errW_some] <;> rfl) | (simp [*, errW_none, errW_some] <;> rfl), by (with_reducible repeat (first | apply Kd.R_alloc | apply Kd.R_drewN | apply Kd.R_drew)); exact HO_3.out, by repeat (first | (with_reducible first | exact HB.out | apply below_alloc | apply pw_below_drewN | apply below_drew1) | exact HB.out)⟩
end Go.Proofs.YtcgdjnmfeibnoaaGreatDoor.X
/-! SixStrict -/
namespace Go.Proofs.YtcgdjnmfeibnoaaGreatDoor
open Go.RowKit Go.Proofs.YtcgdjnmfeibnoaaGreatDoorW.PrintWords Go.Proofs.YtcgdjnmfeibnoaaGreatDoor.X Go.IntWalk
set_option linter.unusedVariables false
set_option linter.unusedSimpArgs false
/-- The address of what is left: the place, the number and the count of the parts behind, the digits and the number of this part. -/
def strictL : List UInt8 → Nat → Int → Nat → Nat → Int → Int × Int × Int
  | [], i, n, part, size, x => if part < 3 ∨ size = 0 then (0, i, 203) else ((256 * n + x) % 4294967296, 0, 0)
  | c :: l, i, n, part, size, x => if 48 ≤ (c.toNat : Int) ∧ (c.toNat : Int) ≤ 57 ∧ (size = 0 ∨ 0 < x) ∧ 10 * x + ((c.toNat : Int) - 48) ≤ 255 then strictL l (i + 1) n part (size + 1) (10 * x + ((c.toNat : Int) - 48))
    else if c = 46 ∧ 0 < size ∧ part < 3 then strictL l (i + 1) ((256 * n + x) % 4294967296) (part + 1) 0 0 else (0, i, 203)
def strictV (l : List UInt8) : Int × Int × Int := strictL l 0 0 0 0 0
theorem or_part (n x : Int) (h0 : 0 ≤ n) (h1 : n < 4294967296) (k0 : 0 ≤ x) (k1 : x ≤ 255) : Go.bits .or .u32 ((n * 256) % 4294967296) (x % 4294967296) = (256 * n + x) % 4294967296 := by
  rw [Int.emod_eq_of_lt k0 (by omega)]
  obtain ⟨a, rfl⟩ := Int.eq_ofNat_of_zero_le h0
  obtain ⟨b, rfl⟩ := Int.eq_ofNat_of_zero_le k0
  rw [u32_or _ _ (by omega) (by omega) (by omega) (by omega)]
  have e : ((a : Int) * 256 % 4294967296).toNat = 2 ^ 8 * (a % 16777216) := by omega
  rw [e, Int.toNat_natCast, ← Nat.two_pow_add_eq_or_of_lt (show b < 2 ^ 8 by omega)]
  omega
theorem wdig (x c : Int) (x0 : 0 ≤ x) (x1 : x ≤ 255) (d0 : 48 ≤ c) (d1 : c ≤ 57) : wrap64 (wrap64 (10 * x) + (c - 48)) = 10 * x + (c - 48) := by
  rw [wrap64_in (10 * x) (by omega), wrap64_in _ (by omega)]
theorem wdigm (x c : Int) (x0 : 0 ≤ x) (x1 : x ≤ 255) (d0 : 48 ≤ c) (d1 : c ≤ 57) : wrap64 (wrap64 (10 * x) + (c - 48) % 256) = 10 * x + (c - 48) := by
  rw [show (c - 48) % 256 = c - 48 by omega, wdig x c x0 x1 d0 d1]
theorem wsucc (j : Nat) (h : j < 9223372036854775807) : wrap64 ((j : Int) + 1) = ((j + 1 : Nat) : Int) := by rw [wrap64_in _ (by omega)]; omega
theorem strict_l1 (s : ByteArray) (hs : s.size ≤ 9223372036854775807) : ∀ (m i : Nat) (n x : Int) (part start : Nat), i + m = s.data.toList.length → start ≤ i → part ≤ 3 → 0 ≤ x → x ≤ 255 → 0 ≤ n → n < 4294967296 →
    Ev (fun k => four_Strict.l1 k s n (i : Int) (part : Int) x (start : Int) (part : Int)) (strictL (s.data.toList.drop i) i n part (i - start) x) := by
  have hz := size_len s
  intro m
  induction m with
  | zero =>
    intro i n x part start hm hst hp x0 x1 n0 n1
    rw [List.drop_of_length_le (by omega)]
    refine Ev.step (f := fun k => four_Strict.j2 k s n (i : Int) (part : Int) x (start : Int) (part : Int) false) (fun k => ?_) ?_
    · simp only [four_Strict.l1]
      rw [if_neg (by omega)]
    · refine Ev.step (f := fun k => some (strictL [] i n part (i - start) x)) (fun k => ?_) (Ev.now _)
      simp only [four_Strict.j2, strictL]
      rw [if_neg (by simp)]
      by_cases h1 : i = start
      · rw [if_pos (by omega), if_pos (.inr (by omega))]
      · rw [if_neg (by omega)]
        by_cases h3 : part = 3
        · rw [if_pos (by omega), if_neg (by omega), if_neg (by omega), or_part n x n0 n1 x0 x1]
        · rw [if_neg (by omega), if_pos (by omega), if_pos (.inl (by omega))]
  | succ m ih =>
    intro i n x part start hm hst hp x0 x1 n0 n1
    have hi : i < s.data.toList.length := by omega
    have hb := bt_get s i hi
    have hlt := s.data.toList[i].toNat_lt
    rw [List.drop_eq_getElem_cons hi]
    have c46 := byte_eq s.data.toList[i] 46
    rw [show (((46 : UInt8).toNat : Nat) : Int) = 46 from rfl] at c46
    generalize s.data.toList[i] = c at *
    rw [strictL]
    refine Ev.step (f := fun k => four_Strict.j2 k s n (i : Int) (part : Int) x (start : Int) (part : Int) (decide (48 ≤ (c.toNat : Int)) && decide ((c.toNat : Int) ≤ 57))) (fun k => ?_) ?_
    · simp only [four_Strict.l1]
      rw [if_pos (by omega), if_pos (by omega), hb]
      by_cases h : (c.toNat : Int) ≥ 48
      · rw [if_pos h, decide_eq_true (show 48 ≤ (c.toNat : Int) from h), Bool.true_and]
      · rw [if_neg h, decide_eq_false (show ¬ 48 ≤ (c.toNat : Int) from h), Bool.false_and]
    · by_cases hd : 48 ≤ (c.toNat : Int) ∧ (c.toNat : Int) ≤ 57
      · obtain ⟨d0, d1⟩ := hd
        rw [decide_eq_true d0, decide_eq_true d1, Bool.and_true]
        have hc : ¬ c = 46 := fun e => by have := c46.2 e; omega
        by_cases hok : (i - start = 0 ∨ 0 < x) ∧ 10 * x + ((c.toNat : Int) - 48) ≤ 255
        · rw [if_pos ⟨d0, d1, hok⟩]
          have e := ih (i + 1) n (10 * x + ((c.toNat : Int) - 48)) part start (by omega) (by omega) hp (by omega) (by omega) n0 n1
          rw [show i + 1 - start = i - start + 1 by omega] at e
          refine Ev.step (fun k => ?_) e
          simp only [four_Strict.j2]
          rw [if_pos trivial, if_pos (by omega), if_pos (by omega), hb, wdigm x c.toNat x0 x1 d0 d1, if_neg (by omega), wsucc i (by omega)]
          by_cases h2 : (i : Int) > (start : Int)
          · rw [if_pos h2, if_neg (by omega)]
          · rw [if_neg h2]
        · rw [if_neg (fun h => hok h.2.2), if_neg (fun h => hc h.1)]
          refine Ev.step (f := fun k => some (0, (i : Int), 203)) (fun k => ?_) (Ev.now _)
          simp only [four_Strict.j2]
          rw [if_pos trivial, if_pos (by omega), if_pos (by omega), hb, wdigm x c.toNat x0 x1 d0 d1]
          by_cases h2 : 10 * x + ((c.toNat : Int) - 48) > 255
          · rw [if_pos h2]
          · rw [if_neg h2, if_pos (by omega), if_pos (by omega)]
      · rw [if_neg (fun h => hd ⟨h.1, h.2.1⟩)]
        have hf : (decide (48 ≤ (c.toNat : Int)) && decide ((c.toNat : Int) ≤ 57)) = false := by
          rw [Bool.and_eq_false_iff, decide_eq_false_iff_not, decide_eq_false_iff_not]
          omega
        rw [hf]
        by_cases hok : c = 46 ∧ 0 < i - start ∧ part < 3
        · rw [if_pos hok]
          have e := ih (i + 1) ((256 * n + x) % 4294967296) 0 (part + 1) (i + 1) (by omega) (by omega) (by omega) (by omega) (by omega) (by omega) (by omega)
          rw [show i + 1 - (i + 1) = 0 by omega] at e
          refine Ev.step (f := fun k => four_Strict.l0 k s ((256 * n + x) % 4294967296) ((i + 1 : Nat) : Int) ((part + 1 : Nat) : Int)) (fun k => ?_) (Ev.step (fun k => ?_) e)
          · simp only [four_Strict.j2]
            rw [if_neg (by simp), if_neg (by omega), if_neg (by omega), if_neg (by omega), if_pos (by omega), if_pos (by omega), hb, if_pos (c46.2 hok.1), or_part n x n0 n1 x0 x1, wsucc i (by omega), wsucc part (by omega)]
          · simp only [four_Strict.l0]
            rw [if_pos (by omega)]
        · rw [if_neg hok]
          refine Ev.step (f := fun k => some (0, (i : Int), 203)) (fun k => ?_) (Ev.now _)
          simp only [four_Strict.j2]
          rw [if_neg (by simp)]
          by_cases h1 : (i : Int) = (start : Int)
          · rw [if_pos h1]
          · rw [if_neg h1]
            by_cases h3 : (part : Int) = 3
            · rw [if_pos h3, if_pos (by omega)]
            · rw [if_neg h3, if_neg (by omega), if_pos (by omega), if_pos (by omega), hb, if_neg (fun e => hok ⟨c46.1 e, by omega, by omega⟩)]
theorem strict_ev (s : ByteArray) (hs : s.size ≤ 9223372036854775807) : Ev (fun k => four_Strict.f k s) (strictV s.data.toList) := by
  have e := strict_l1 s hs s.data.toList.length 0 0 0 0 0 (by omega) (by omega) (by omega) (by omega) (by omega) (by omega) (by omega)
  refine Ev.congr (f := fun k => four_Strict.l0 k s 0 0 0) (fun k => rfl) (Ev.step (fun k => ?_) e)
  simp only [four_Strict.l0]
  rw [if_pos (by decide)]
  rfl
end Go.Proofs.YtcgdjnmfeibnoaaGreatDoor
/-! SixNT -/
namespace Go.Proofs.YtcgdjnmfeibnoaaGreatDoor
open Go.RowKit Go.Proofs.YtcgdjnmfeibnoaaGreatDoorW.PrintWords
set_option linter.unusedVariables false
set_option linter.unusedSimpArgs false
/-- A piece of a text. -/
structure Pc (t : List UInt8) : Prop where
  l1 : 1 ≤ t.length
  l4 : t.length ≤ 4
  hex : ∀ c ∈ t, 0 ≤ digV (c.toNat : Int) 16
/-- What digits say to the base 16, behind a number. -/
def hexF (n : Int) (t : List UInt8) : Int := t.foldl (fun n c => 16 * n + digV (c.toNat : Int) 16) n
def pcV (t : List UInt8) : Int := hexF 0 t
/-- Parts, a colon behind each. -/
def endC : List (List UInt8) → List UInt8
  | [] => []
  | p :: r => p ++ 58 :: endC r
/-- Parts, colons between them. -/
def joinC : List (List UInt8) → List UInt8
  | [] => []
  | [p] => p
  | p :: q :: r => p ++ 58 :: joinC (q :: r)
def headC (fs : List (List UInt8)) : List UInt8 := if fs = [] then [58] else endC fs
theorem endC_app (a b : List (List UInt8)) : endC (a ++ b) = endC a ++ endC b := by
  induction a with
  | nil => rfl
  | cons p r ih => rw [List.cons_append, endC, endC, ih]; simp
theorem endC_join {fs : List (List UInt8)} (h : fs ≠ []) : endC fs = joinC fs ++ [58] := by
  induction fs with
  | nil => exact absurd rfl h
  | cons p r ih =>
    cases r with
    | nil => rfl
    | cons q r => rw [endC, ih (by simp), joinC]; simp
theorem joinC_last (fs : List (List UInt8)) (cur : List UInt8) : joinC (fs ++ [cur]) = endC fs ++ cur := by
  induction fs with
  | nil => rfl
  | cons p r ih =>
    cases r with
    | nil => rw [endC, endC]; simp [joinC]
    | cons q r =>
      rw [List.cons_append, List.cons_append, joinC, endC, ← List.cons_append, ih]; simp
theorem hex_58 : digV 58 16 = -1 := by decide
theorem hex_46 : digV 46 16 = -1 := by decide
theorem Pc.no58 {t : List UInt8} (h : Pc t) : (58 : UInt8) ∉ t := fun q => by
  have := h.hex 58 q
  rw [show (((58 : UInt8).toNat : Nat) : Int) = 58 from rfl, hex_58] at this
  omega
theorem Pc.no46 {t : List UInt8} (h : Pc t) : (46 : UInt8) ∉ t := fun q => by
  have := h.hex 46 q
  rw [show (((46 : UInt8).toNat : Nat) : Int) = 46 from rfl, hex_46] at this
  omega
theorem Pc.ne {t : List UInt8} (h : Pc t) : t ≠ [] := by
  have := h.l1
  intro e
  rw [e] at this
  simp at this
theorem hexF_app (n : Int) (a b : List UInt8) : hexF n (a ++ b) = hexF (hexF n a) b := by unfold hexF; rw [List.foldl_append]
theorem hexF_bound : ∀ (t : List UInt8) (n : Int), (∀ c ∈ t, 0 ≤ digV (c.toNat : Int) 16) → 0 ≤ n → 0 ≤ hexF n t ∧ hexF n t + 1 ≤ (n + 1) * 16 ^ t.length
  | [], n, _, h0 => by simp [hexF]; exact h0
  | c :: t, n, h, h0 => by
    have hc := h c (by simp)
    have hl := digV_lt (b := (c.toNat : Int)) (base := 16) (by decide)
    obtain ⟨a, b⟩ := hexF_bound t (16 * n + digV (c.toNat : Int) 16) (fun x hx => h x (List.mem_cons_of_mem _ hx)) (by omega)
    refine ⟨a, Int.le_trans b ?_⟩
    rw [List.length_cons, Int.pow_succ, Int.mul_comm (16 ^ t.length) 16, ← Int.mul_assoc]
    exact Int.mul_le_mul_of_nonneg_right (by omega) (Int.pow_nonneg (by decide))
theorem pcV_bound {t : List UInt8} (h : Pc t) : 0 ≤ pcV t ∧ pcV t ≤ 65535 := by
  obtain ⟨a, b⟩ := hexF_bound t 0 h.hex (Int.le_refl 0)
  refine ⟨a, ?_⟩
  have h1 : (16 : Int) ^ t.length ≤ 16 ^ 4 := by
    have := Nat.pow_le_pow_right (n := 16) (by decide) h.l4
    exact_mod_cast this
  unfold pcV
  have : (16 : Int) ^ 4 = 65536 := by decide
  omega
theorem numL_hex : ∀ (t : List UInt8) (n i : Int), (∀ c ∈ t, 0 ≤ digV (c.toNat : Int) 16) → numL 16 t n i = if 18446744073709551616 ≤ hexF n t then (0, 0, 13) else (hexF n t, 0, 0)
  | [], n, i, _ => rfl
  | c :: t, n, i, h => by
    have hc := h c (by simp)
    rw [numL_pos (by omega), numL_hex t _ _ (fun x hx => h x (List.mem_cons_of_mem _ hx))]
    rw [show hexF (n * 16 + digV (c.toNat : Int) 16) t = hexF n (c :: t) from by unfold hexF; rw [List.foldl_cons, Int.mul_comm]]
theorem numV_pc {t : List UInt8} (h : Pc t) : numV t 16 = (pcV t, 0, 0) := by
  unfold numV
  have := pcV_bound h
  rw [if_neg (by decide), if_neg h.ne, numL_hex t 0 0 h.hex, if_neg (by unfold pcV at this; omega)]
  rfl
/-- A text without a stop is no IPv4 address. -/
theorem strictL_no : ∀ (l : List UInt8) (i : Nat) (n : Int) (part size : Nat) (x : Int), (46 : UInt8) ∉ l → part < 3 → (strictL l i n part size x).2.2 = 203
  | [], i, n, part, size, x, _, hp => by rw [strictL, if_pos (.inl hp)]
  | c :: l, i, n, part, size, x, h, hp => by
    rw [strictL]
    split
    · exact strictL_no l _ _ _ _ _ (fun q => h (List.mem_cons_of_mem _ q)) hp
    · rw [if_neg (by rintro ⟨rfl, _⟩; exact h (by simp))]
/-- The pieces that a part says. -/
def grpV (p : List UInt8) : List Int := if (strictV p).2.2 = 0 then [(strictV p).1 / 65536 % 65536, (strictV p).1 % 65536] else [(numV p 16).1 % 65536]
/-- What the program writes of a text. -/
def writtenV (t : List UInt8) : List Int := if t = [] then [] else (splitC 58 t).flatMap grpV
theorem grpV_pc {t : List UInt8} (h : Pc t) : grpV t = [pcV t] := by
  unfold grpV
  have := pcV_bound h
  rw [if_neg (by unfold strictV; rw [strictL_no t _ _ _ _ _ h.no46 (by decide)]; decide), numV_pc h]
  show [pcV t % 65536] = _
  rw [Int.emod_eq_of_lt this.1 (by omega)]
theorem flatMap_pc {fs : List (List UInt8)} (h : ∀ p ∈ fs, Pc p) : fs.flatMap grpV = fs.map pcV := by
  induction fs with
  | nil => rfl
  | cons p r ih => rw [List.flatMap_cons, grpV_pc (h p (by simp)), ih (fun q hq => h q (List.mem_cons_of_mem _ hq))]; rfl
/-- Cut at the first '::'. -/
def cut2 : List UInt8 → List UInt8 × List UInt8 × Bool
  | [] => ([], [], false)
  | a :: l => if a = 58 ∧ l.head? = some 58 then ([], l.tail, true) else (a :: (cut2 l).1, (cut2 l).2.1, (cut2 l).2.2)
theorem cut2_cons {a : UInt8} {l : List UInt8} (h : a ≠ 58 ∨ l.head? ≠ some 58) : cut2 (a :: l) = (a :: (cut2 l).1, (cut2 l).2.1, (cut2 l).2.2) := by
  rw [cut2, if_neg]
  rintro ⟨p, q⟩
  rcases h with h | h
  · exact h p
  · exact h q
theorem cut2_app : ∀ (p l : List UInt8), (58 : UInt8) ∉ p → cut2 (p ++ l) = (p ++ (cut2 l).1, (cut2 l).2.1, (cut2 l).2.2)
  | [], l, _ => rfl
  | a :: p, l, h => by
    have ha : a ≠ 58 := fun e => h (by simp [e])
    rw [List.cons_append, cut2_cons (.inl ha), cut2_app p l (fun q => h (List.mem_cons_of_mem _ q))]
    rfl
theorem cut2_no (p : List UInt8) (h : (58 : UInt8) ∉ p) : cut2 p = (p, [], false) := by
  have := cut2_app p [] h
  rw [List.append_nil] at this
  rw [this, cut2, List.append_nil]
/-- A part: not empty, without a colon. -/
structure Pt (t : List UInt8) : Prop where
  ne : t ≠ []
  no : (58 : UInt8) ∉ t
theorem Pc.pt {t : List UInt8} (h : Pc t) : Pt t := ⟨h.ne, h.no58⟩
theorem Pt.head {t : List UInt8} (h : Pt t) (l : List UInt8) : (t ++ l).head? ≠ some 58 := by
  obtain ⟨a, b⟩ := h
  cases t with
  | nil => exact absurd rfl a
  | cons c t =>
    intro e
    simp at e
    exact b (by simp [e])
theorem joinC_head {fs : List (List UInt8)} (h : ∀ p ∈ fs, Pt p) (hn : fs ≠ []) (l : List UInt8) : (joinC fs ++ l).head? ≠ some 58 := by
  cases fs with
  | nil => exact absurd rfl hn
  | cons p r =>
    have hp := h p (by simp)
    cases r with
    | nil => exact hp.head l
    | cons q r => rw [joinC, List.append_assoc]; exact hp.head _
theorem cut2_join : ∀ (fs : List (List UInt8)), (∀ p ∈ fs, Pt p) → fs ≠ [] → cut2 (joinC fs) = (joinC fs, [], false)
  | [], _, h => absurd rfl h
  | [p], h, _ => cut2_no p (h p (by simp)).no
  | p :: q :: r, h, _ => by
    have ih := cut2_join (q :: r) (fun x hx => h x (List.mem_cons_of_mem _ hx)) (by simp)
    have hd := joinC_head (fs := q :: r) (fun x hx => h x (List.mem_cons_of_mem _ hx)) (by simp) []
    rw [List.append_nil] at hd
    rw [joinC, cut2_app p _ (h p (by simp)).no, cut2_cons (.inr hd), ih]
theorem cut2_gap : ∀ (fs : List (List UInt8)) (l : List UInt8), (∀ p ∈ fs, Pt p) → cut2 (joinC fs ++ 58 :: 58 :: l) = (joinC fs, l, true)
  | [], l, _ => by rw [joinC, List.nil_append, cut2, if_pos ⟨rfl, rfl⟩]; rfl
  | [p], l, h => by rw [joinC, cut2_app p _ (h p (by simp)).no, cut2, if_pos ⟨rfl, rfl⟩]; simp
  | p :: q :: r, l, h => by
    have ih := cut2_gap (q :: r) l (fun x hx => h x (List.mem_cons_of_mem _ hx))
    have hd := joinC_head (fs := q :: r) (fun x hx => h x (List.mem_cons_of_mem _ hx)) (by simp) (58 :: 58 :: l)
    rw [joinC, List.append_assoc, List.cons_append, cut2_app p _ (h p (by simp)).no, cut2_cons (.inr hd), ih]
theorem splitC_pt {p : List UInt8} (h : (58 : UInt8) ∉ p) (l : List UInt8) : splitC 58 (p ++ 58 :: l) = p :: splitC 58 l := by
  induction p with
  | nil => rw [List.nil_append, splitC_eq]
  | cons a p ih =>
    rw [List.cons_append, splitC_cons (fun e => h (by simp [e])), ih (fun q => h (List.mem_cons_of_mem _ q))]
    rfl
theorem splitC_no {p : List UInt8} (h : (58 : UInt8) ∉ p) : splitC 58 p = [p] := by
  induction p with
  | nil => rfl
  | cons a p ih => rw [splitC_cons (fun e => h (by simp [e])), ih (fun q => h (List.mem_cons_of_mem _ q))]; rfl
theorem splitC_join : ∀ (fs : List (List UInt8)), (∀ p ∈ fs, Pt p) → fs ≠ [] → splitC 58 (joinC fs) = fs
  | [], _, h => absurd rfl h
  | [p], h, _ => splitC_no (h p (by simp)).no
  | p :: q :: r, h, _ => by
    rw [joinC, splitC_pt (h p (by simp)).no, splitC_join (q :: r) (fun x hx => h x (List.mem_cons_of_mem _ hx)) (by simp)]
theorem joinC_ne {fs : List (List UInt8)} (h : ∀ p ∈ fs, Pt p) (hn : fs ≠ []) : joinC fs ≠ [] := by
  cases fs with
  | nil => exact absurd rfl hn
  | cons p r =>
    have hp := (h p (by simp)).ne
    cases r with
    | nil => exact hp
    | cons q r => rw [joinC]; simp
theorem writtenV_join {fs : List (List UInt8)} (h : ∀ p ∈ fs, Pt p) : writtenV (joinC fs) = fs.flatMap grpV := by
  by_cases hn : fs = []
  · rw [hn]; rfl
  · unfold writtenV
    rw [if_neg (joinC_ne h hn), splitC_join fs h hn]
end Go.Proofs.YtcgdjnmfeibnoaaGreatDoor
/-! SixNP -/
namespace Go.Proofs.YtcgdjnmfeibnoaaGreatDoor
open Go.RowKit Go.Proofs.YtcgdjnmfeibnoaaGreatDoorW.PrintWords
set_option linter.unusedVariables false
set_option linter.unusedSimpArgs false
/-- What a part that may be of an IPv4 address says so far. -/
def DotRun (cur : List UInt8) (n : Int) (part size : Nat) (x : Int) : Prop := ∀ rest, strictL (cur ++ rest) 0 0 0 0 0 = strictL rest cur.length n part size x
theorem DotRun.nil : DotRun [] 0 0 0 0 := fun rest => rfl
theorem DotRun.digit {cur : List UInt8} {n : Int} {part size : Nat} {x : Int} (h : DotRun cur n part size x) {c : UInt8} (hc : 48 ≤ (c.toNat : Int) ∧ (c.toNat : Int) ≤ 57) (hs : size = 0 ∨ 0 < x) (hm : 10 * x + ((c.toNat : Int) - 48) ≤ 255) :
    DotRun (cur ++ [c]) n part (size + 1) (10 * x + ((c.toNat : Int) - 48)) := fun rest => by
  rw [List.append_assoc, h ([c] ++ rest), List.singleton_append, strictL, if_pos ⟨hc.1, hc.2, hs, hm⟩, List.length_append]
  rfl
theorem DotRun.dot {cur : List UInt8} {n : Int} {part size : Nat} {x : Int} (h : DotRun cur n part size x) (hs : 0 < size) (hp : part < 3) : DotRun (cur ++ [46]) ((256 * n + x) % 4294967296) (part + 1) 0 0 := fun rest => by
  rw [List.append_assoc, h ([46] ++ rest), List.singleton_append, strictL, if_neg (by rintro ⟨a, _⟩; exact absurd a (by decide)), if_pos ⟨rfl, hs, hp⟩, List.length_append]
  rfl
theorem DotRun.whole {cur : List UInt8} {n : Int} {size : Nat} {x : Int} (h : DotRun cur n 3 size x) (hs : 0 < size) : strictV cur = ((256 * n + x) % 4294967296, 0, 0) := by
  have := h []
  rw [List.append_nil] at this
  unfold strictV
  rw [this, strictL, if_neg (by omega)]
/-- The parts that a scan has read. -/
structure Base (x : Sc) (fs bs : List (List UInt8)) : Prop where
  pf : ∀ p ∈ fs, Pc p
  pb : ∀ p ∈ bs, Pc p
  n : x.N = ((fs ++ bs).length : Nat)
  L : ∀ (j : Nat) (p : List UInt8), (fs ++ bs)[j]? = some p → x.L j = pcV p
  neg : x.skip < 0 → bs = []
  pos : 0 ≤ x.skip → x.skip = (fs.length : Nat)
def preT (x : Sc) (fs bs : List (List UInt8)) : List UInt8 := if 0 ≤ x.skip then headC fs ++ 58 :: endC bs else endC fs
/-- The text that a scan has read. -/
inductive TI : Sc → List UInt8 → Prop
  | start {x : Sc} (h : x.st = 0) (hb : Base x [] []) (hk : x.skip < 0) : TI x []
  | colon {x : Sc} (h : x.st = 1) (hb : Base x [] []) (hk : x.skip < 0) : TI x [58]
  | single {x : Sc} {fs bs : List (List UInt8)} (h : x.st = 2 ∨ x.st = 3) (hb : Base x fs bs) (hf : x.skip < 0 → fs ≠ []) (h3 : x.st = 3 → bs = []) : TI x (preT x fs bs)
  | piece {x : Sc} {fs bs : List (List UInt8)} {cur : List UInt8} (h : x.st = 4) (hb : Base x fs bs) (hc : Pc cur) (hd : x.digs = (cur.length : Nat)) (hv : x.val = pcV cur) (ht : 0 ≤ x.ten → DotRun cur 0 0 cur.length x.ten) : TI x (preT x fs bs ++ cur)
  | stop {x : Sc} {fs bs : List (List UInt8)} {cur : List UInt8} (h : x.st = 5) (hb : Base x fs bs) (hn : cur ≠ []) (hno : (58 : UInt8) ∉ cur) (hr : DotRun cur x.four x.parts.toNat 0 0) (f0 : 0 ≤ x.four) (f1 : x.parts = 1 ∧ x.four ≤ 255 ∨ x.parts = 2 ∧ x.four ≤ 65535 ∨ x.parts = 3 ∧ x.four ≤ 16777215) : TI x (preT x fs bs ++ cur)
  | part {x : Sc} {fs bs : List (List UInt8)} {cur : List UInt8} (h : x.st = 6) (hb : Base x fs bs) (hn : cur ≠ []) (hno : (58 : UInt8) ∉ cur) (hr : DotRun cur x.four x.parts.toNat x.digs.toNat x.ten) (f0 : 0 ≤ x.four) (f1 : x.parts = 1 ∧ x.four ≤ 255 ∨ x.parts = 2 ∧ x.four ≤ 65535 ∨ x.parts = 3 ∧ x.four ≤ 16777215) : TI x (preT x fs bs ++ cur)
theorem first_ti {x : Sc} {fs bs : List (List UInt8)} (hb : Base x fs bs) (c : UInt8) (h : (x.first (c.toNat : Int)).st ≠ 7) : TI (x.first (c.toNat : Int)) (preT x fs bs ++ [c]) := by
  unfold Sc.first at h ⊢
  by_cases hd : digV (c.toNat : Int) 16 < 0 ∨ x.room < 1
  · rw [if_pos hd] at h
    exact absurd rfl h
  · rw [if_neg hd]
    refine TI.piece (fs := fs) (bs := bs) (cur := [c]) rfl ⟨hb.pf, hb.pb, hb.n, hb.L, hb.neg, hb.pos⟩ ⟨by simp, by simp, fun q hq => by simp at hq; rw [hq]; omega⟩ rfl rfl ?_
    intro h0
    have hq : 48 ≤ (c.toNat : Int) ∧ (c.toNat : Int) ≤ 57 := by
      by_cases hq : 48 ≤ (c.toNat : Int) ∧ (c.toNat : Int) ≤ 57
      · exact hq
      · exfalso
        have : ({ x with st := 4, digs := 0, val := 0, ten := 0 : Sc }.more (c.toNat : Int)).ten < 0 := more_ten_lt (by omega)
        omega
    have e : ({ x with st := 4, digs := 0, val := 0, ten := 0 : Sc }.more (c.toNat : Int)).ten = 10 * 0 + ((c.toNat : Int) - 48) := by
      show (if _ then _ else _) = _
      rw [if_neg (by show ¬ ((c.toNat : Int) < 48 ∨ 57 < (c.toNat : Int) ∨ ((0 : Int) < 0 ∧ (0 : Int) = 0) ∨ (0 : Int) < 0 ∨ 255 < 10 * (0 : Int) + ((c.toNat : Int) - 48)); omega)]
    rw [e]
    exact DotRun.nil.digit hq (.inl rfl) (by omega)
theorem closed_base {x : Sc} {fs bs : List (List UInt8)} {cur : List UInt8} (hb : Base x fs bs) (hc : Pc cur) (hv : x.val = pcV cur) :
    Base x.closed (if x.skip < 0 then fs ++ [cur] else fs) (if x.skip < 0 then [] else bs ++ [cur]) := by
  have hall : (if x.skip < 0 then fs ++ [cur] else fs) ++ (if x.skip < 0 then [] else bs ++ [cur]) = fs ++ bs ++ [cur] := by
    by_cases hk : x.skip < 0
    · rw [if_pos hk, if_pos hk, hb.neg hk]; simp
    · rw [if_neg hk, if_neg hk]; simp
  refine ⟨?_, ?_, ?_, ?_, ?_, ?_⟩
  · intro p hp
    split at hp
    · rcases List.mem_append.1 hp with h | h
      · exact hb.pf p h
      · simp at h; rw [h]; exact hc
    · exact hb.pf p hp
  · intro p hp
    split at hp
    · cases hp
    · rcases List.mem_append.1 hp with h | h
      · exact hb.pb p h
      · simp at h; rw [h]; exact hc
  · rw [hall, List.length_append]
    show x.N + 1 = _
    rw [hb.n]
    simp
  · intro j p hp
    rw [hall] at hp
    show (if (j : Int) = x.N then x.val % 65536 else x.L j) = _
    have hn := hb.n
    by_cases hj : j < (fs ++ bs).length
    · rw [if_neg (by omega)]
      rw [List.getElem?_append_left hj] at hp
      exact hb.L j p hp
    · have hl := (List.getElem?_eq_some_iff.1 hp).1
      rw [List.length_append] at hl
      have hj' : j = (fs ++ bs).length := by simp at hl hj ⊢; omega
      rw [if_pos (by omega), hv]
      rw [hj', List.getElem?_append_right (Nat.le_refl _), Nat.sub_self] at hp
      obtain rfl := Option.some.inj hp
      have := pcV_bound hc
      exact Int.emod_eq_of_lt this.1 (by omega)
  · intro hk
    have hk' : x.skip < 0 := hk
    rw [if_pos hk']
  · intro hk
    have hk' : ¬ x.skip < 0 := Int.not_lt.2 hk
    rw [if_neg hk']
    exact hb.pos hk
theorem closed_pre {x : Sc} {fs bs : List (List UInt8)} {cur : List UInt8} : preT x.closed (if x.skip < 0 then fs ++ [cur] else fs) (if x.skip < 0 then [] else bs ++ [cur]) = preT x fs bs ++ cur ++ [58] := by
  unfold preT
  show (if 0 ≤ x.skip then _ else _) = _
  by_cases hk : x.skip < 0
  · rw [if_neg (show ¬ 0 ≤ x.skip by omega), if_neg (show ¬ 0 ≤ x.skip by omega), if_pos hk, endC_app]
    simp [endC]
  · rw [if_pos (show 0 ≤ x.skip by omega), if_pos (show 0 ≤ x.skip by omega), if_neg hk, if_neg hk, endC_app]
    simp [endC]
/-- One byte more. -/
theorem step_ti {x : Sc} {l : List St} {t : List UInt8} (hs : Sim x l) (h : TI x t) (c : UInt8) (hg : (x.step (c.toNat : Int)).st ≠ 7) : TI (x.step (c.toNat : Int)) (t ++ [c]) := by
  have c58 := byte_eq c 58
  rw [show (((58 : UInt8).toNat : Nat) : Int) = 58 from rfl] at c58
  have c46 := byte_eq c 46
  rw [show (((46 : UInt8).toNat : Nat) : Int) = 46 from rfl] at c46
  have hlt := c.toNat_lt
  have hd0 : Inv x := by cases hs <;> assumption
  have hd10 := digV16 (c.toNat : Int)
  cases h with
  | start h hb hk =>
    unfold Sc.step at hg ⊢
    rw [if_pos h] at hg ⊢
    by_cases e : (c.toNat : Int) = 58
    · rw [if_pos e]
      rw [c58.1 e]
      exact TI.colon rfl ⟨hb.pf, hb.pb, hb.n, hb.L, hb.neg, hb.pos⟩ hk
    · rw [if_neg e] at hg ⊢
      have := first_ti hb c hg
      unfold preT at this
      rw [if_neg (by omega)] at this
      exact this
  | colon h hb hk =>
    unfold Sc.step at hg ⊢
    rw [if_neg (by omega), if_pos h] at hg ⊢
    by_cases e : (c.toNat : Int) = 58
    · rw [if_pos e]
      rw [c58.1 e]
      exact TI.single (fs := []) (bs := []) (x := { x with skip := 0, st := 3 }) (.inr rfl) ⟨hb.pf, hb.pb, hb.n, hb.L, fun _ => rfl, fun _ => rfl⟩ (fun q => absurd q (by show ¬ (0 : Int) < 0; decide)) (fun _ => rfl)
    · rw [if_neg e] at hg
      exact absurd rfl hg
  | @single fs bs h hb hf h3 =>
    unfold Sc.step at hg ⊢
    rw [if_neg (by omega), if_neg (by omega)] at hg ⊢
    by_cases h2 : x.st = 2
    · rw [if_pos h2] at hg ⊢
      by_cases e : (c.toNat : Int) = 58 ∧ x.skip < 0 ∧ x.N ≤ 7
      · rw [if_pos e, c58.1 e.1]
        have hbs := hb.neg e.2.1
        subst hbs
        have ht : preT x fs [] ++ [58] = preT { x with skip := x.N, st := 3 } fs [] := by
          unfold preT
          rw [if_neg (by omega)]
          show _ = if 0 ≤ x.N then _ else _
          rw [if_pos hd0.n0]
          unfold headC
          rw [if_neg (hf e.2.1)]
          rfl
        rw [ht]
        exact TI.single (x := { x with skip := x.N, st := 3 }) (.inr rfl) ⟨hb.pf, hb.pb, hb.n, hb.L, fun _ => rfl, fun _ => by have := hb.n; rw [List.append_nil] at this; exact this⟩ (fun q => absurd hd0.n0 (Int.not_le.2 q)) (fun _ => rfl)
      · rw [if_neg e] at hg ⊢
        exact first_ti hb c hg
    · rw [if_neg h2, if_pos (by omega)] at hg ⊢
      exact first_ti hb c hg
  | @piece fs bs cur h hb hc hd hv ht =>
    have hpq : x.parts = 0 ∧ 1 ≤ x.room ∧ TenOk x.digs x.ten := by cases hs <;> first | omega | exact ⟨‹_›, ‹_›, ‹_›⟩
    have hl1 := hc.l1
    have hl4 := hc.l4
    by_cases e : (c.toNat : Int) = 58
    · rw [e] at hg ⊢
      rw [step_colon h hpq.1 hpq.2.1 hd0] at hg ⊢
      by_cases h2 : 2 ≤ x.room
      · rw [if_pos h2]
        rw [c58.1 e, ← closed_pre]
        have hB := closed_base hb hc hv
        refine TI.single (x := { x.closed with st := 2 }) (.inl rfl) ⟨hB.pf, hB.pb, hB.n, hB.L, hB.neg, hB.pos⟩ ?_ (fun q => absurd q (by show ¬ (2 : Int) = 3; decide))
        intro q
        have q' : x.skip < 0 := q
        rw [if_pos q']
        simp
      · rw [if_neg h2] at hg
        exact absurd rfl hg
    · unfold Sc.step at hg ⊢
      rw [if_neg (by omega), if_neg (by omega), if_neg (by omega), if_neg (by omega), if_pos h] at hg ⊢
      by_cases hx : 0 ≤ digV (c.toNat : Int) 16
      · rw [if_pos hx] at hg ⊢
        by_cases h4 : x.digs = 4
        · rw [if_pos h4] at hg
          exact absurd rfl hg
        · rw [if_neg h4] at hg ⊢
          rw [List.append_assoc]
          refine TI.piece (x := x.more (c.toNat : Int)) (fs := fs) (bs := bs) (cur := cur ++ [c]) h ⟨hb.pf, hb.pb, hb.n, hb.L, hb.neg, hb.pos⟩ ⟨by simp, by simp; omega, ?_⟩ ?_ ?_ ?_
          · intro q hq
            rcases List.mem_append.1 hq with q1 | q1
            · exact hc.hex q q1
            · simp at q1; rw [q1]; exact hx
          · show x.digs + 1 = _
            rw [hd]; simp
          · show 16 * x.val + digV (c.toNat : Int) 16 = _
            unfold pcV
            rw [hexF_app, hv]
            rfl
          · intro h0
            by_cases hq : (c.toNat : Int) < 48 ∨ 57 < (c.toNat : Int) ∨ (0 < x.digs ∧ x.ten = 0) ∨ x.ten < 0 ∨ 255 < 10 * x.ten + ((c.toNat : Int) - 48)
            · exfalso
              have h0' : 0 ≤ (if (c.toNat : Int) < 48 ∨ 57 < (c.toNat : Int) ∨ (0 < x.digs ∧ x.ten = 0) ∨ x.ten < 0 ∨ 255 < 10 * x.ten + ((c.toNat : Int) - 48) then -1 else 10 * x.ten + ((c.toNat : Int) - 48)) := h0
              rw [if_pos hq] at h0'
              omega
            · have em : (x.more (c.toNat : Int)).ten = 10 * x.ten + ((c.toNat : Int) - 48) := by
                show (if (c.toNat : Int) < 48 ∨ 57 < (c.toNat : Int) ∨ (0 < x.digs ∧ x.ten = 0) ∨ x.ten < 0 ∨ 255 < 10 * x.ten + ((c.toNat : Int) - 48) then -1 else 10 * x.ten + ((c.toNat : Int) - 48)) = _
                rw [if_neg hq]
              rw [em, List.length_append]
              exact (ht (by omega)).digit ⟨by omega, by omega⟩ (by omega) (by omega)
      · rw [if_neg hx, if_neg (by omega)] at hg ⊢
        by_cases hs46 : (c.toNat : Int) = 46
        · rw [if_pos hs46] at hg ⊢
          unfold Sc.dotted at hg ⊢
          by_cases hq : x.ten < 0 ∨ x.fits = false
          · rw [if_pos hq] at hg
            exact absurd rfl hg
          · rw [if_neg hq, List.append_assoc, c46.1 hs46]
            have ht0 : 0 ≤ x.ten := by omega
            have hr := (ht ht0).dot (by omega) (by decide)
            have htb : x.ten ≤ 255 := by
              have := hpq.2.2
              unfold TenOk at this
              omega
            rw [show (256 * 0 + x.ten) % 4294967296 = x.ten by omega] at hr
            exact TI.stop (x := { x with four := x.ten, parts := 1, st := 5 }) rfl ⟨hb.pf, hb.pb, hb.n, hb.L, hb.neg, hb.pos⟩ (by simp) (by
              intro q
              rcases List.mem_append.1 q with q1 | q1
              · exact hc.no58 q1
              · simp at q1) hr ht0 (.inl ⟨rfl, htb⟩)
        · rw [if_neg hs46] at hg
          exact absurd rfl hg
  | @stop fs bs cur h hb hn hno hr f0 f1 =>
    unfold Sc.step at hg ⊢
    rw [if_neg (by omega), if_neg (by omega), if_neg (by omega), if_neg (by omega), if_neg (by omega), if_pos h] at hg ⊢
    by_cases hq : 48 ≤ (c.toNat : Int) ∧ (c.toNat : Int) ≤ 57
    · rw [if_pos hq, List.append_assoc]
      have hr' := hr.digit hq (.inl rfl) (by omega)
      rw [show 10 * 0 + ((c.toNat : Int) - 48) = (c.toNat : Int) - 48 by omega] at hr'
      exact TI.part (x := { x with st := 6, digs := 1, ten := (c.toNat : Int) - 48 }) rfl ⟨hb.pf, hb.pb, hb.n, hb.L, hb.neg, hb.pos⟩ (by simp) (by
        intro q
        rcases List.mem_append.1 q with q1 | q1
        · exact hno q1
        · simp at q1
          rw [← q1] at hq
          exact absurd hq.2 (by decide)) hr' f0 f1
    · rw [if_neg hq] at hg
      exact absurd rfl hg
  | @part fs bs cur h hb hn hno hr f0 f1 =>
    have hpq : 1 ≤ x.digs ∧ 0 ≤ x.ten ∧ x.ten ≤ 255 := by cases hs <;> first | omega | exact ⟨‹_›, ‹_›, ‹_›⟩
    unfold Sc.step at hg ⊢
    rw [if_neg (by omega), if_neg (by omega), if_neg (by omega), if_neg (by omega), if_neg (by omega), if_neg (by omega), if_pos h] at hg ⊢
    by_cases hq : 48 ≤ (c.toNat : Int) ∧ (c.toNat : Int) ≤ 57 ∧ 0 < x.digs ∧ 0 < x.ten ∧ 10 * x.ten + ((c.toNat : Int) - 48) ≤ 255
    · rw [if_pos hq, List.append_assoc]
      have hr' := hr.digit ⟨hq.1, hq.2.1⟩ (.inr hq.2.2.2.1) hq.2.2.2.2
      rw [show x.digs.toNat + 1 = (x.digs + 1).toNat by omega] at hr'
      exact TI.part (x := { x with digs := x.digs + 1, ten := 10 * x.ten + ((c.toNat : Int) - 48) }) h ⟨hb.pf, hb.pb, hb.n, hb.L, hb.neg, hb.pos⟩ (by simp) (by
        intro q
        rcases List.mem_append.1 q with q1 | q1
        · exact hno q1
        · simp at q1
          rw [← q1] at hq
          exact absurd hq.2.1 (by decide)) hr' f0 f1
    · rw [if_neg hq] at hg ⊢
      by_cases hs' : (c.toNat : Int) = 46 ∧ x.parts < 3
      · rw [if_pos hs', List.append_assoc, c46.1 hs'.1]
        have hr' := hr.dot (by omega) (by omega)
        rw [show (256 * x.four + x.ten) % 4294967296 = 256 * x.four + x.ten by omega, show x.parts.toNat + 1 = (x.parts + 1).toNat by omega] at hr'
        exact TI.stop (x := { x with four := 256 * x.four + x.ten, parts := x.parts + 1, st := 5 }) rfl ⟨hb.pf, hb.pb, hb.n, hb.L, hb.neg, hb.pos⟩ (by simp) (by
          intro q
          rcases List.mem_append.1 q with q1 | q1
          · exact hno q1
          · simp at q1) hr' (by show 0 ≤ 256 * x.four + x.ten; omega) (by show x.parts + 1 = 1 ∧ 256 * x.four + x.ten ≤ 255 ∨ x.parts + 1 = 2 ∧ 256 * x.four + x.ten ≤ 65535 ∨ x.parts + 1 = 3 ∧ 256 * x.four + x.ten ≤ 16777215; omega)
      · rw [if_neg hs'] at hg
        exact absurd rfl hg
/-- The scan with the last two pieces of an IPv4 address. -/
def Sc.two (x : Sc) : Sc := { x with L := fun j => if (j : Int) = x.N then (256 * x.four + x.ten) / 65536 % 65536 else if (j : Int) = x.N + 1 then (256 * x.four + x.ten) % 65536 else x.L j, N := x.N + 2 }
def Sc.fin (x : Sc) : Option (Nat → Int) :=
  if x.skip < 0 then (if x.N = 8 then some x.L else none)
  else if x.N ≤ 7 then some (fun j => if (j : Int) < x.skip then x.L j else if 8 - x.N + x.skip ≤ j then x.L (j + x.N.toNat - 8) else 0) else none
/-- The address at the end. -/
def Sc.whole (x : Sc) : Option (Nat → Int) :=
  if x.st = 3 then x.fin else if x.st = 4 then x.closed.fin else if x.st = 6 then (if x.parts = 3 then x.two.fin else none) else none
/-- The address out of the pieces ahead of '::' and behind it. -/
def outOf (F B : List Int) (j : Nat) : Int := if 8 - B.length ≤ j then B.getD (j - (8 - B.length)) 0 else F.getD j 0
theorem fin_out {x : Sc} {F B : List Int} (hn : x.N = ((F ++ B).length : Nat)) (hL : ∀ (j : Nat) (p : Int), (F ++ B)[j]? = some p → x.L j = p) (hneg : x.skip < 0 → B = [] ∧ x.N = 8) (hpos : 0 ≤ x.skip → x.skip = (F.length : Nat) ∧ x.N ≤ 7) :
    F.length + B.length ≤ 8 ∧ ∃ A, x.fin = some A ∧ ∀ j, j < 8 → A j = outOf F B j := by
  unfold Sc.fin
  rw [List.length_append] at hn
  by_cases hk : x.skip < 0
  · obtain ⟨rfl, h8⟩ := hneg hk
    rw [if_pos hk, if_pos h8]
    refine ⟨by omega, _, rfl, fun j hj => ?_⟩
    unfold outOf
    rw [if_neg (by simp; omega)]
    have hjF : j < F.length := by simp at hn; omega
    rw [hL j F[j] (by rw [List.append_nil]; exact List.getElem?_eq_getElem hjF)]
    simp [List.getD_eq_getElem?_getD, hjF]
  · obtain ⟨h1, h2⟩ := hpos (by omega)
    rw [if_neg hk, if_pos h2]
    refine ⟨by omega, _, rfl, fun j hj => ?_⟩
    unfold outOf
    show (if (j : Int) < x.skip then x.L j else if 8 - x.N + x.skip ≤ j then x.L (j + x.N.toNat - 8) else 0) = _
    by_cases hj1 : (j : Int) < x.skip
    · have hjF : j < F.length := by omega
      rw [if_pos hj1, if_neg (by omega), hL j F[j] (by rw [List.getElem?_append_left hjF]; exact List.getElem?_eq_getElem hjF)]
      simp [List.getD_eq_getElem?_getD, hjF]
    · rw [if_neg hj1]
      by_cases hj2 : 8 - x.N + x.skip ≤ j
      · rw [if_pos hj2, if_pos (by omega)]
        have hjB : j - (8 - B.length) < B.length := by omega
        have e : j + x.N.toNat - 8 = F.length + (j - (8 - B.length)) := by omega
        rw [e, hL _ B[j - (8 - B.length)] (by rw [List.getElem?_append_right (by omega), show F.length + (j - (8 - B.length)) - F.length = j - (8 - B.length) by omega]; exact List.getElem?_eq_getElem hjB)]
        simp [List.getD_eq_getElem?_getD, hjB]
      · rw [if_neg hj2, if_neg (by omega)]
        simp [List.getD_eq_getElem?_getD, List.getElem?_eq_none (show F.length ≤ j by omega)]
theorem Base.L' {x : Sc} {fs bs : List (List UInt8)} (hb : Base x fs bs) (j : Nat) (p : Int) (h : (fs.map pcV ++ bs.map pcV)[j]? = some p) : x.L j = p := by
  rw [← List.map_append, List.getElem?_map] at h
  cases e : (fs ++ bs)[j]? with
  | none => rw [e] at h; cases h
  | some q =>
    rw [e] at h
    rw [hb.L j q e]
    exact Option.some.inj h
/-- What the cut gives. -/
theorem cut_neg {fs : List (List UInt8)} {cur : List UInt8} (hf : ∀ p ∈ fs, Pc p) (hc : Pt cur) : cut2 (endC fs ++ cur) = (endC fs ++ cur, [], false) ∧ writtenV (endC fs ++ cur) = fs.map pcV ++ grpV cur := by
  have hp : ∀ p ∈ fs ++ [cur], Pt p := by
    intro p h
    rcases List.mem_append.1 h with h | h
    · exact (hf p h).pt
    · simp at h; rw [h]; exact hc
  rw [← joinC_last, cut2_join _ hp (by simp), writtenV_join hp, List.flatMap_append, flatMap_pc hf]
  simp
theorem cut_pos {fs : List (List UInt8)} (hf : ∀ p ∈ fs, Pc p) (l : List UInt8) : cut2 (headC fs ++ 58 :: l) = (joinC fs, l, true) ∧ writtenV (joinC fs) = fs.map pcV := by
  have hp : ∀ p ∈ fs, Pt p := fun p h => (hf p h).pt
  refine ⟨?_, by rw [writtenV_join hp, flatMap_pc hf]⟩
  have e : headC fs ++ 58 :: l = joinC fs ++ 58 :: 58 :: l := by
    unfold headC
    by_cases h : fs = []
    · rw [if_pos h, h]; rfl
    · rw [if_neg h, endC_join h]; simp
  rw [e, cut2_gap fs l hp]
theorem written_back {bs : List (List UInt8)} {cur : List UInt8} (hf : ∀ p ∈ bs, Pc p) (hc : Pt cur) : writtenV (endC bs ++ cur) = bs.map pcV ++ grpV cur := (cut_neg hf hc).2
/-- The end of a text: no state may end there, and there is no address; or one may, and both have the same address. -/
theorem whole_out {x : Sc} {l : List St} {t : List UInt8} (hs : Sim x l) (h : TI x t) :
    (l.any endsP = false ∧ x.whole = none) ∨ (l.any endsP = true ∧ (writtenV (cut2 t).1).length + (writtenV (cut2 t).2.1).length ≤ 8 ∧ ∃ A, x.whole = some A ∧ ∀ j, j < 8 → A j = outOf (writtenV (cut2 t).1) (writtenV (cut2 t).2.1) j) := by
  have hd0 : Inv x := by cases hs <;> assumption
  cases h with
  | start h hb hk =>
    left
    refine ⟨?_, by unfold Sc.whole; rw [if_neg (by omega), if_neg (by omega), if_neg (by omega)]⟩
    cases hs <;> first | omega | skip
    rename_i s _ hi hc hw _ _ _ _ _
    simp only [List.any_cons, List.any_nil, Bool.or_false]
    unfold endsP
    rw [if_neg (by omega), if_neg (by omega), if_neg (by omega)]
  | colon h hb hk =>
    left
    refine ⟨?_, by unfold Sc.whole; rw [if_neg (by omega), if_neg (by omega), if_neg (by omega)]⟩
    cases hs <;> first | omega | skip
    rename_i s _ hi hc hw _ _ _ _ _
    simp only [List.any_cons, List.any_nil, Bool.or_false]
    unfold endsP
    rw [if_neg (by omega), if_neg (by omega), if_neg (by omega)]
  | @single fs bs h hb hf h3 =>
    cases hs <;> first | omega | skip
    rename_i s _ hi hc hw hn hp h1 hk3 h2
    simp only [List.any_cons, List.any_nil, Bool.or_false]
    by_cases hst : x.st = 3
    · right
      have hbs := h3 hst
      subst hbs
      have hk := hk3 hst
      refine ⟨by unfold endsP; rw [if_pos (by omega)], ?_⟩
      unfold Sc.whole
      rw [if_pos hst]
      unfold preT
      rw [if_pos hk]
      obtain ⟨e1, e2⟩ := cut_pos hb.pf (endC [])
      rw [e1]
      show (writtenV (joinC fs)).length + (writtenV (endC [])).length ≤ 8 ∧ ∃ A, x.fin = some A ∧ ∀ j, j < 8 → A j = outOf (writtenV (joinC fs)) (writtenV (endC [])) j
      rw [e2, show writtenV (endC []) = [] from rfl]
      refine fin_out ?_ ?_ (fun q => absurd hk (Int.not_le.2 q)) (fun q => ⟨?_, hi.n7⟩)
      · rw [hb.n]; simp
      · intro j p hp'
        exact hb.L' j p (by simpa using hp')
      · rw [hb.pos hk]; simp
    · left
      refine ⟨?_, by unfold Sc.whole; rw [if_neg hst, if_neg (by omega), if_neg (by omega)]⟩
      unfold endsP
      rw [if_neg (by omega), if_neg (by omega), if_neg (by omega)]
  | @piece fs bs cur h hb hc hd hv ht =>
    have hW : x.whole = x.closed.fin := by unfold Sc.whole; rw [if_neg (by omega), if_pos h]
    have hE : l.any endsP = (decide (0 ≤ x.skip) || decide (x.N = 7)) ∧ 1 ≤ x.room := by
      cases hs <;> first | omega | skip
      · rename_i s _ hi hr hp d1 d4 ht hc hw hd hn hno
        refine ⟨?_, hr⟩
        simp only [List.any_cons, List.any_nil, Bool.or_false]
        unfold endsP
        rw [if_neg (by omega), if_pos hw, hc.gap, hc.pc]
      · rename_i s t _ hi hr hp d1 d4 ht hc hw hd hn t0 hf kc kw kn kv
        refine ⟨?_, hr⟩
        simp only [List.any_cons, List.any_nil, Bool.or_false]
        have e2 : endsP t = false := by
          unfold endsP
          rw [if_neg (by omega), if_neg (by omega), if_pos kw, kn]
          decide
        rw [e2, Bool.or_false]
        unfold endsP
        rw [if_neg (by omega), if_pos hw, hc.gap, hc.pc]
    obtain ⟨hE, hroom⟩ := hE
    have hB := closed_base hb hc hv
    rw [hE, hW]
    unfold Sc.room at hroom
    by_cases hk : 0 ≤ x.skip
    · right
      rw [if_pos hk] at hroom
      refine ⟨by simp [hk], ?_⟩
      unfold preT
      rw [if_pos hk, List.append_assoc, List.cons_append]
      obtain ⟨e1, e2⟩ := cut_pos hb.pf (endC bs ++ cur)
      rw [e1]
      show (writtenV (joinC fs)).length + (writtenV (endC bs ++ cur)).length ≤ 8 ∧ ∃ A, x.closed.fin = some A ∧ ∀ j, j < 8 → A j = outOf (writtenV (joinC fs)) (writtenV (endC bs ++ cur)) j
      rw [e2, written_back hb.pb hc.pt, grpV_pc hc]
      rw [if_neg (by omega), if_neg (by omega)] at hB
      refine fin_out ?_ ?_ (fun q => absurd hk (Int.not_le.2 q)) (fun q => ⟨?_, by show x.N + 1 ≤ 7; omega⟩)
      · rw [hB.n]; simp
      · intro j p hp'
        exact hB.L' j p (by simpa using hp')
      · rw [hB.pos hk]; simp
    · rw [if_neg hk] at hroom
      have hbs := hb.neg (by omega)
      subst hbs
      by_cases h7 : x.N = 7
      · right
        refine ⟨by simp [h7], ?_⟩
        unfold preT
        rw [if_neg hk]
        obtain ⟨e1, e2⟩ := cut_neg hb.pf hc.pt
        rw [e1]
        show (writtenV (endC fs ++ cur)).length + (writtenV []).length ≤ 8 ∧ ∃ A, x.closed.fin = some A ∧ ∀ j, j < 8 → A j = outOf (writtenV (endC fs ++ cur)) (writtenV []) j
        rw [e2, grpV_pc hc, show writtenV [] = [] from rfl]
        rw [if_pos (by omega), if_pos (by omega)] at hB
        refine fin_out ?_ ?_ (fun q => ⟨rfl, by show x.N + 1 = 8; omega⟩) (fun q => absurd q hk)
        · rw [hB.n]; simp
        · intro j p hp'
          exact hB.L' j p (by simpa using hp')
      · left
        refine ⟨by simp [h7]; omega, ?_⟩
        unfold Sc.fin
        rw [if_pos (show x.closed.skip < 0 from Int.not_le.1 hk), if_neg (by show ¬ x.N + 1 = 8; omega)]
  | @stop fs bs cur h hb hn hno hr f0 f1 =>
    left
    refine ⟨?_, by unfold Sc.whole; rw [if_neg (by omega), if_neg (by omega), if_neg (by omega)]⟩
    cases hs <;> first | omega | skip
    rename_i s _ hi hf p1 p3 hc hw hn'
    simp only [List.any_cons, List.any_nil, Bool.or_false]
    unfold endsP
    rw [if_neg (by omega), if_neg (by omega), if_neg (by omega)]
  | @part fs bs cur h hb hn hno hr f0 f1 =>
    cases hs <;> first | omega | skip
    rename_i s _ hi hf p1 p3 d1 ht_ t0 t1 hc hw hn' hv
    simp only [List.any_cons, List.any_nil, Bool.or_false]
    have hEs : endsP s = decide (x.parts = 3) := by
      unfold endsP
      rw [if_neg (by omega), if_neg (by omega), if_pos hw, hn']
    rw [hEs]
    by_cases h3 : x.parts = 3
    · right
      refine ⟨by simp [h3], ?_⟩
      have hW : x.whole = x.two.fin := by unfold Sc.whole; rw [if_neg (by omega), if_neg (by omega), if_pos h, if_pos h3]
      rw [hW]
      rw [h3] at hr
      have hV := DotRun.whole hr (by omega)
      rw [show (256 * x.four + x.ten) % 4294967296 = 256 * x.four + x.ten by omega] at hV
      have hG : grpV cur = [(256 * x.four + x.ten) / 65536 % 65536, (256 * x.four + x.ten) % 65536] := by
        unfold grpV
        rw [hV, if_pos rfl]
      have hpt : Pt cur := ⟨hn, hno⟩
      have hfits := of_decide_eq_true hf
      have hnB := hb.n
      have hL2 : ∀ (j : Nat) (p : Int), (fs.map pcV ++ bs.map pcV ++ [(256 * x.four + x.ten) / 65536 % 65536, (256 * x.four + x.ten) % 65536])[j]? = some p → x.two.L j = p := by
        intro j p hp'
        show (if (j : Int) = x.N then (256 * x.four + x.ten) / 65536 % 65536 else if (j : Int) = x.N + 1 then (256 * x.four + x.ten) % 65536 else x.L j) = p
        have hlen : (fs.map pcV ++ bs.map pcV).length = (fs ++ bs).length := by simp
        by_cases hj : j < (fs ++ bs).length
        · rw [if_neg (by omega), if_neg (by omega)]
          rw [List.getElem?_append_left (by omega)] at hp'
          exact hb.L' j p hp'
        · rw [List.getElem?_append_right (by omega), hlen] at hp'
          obtain ⟨d, hd⟩ : ∃ d, j = (fs ++ bs).length + d := ⟨j - (fs ++ bs).length, by omega⟩
          rw [hd, Nat.add_sub_cancel_left] at hp'
          match d, hd, hp' with
          | 0, hd, hp' =>
            rw [if_pos (by omega)]
            exact Option.some.inj hp'
          | 1, hd, hp' =>
            rw [if_neg (by omega), if_pos (by omega)]
            exact Option.some.inj hp'
          | d + 2, hd, hp' => simp at hp'
      by_cases hk : 0 ≤ x.skip
      · unfold preT
        rw [if_pos hk, List.append_assoc, List.cons_append]
        obtain ⟨e1, e2⟩ := cut_pos hb.pf (endC bs ++ cur)
        rw [e1]
        show (writtenV (joinC fs)).length + (writtenV (endC bs ++ cur)).length ≤ 8 ∧ ∃ A, x.two.fin = some A ∧ ∀ j, j < 8 → A j = outOf (writtenV (joinC fs)) (writtenV (endC bs ++ cur)) j
        rw [e2, written_back hb.pb hpt, hG]
        refine fin_out ?_ ?_ (fun q => absurd hk (Int.not_le.2 q)) (fun q => ⟨?_, by show x.N + 2 ≤ 7; omega⟩)
        · show x.N + 2 = _
          rw [hnB]; simp; omega
        · intro j p hp'
          exact hL2 j p (by rw [List.append_assoc]; exact hp')
        · show x.skip = _
          rw [hb.pos hk]; simp
      · have hbs := hb.neg (by omega)
        subst hbs
        unfold preT
        rw [if_neg hk]
        obtain ⟨e1, e2⟩ := cut_neg hb.pf hpt
        rw [e1]
        show (writtenV (endC fs ++ cur)).length + (writtenV []).length ≤ 8 ∧ ∃ A, x.two.fin = some A ∧ ∀ j, j < 8 → A j = outOf (writtenV (endC fs ++ cur)) (writtenV []) j
        rw [e2, hG, show writtenV [] = [] from rfl]
        refine fin_out ?_ ?_ (fun q => ⟨rfl, by show x.N + 2 = 8; omega⟩) (fun q => absurd q hk)
        · show x.N + 2 = _
          rw [hnB]; simp
        · intro j p hp'
          exact hL2 j p (by simpa using hp')
    · left
      refine ⟨by simp [h3], ?_⟩
      unfold Sc.whole
      rw [if_neg (by omega), if_neg (by omega), if_pos h, if_neg h3]
/-- The scan of a text: the place where it is refused, or what is read. -/
def scanV : List UInt8 → Sc → Nat → Nat ⊕ Sc
  | [], x, _ => .inr x
  | c :: l, x, i => if (x.step (c.toNat : Int)).st = 7 then .inl i else scanV l (x.step (c.toNat : Int)) (i + 1)
/-- The program's states over a text. -/
def statesV : List UInt8 → List St → Nat → Nat ⊕ List St
  | [], l, _ => .inr l
  | c :: t, l, i => if l.flatMap (nextP · (c.toNat : Int)) = [] then .inl i else statesV t (l.flatMap (nextP · (c.toNat : Int))) (i + 1)
theorem Sim.ne {x : Sc} {l : List St} (h : Sim x l) : l ≠ [] := by cases h <;> simp
theorem scan_states : ∀ (r : List UInt8) (x : Sc) (l : List St) (t : List UInt8) (i : Nat), Sim x l → TI x t →
    (∃ j, scanV r x i = .inl j ∧ statesV r l i = .inl j) ∨ ∃ y m, scanV r x i = .inr y ∧ statesV r l i = .inr m ∧ Sim y m ∧ TI y (t ++ r)
  | [], x, l, t, i, hs, ht => .inr ⟨x, l, rfl, rfl, hs, by rw [List.append_nil]; exact ht⟩
  | c :: r, x, l, t, i, hs, ht => by
    rcases step_sim hs (c.toNat : Int) with ⟨a, b⟩ | ⟨a, b⟩
    · left
      exact ⟨i, by rw [scanV, if_pos a], by rw [statesV, if_pos b]⟩
    · rw [scanV, if_neg a, statesV, if_neg b.ne]
      have := scan_states r _ _ (t ++ [c]) (i + 1) b (step_ti hs ht c a)
      rw [List.append_assoc] at this
      exact this
def sc0 : Sc := ⟨fun _ => 0, 0, -1, 0, 0, 0, 0, 0, 0⟩
def st0 : St := ⟨0, 0, false, 0, 0, 0⟩
theorem sim0 : Sim sc0 [st0] := Sim.ahead (.inl rfl) ⟨by decide, by decide, by decide, by decide⟩ ⟨rfl, rfl⟩ rfl rfl rfl (fun _ => ⟨rfl, rfl⟩) (fun h => absurd h (by decide)) (fun h => absurd h (by decide))
theorem ti0 : TI sc0 [] := TI.start rfl ⟨fun _ h => absurd h (List.not_mem_nil), fun _ h => absurd h (List.not_mem_nil), rfl, fun j p h => by simp at h, fun _ => rfl, fun h => absurd h (by decide)⟩ (by decide)
/-- The address of a text, its place, its fault: the document's. -/
def parseR (s : List UInt8) : (Nat → Int) × Int × Int :=
  match scanV s sc0 0 with
  | .inl i => (fun _ => 0, i, 210)
  | .inr x => match x.whole with
    | none => (fun _ => 0, s.length, 210)
    | some A => (A, 0, 0)
/-- The program's. -/
def parseP (s : List UInt8) : (Nat → Int) × Int × Int :=
  match statesV s [st0] 0 with
  | .inl i => (fun _ => 0, i, 210)
  | .inr l => if l.any endsP = true then (outOf (writtenV (cut2 s).1) (writtenV (cut2 s).2.1), 0, 0) else (fun _ => 0, s.length, 210)
theorem parse_same (s : List UInt8) : (∀ j, j < 8 → (parseP s).1 j = (parseR s).1 j) ∧ (parseP s).2 = (parseR s).2 := by
  unfold parseP parseR
  rcases scan_states s sc0 [st0] [] 0 sim0 ti0 with ⟨j, h1, h2⟩ | ⟨y, m, h1, h2, h3, h4⟩
  · rw [h1, h2]; exact ⟨fun _ _ => rfl, rfl⟩
  · rw [h1, h2]
    rcases whole_out h3 h4 with ⟨a, b⟩ | ⟨a, _, A, b, c⟩
    · simp only [a, b]; exact ⟨fun _ _ => rfl, rfl⟩
    · simp only [a, b, if_true]
      exact ⟨fun j hj => (c j hj).symm, trivial⟩
/-- What the program writes of a text that is one fits. -/
theorem parse_fits (s : List UInt8) (l : List St) (h : statesV s [st0] 0 = .inr l) (he : l.any endsP = true) : (writtenV (cut2 s).1).length + (writtenV (cut2 s).2.1).length ≤ 8 := by
  rcases scan_states s sc0 [st0] [] 0 sim0 ti0 with ⟨j, h1, h2⟩ | ⟨y, m, h1, h2, h3, h4⟩
  · rw [h] at h2; cases h2
  · rw [h] at h2
    obtain rfl := Sum.inr.inj h2
    rcases whole_out h3 h4 with ⟨a, b⟩ | ⟨a, b, _⟩
    · rw [he] at a; cases a
    · exact b
end Go.Proofs.YtcgdjnmfeibnoaaGreatDoor
/-! Ext -/
namespace Go.Proofs.YtcgdjnmfeibnoaaGreatDoor
open Go.RowKit
set_option linter.unusedVariables false
set_option linter.unusedSimpArgs false
theorem bdn {B : Nat} {w W : World} (h : Below B w W) (n : Nat) : Below B w (W.drewN n) := ⟨h.os, h.tape, h.output, h.size, h.block⟩
/-- What stands behind a call that let all stand that was there. -/
theorem after {W w1 : World} (hb : Below W.heap.size W w1) : (∀ b o, b < W.heap.size → w1.cell? ⟨b, o, none⟩ = W.cell? ⟨b, o, none⟩) ∧ (∀ b o, b < W.heap.size → w1.frozen? ⟨b, o, none⟩ = W.frozen? ⟨b, o, none⟩) ∧ W.heap.size ≤ w1.heap.size :=
  ⟨fun b o h => hb.cell (p := ⟨b, o, none⟩) h, fun b o h => hb.frozen (p := ⟨b, o, none⟩) h, hb.size⟩
/-- A world in which all that was in w0 is as it was. -/
structure Ext (w0 : World) where
  wd : World
  below : Below w0.heap.size w0 wd
instance (w0 : World) : Nonempty (Ext w0) := ⟨⟨w0, Below.refl _ _⟩⟩
@[go_sem] theorem Ext.cell {w0 : World} (x : Ext w0) {b o : Nat} (h : b < w0.heap.size) : x.wd.cell? ⟨b, o, none⟩ = w0.cell? ⟨b, o, none⟩ := x.below.cell (p := ⟨b, o, none⟩) h
theorem wp_region_ext {P : Program} {id : Nat} {Q : Exit → Act → World → Prop} {a : Act} {w : World} {l : List Oper} (hm : P.follows .mixedOrders = true) (hB : Region.lexB .any l.toArray = true)
    (h : wpQuiet P l.toArray (fun w' => ∃ x : Ext w, w' = x.wd) (fun a' => ∀ w', (∃ x : Ext w, w' = x.wd) → Q .normal a' w') l a) : (Code.region id l.toArray true).wp P Q a w :=
  wp_region_quiet (C := fun w' => ∃ x : Ext w, w' = x.wd) hm hB ⟨⟨_, (Below.refl _ w).drew⟩, rfl⟩ (by simpa using h)
/-- A callee's contract, met in a world that goes on from w. -/
theorem ext_of {P : Program} {f : FuncId} {args : Array Value} {w : World} {x : Ext w} {v : Value} (h : Calls P f args x.wd fun e w' => e = .returned v ∧ Below x.wd.heap.size x.wd w') :
    Calls P f args x.wd fun e w'' => e = .returned v ∧ ∃ y : Ext w, w'' = y.wd :=
  h.mono fun _ w' ⟨he, hb⟩ => ⟨he, ⟨w', x.below.trans (hb.mono x.below.size)⟩, rfl⟩
theorem ext_of_same {P : Program} {f : FuncId} {args : Array Value} {w : World} {x : Ext w} {v : Value} (h : Calls P f args x.wd fun e w' => e = .returned v ∧ x.wd = w') :
    Calls P f args x.wd fun e w'' => e = .returned v ∧ ∃ y : Ext w, w'' = y.wd :=
  h.mono fun _ w' ⟨he, hb⟩ => ⟨he, x, hb.symm⟩
end Go.Proofs.YtcgdjnmfeibnoaaGreatDoor
/-! SixV -/
namespace Go.Proofs.YtcgdjnmfeibnoaaGreatDoor
open Go.RowKit
set_option linter.unusedVariables false
set_option linter.unusedSimpArgs false
abbrev A8 (x0 x1 x2 x3 x4 x5 x6 x7 : Int) : Value := .agg #[.int .u16 x0, .int .u16 x1, .int .u16 x2, .int .u16 x3, .int .u16 x4, .int .u16 x5, .int .u16 x6, .int .u16 x7]
/-- The number that eight pieces are. -/
def V8 (x0 x1 x2 x3 x4 x5 x6 x7 : Int) : Int := ((((((x0 * 65536 + x1) * 65536 + x2) * 65536 + x3) * 65536 + x4) * 65536 + x5) * 65536 + x6) * 65536 + x7
/-- Each piece is of 16 bits. -/
structure R8 (x0 x1 x2 x3 x4 x5 x6 x7 : Int) : Prop where
  h0 : 0 ≤ x0 ∧ x0 ≤ 65535
  h1 : 0 ≤ x1 ∧ x1 ≤ 65535
  h2 : 0 ≤ x2 ∧ x2 ≤ 65535
  h3 : 0 ≤ x3 ∧ x3 ≤ 65535
  h4 : 0 ≤ x4 ∧ x4 ≤ 65535
  h5 : 0 ≤ x5 ∧ x5 ≤ 65535
  h6 : 0 ≤ x6 ∧ x6 ≤ 65535
  h7 : 0 ≤ x7 ∧ x7 ≤ 65535
theorem ret_bool {a b : Bool} (h : a = b) : Ending.returned (.bool a) = .returned (.bool b) := by rw [h]
/-- What goes on from a world goes on from the one ahead of it. -/
theorem chain {w W W' : World} (h : Below w.heap.size w W) (k : Below W.heap.size W W') : Below w.heap.size w W' := h.trans (k.mono h.size)
theorem run_part8 {P : Program} {E : TypeId} (hE : P.underlying E = some (.int .u16)) (cs : Array Value) (k : Nat) (v : Value) (h : cs[k]? = some v) (w : World) : (part E cs k).run P w = .ok v w := by
  simp [part, isAgg, run_underlying hE, h]
/-- Two arrays of eight pieces: '=='. -/
theorem run_eq8 {P : Program} {T E : TypeId} {i : TypeInfo} (hT : P.underlying T = some (.array 8 E)) (hi : P.info? E = some i) (hE : P.underlying E = some (.int .u16)) (hc : P.cellsOf E = 1)
    (x0 x1 x2 x3 x4 x5 x6 x7 y0 y1 y2 y3 y4 y5 y6 y7 : Int) (w : World) :
    (Op.equalIn 10000 T (A8 x0 x1 x2 x3 x4 x5 x6 x7) (A8 y0 y1 y2 y3 y4 y5 y6 y7)).run P w = .ok (x0 == y0 && (x1 == y1 && (x2 == y2 && (x3 == y3 && (x4 == y4 && (x5 == y5 && (x6 == y6 && x7 == y7))))))) w := by
  rw [run_equalIn_array w 9999 _ _ hT hi, hc, show List.range 8 = [0, 1, 2, 3, 4, 5, 6, 7] from rfl]
  have he : ∀ a b : Int, (Op.equalIn 9999 E (.int .u16 a) (.int .u16 b)).run P w = .ok (a == b) w := fun a b => run_equalIn_int w 9998 E .u16 .u16 a b hE
  have st : ∀ (xs ys : Array Value) (k : Nat) (ks : List Nat) (a b : Int) (r : Bool), xs[k]? = some (.int .u16 a) → ys[k]? = some (.int .u16 b) → (Op.eqItems 9999 E 1 xs ys ks).run P w = .ok r w →
      (Op.eqItems 9999 E 1 xs ys (k :: ks)).run P w = .ok (a == b && r) w := by
    intro xs ys k ks a b r h1 h2 h3
    simp only [Op.eqItems, Sem.run_bind, Nat.mul_one]
    rw [run_part8 hE _ k _ h1, Result.andThen_ok, run_part8 hE _ k _ h2, Result.andThen_ok, he, Result.andThen_ok]
    cases a == b
    · simp
    · simpa using h3
  have h8 : (Op.eqItems 9999 E 1 #[.int .u16 x0, .int .u16 x1, .int .u16 x2, .int .u16 x3, .int .u16 x4, .int .u16 x5, .int .u16 x6, .int .u16 x7] #[.int .u16 y0, .int .u16 y1, .int .u16 y2, .int .u16 y3, .int .u16 y4, .int .u16 y5, .int .u16 y6, .int .u16 y7] []).run P w = .ok true w := rfl
  have h7 := st _ _ 7 [] x7 y7 _ rfl rfl h8
  have h6 := st _ _ 6 [7] x6 y6 _ rfl rfl h7
  have h5 := st _ _ 5 [6, 7] x5 y5 _ rfl rfl h6
  have h4 := st _ _ 4 [5, 6, 7] x4 y4 _ rfl rfl h5
  have h3 := st _ _ 3 [4, 5, 6, 7] x3 y3 _ rfl rfl h4
  have h2 := st _ _ 2 [3, 4, 5, 6, 7] x2 y2 _ rfl rfl h3
  have h1 := st _ _ 1 [2, 3, 4, 5, 6, 7] x1 y1 _ rfl rfl h2
  have h0 := st _ _ 0 [1, 2, 3, 4, 5, 6, 7] x0 y0 _ rfl rfl h1
  rw [Bool.and_true] at h0
  exact h0
/-- Two addresses of the same pieces are the same number. -/
theorem eq8_dec {x0 x1 x2 x3 x4 x5 x6 x7 y0 y1 y2 y3 y4 y5 y6 y7 : Int} (h : R8 x0 x1 x2 x3 x4 x5 x6 x7) (k : R8 y0 y1 y2 y3 y4 y5 y6 y7) :
    (x0 == y0 && (x1 == y1 && (x2 == y2 && (x3 == y3 && (x4 == y4 && (x5 == y5 && (x6 == y6 && x7 == y7))))))) = decide (V8 x0 x1 x2 x3 x4 x5 x6 x7 = V8 y0 y1 y2 y3 y4 y5 y6 y7) := by
  obtain ⟨⟨_, _⟩, ⟨_, _⟩, ⟨_, _⟩, ⟨_, _⟩, ⟨_, _⟩, ⟨_, _⟩, ⟨_, _⟩, ⟨_, _⟩⟩ := h
  obtain ⟨⟨_, _⟩, ⟨_, _⟩, ⟨_, _⟩, ⟨_, _⟩, ⟨_, _⟩, ⟨_, _⟩, ⟨_, _⟩, ⟨_, _⟩⟩ := k
  rw [Bool.eq_iff_iff]
  simp only [Bool.and_eq_true, beq_iff_eq, decide_eq_true_eq]
  unfold V8
  omega
@[go_sem] theorem eq8_six (x0 x1 x2 x3 x4 x5 x6 x7 y0 y1 y2 y3 y4 y5 y6 y7 : Int) (w : World) :
    (Op.equalIn 10000 24 (A8 x0 x1 x2 x3 x4 x5 x6 x7) (A8 y0 y1 y2 y3 y4 y5 y6 y7)).run Tryz.prog w = .ok (x0 == y0 && (x1 == y1 && (x2 == y2 && (x3 == y3 && (x4 == y4 && (x5 == y5 && (x6 == y6 && x7 == y7))))))) w := by
  obtain ⟨i, hi, _⟩ := info_parts (show (Tryz.prog.info? 22).map (fun i => (i.zero, i.size, i.bytes)) = some (some (.int .u16 0), 1, 2) by kernel_rfl)
  exact run_eq8 Tryz.underlying24 hi Tryz.underlying22 (by kernel_rfl) ..
@[go_sem] theorem eq8_ref (x0 x1 x2 x3 x4 x5 x6 x7 y0 y1 y2 y3 y4 y5 y6 y7 : Int) (w : World) :
    (Op.equalIn 10000 30 (A8 x0 x1 x2 x3 x4 x5 x6 x7) (A8 y0 y1 y2 y3 y4 y5 y6 y7)).run Tryz.prog w = .ok (x0 == y0 && (x1 == y1 && (x2 == y2 && (x3 == y3 && (x4 == y4 && (x5 == y5 && (x6 == y6 && x7 == y7))))))) w := by
  obtain ⟨i, hi, _⟩ := info_parts (show (Tryz.prog.info? 22).map (fun i => (i.zero, i.size, i.bytes)) = some (some (.int .u16 0), 1, 2) by kernel_rfl)
  exact run_eq8 Tryz.underlying30 hi Tryz.underlying22 (by kernel_rfl) ..
end Go.Proofs.YtcgdjnmfeibnoaaGreatDoor
