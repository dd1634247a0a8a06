/- What text answers: pieces to the base 16, the run as two colons. -/
import Derived.Test.YtcgdjnmfeibnoaaDoorSixRun
namespace Go.Proofs.YtcgdjnmfeibnoaaDoor
open Go.RowKit
set_option linter.unusedVariables false
set_option linter.unusedSimpArgs false

theorem revHex_len (n : Nat) : (revHex n).length ≤ n + 1 := by
  induction n using Nat.strongRecOn with
  | ind n ih =>
    by_cases h : n / 16 = 0
    · rw [revHex_last h]; simp
    · rw [revHex_more h, List.length_cons]
      have := ih (n / 16) (by omega)
      omega
theorem hexL_len (n : Nat) : (hexL n).length ≤ n + 1 := by unfold hexL; rw [List.length_reverse]; exact revHex_len n

/-- What a piece writes. -/
def textAt (at_ n i : Int) (p : Nat) : List UInt8 :=
  if i = at_ then [58, 58] else if 0 ≤ at_ ∧ at_ < i ∧ i < at_ + n then [] else (if 0 < i ∧ i ≠ at_ + n then [58] else []) ++ hexL p
/-- What pieces write from one on. -/
def textGo (at_ n : Int) : Int → List Nat → List UInt8
  | _, [] => []
  | i, p :: r => textAt at_ n i p ++ textGo at_ n (i + 1) r
/-- The text of pieces. -/
def textL (xs : List Nat) : List UInt8 := textGo (runL xs).1 (runL xs).2 0 xs

theorem runGo_bounds : ∀ (xs : List Nat) (i at_ most from_ : Int), 0 ≤ i → -1 ≤ at_ → at_ ≤ i → 1 ≤ most → most ≤ i + 1 → 0 ≤ from_ → from_ ≤ i →
    -1 ≤ (runGo xs i at_ most from_).1 ∧ (runGo xs i at_ most from_).1 ≤ i + xs.length ∧ 1 ≤ (runGo xs i at_ most from_).2 ∧ (runGo xs i at_ most from_).2 ≤ i + xs.length + 1
  | [], i, at_, most, from_, h0, h1, h2, h3, h4, h5, h6 => by simp only [runGo, List.length_nil]; omega
  | p :: r, i, at_, most, from_, h0, h1, h2, h3, h4, h5, h6 => by
    rw [runGo, List.length_cons]
    split
    · split
      · have := runGo_bounds r (i + 1) from_ (i + 1 - from_) from_ (by omega) (by omega) (by omega) (by omega) (by omega) (by omega) (by omega)
        omega
      · have := runGo_bounds r (i + 1) at_ most from_ (by omega) (by omega) (by omega) (by omega) (by omega) (by omega) (by omega)
        omega
    · have := runGo_bounds r (i + 1) at_ most (i + 1) (by omega) (by omega) (by omega) (by omega) (by omega) (by omega) (by omega)
      omega
theorem runL_bounds (xs : List Nat) : -1 ≤ (runL xs).1 ∧ (runL xs).1 ≤ xs.length ∧ 0 ≤ (runL xs).2 ∧ (runL xs).2 ≤ xs.length + 1 := by
  have := runGo_bounds xs 0 (-1) 1 0 (by omega) (by omega) (by omega) (by omega) (by omega) (by omega) (by omega)
  unfold runL
  split
  · simp; omega
  · omega

theorem hexL_ne (n : Nat) : hexL n ≠ [] := by
  unfold hexL
  rw [revHex]
  simp
theorem textL_ne {xs : List Nat} (h : xs ≠ []) : textL xs ≠ [] := by
  cases xs with
  | nil => exact absurd rfl h
  | cons p r =>
    unfold textL
    rw [textGo, textAt]
    split
    · simp
    · split
      · rename_i h1; exact absurd h1 (by omega)
      · have := hexL_ne p
        simp [this]
/-- A builder stays where all stays that was there. -/
theorem isB_keep {B b : Nat} {bs : List Value} {w W : World} (h : IsB B b bs w) (hb : Below w.heap.size w W) : IsB B b bs W := by
  have key : ∀ p, Lib.BuilderAt 126 5 B b p bs w → Lib.BuilderAt 126 5 B b p bs W := by
    intro p hp
    have hlt := hp.lt
    obtain ⟨hB, v, hbk, hown, hne⟩ := hp
    exact ⟨hB, v, by rw [hb.block b hlt]; exact hbk, hown.kept (row := none) ⟨hb.os, hb.tape, hb.output, hb.size, fun i hi _ => hb.block i hi⟩ (by cases v.ownBlock <;> simp), hne⟩
  rcases h with h | h
  · exact .inl (key _ h)
  · exact .inr (key _ h)

/-- What stands at the head of a round of text. -/
def TextRel (xs : List Nat) (at_ n : Int) (w : World) (i : Value) (W : World) : Prop :=
  ∃ (k : Nat) (done : List UInt8), k ≤ xs.length ∧ i = .int .i64 k ∧ textL xs = done ++ textGo at_ n k (xs.drop k) ∧ IsB w.heap.size w.heap.size (Lib.byteCells done) W ∧ Below w.heap.size w W ∧ done.length ≤ k * 70000

theorem text_step {xs : List Nat} {at_ n : Int} {k : Nat} {w W : World} {done new : List UInt8} (hk : k < xs.length) (ht : textL xs = done ++ textGo at_ n k (xs.drop k)) (hn : textAt at_ n k xs[k] = new)
    (hB : IsB w.heap.size w.heap.size (Lib.byteCells (done ++ new)) W) (hb : Below w.heap.size w W) (hl : done.length ≤ k * 70000) (hnl : new.length ≤ 70000) :
    TextRel xs at_ n w (.int .i64 ((k : Int) + 1)) W := by
  refine ⟨k + 1, done ++ new, hk, rfl, ?_, hB, hb, by rw [List.length_append]; omega⟩
  rw [ht, List.drop_eq_getElem_cons hk, textGo, hn, List.append_assoc]
  rfl

set_option maxHeartbeats 2000000 in
set_option maxRecDepth 100000 in
theorem text_walk (xs : List Nat) (b c : Nat) (w : World) (hl : xs.length ≤ 8) (h0 : xs ≠ []) (hb : b < w.heap.size) (hp : ∀ x ∈ xs, x ≤ 65535) (hc : ∀ j, j < xs.length → w.cell? ⟨b, j, none⟩ = some (.int .u16 (xs.getD j 0))) :
    Calls Tryd.prog 49 #[.slice (some ⟨b, 0, none⟩) xs.length c] w fun e w' => e = .returned (.string ⟨(textL xs).toArray⟩) ∧ Below w.heap.size w w' := by
  obtain ⟨r1, r2, r3, r4⟩ := runL_bounds xs
  have HT : Hid (textL xs = textGo (runL xs).1 (runL xs).2 0 xs) := Lib.hid rfl
  have HC := Lib.hid hc
  go_enter Tryd.func49, Tryd.ntmps49
  go_wp2_with fail
  refine (run_walk xs b c _ hl hc).mono ?_
  rintro e w1 ⟨rfl, rfl⟩
  generalize (runL xs).1 = at_ at *
  generalize (runL xs).2 = n at *
  clear hc
  go_wp2_with fail
  go_loopw [14] (fun i W => TextRel xs at_ n w i W) (fun i _ => xs.length - (intOf i).toNat)
  case atStart => exact ⟨0, [], Nat.zero_le _, rfl, HT.out, Lib.fresh_isBuilder _ _ _, (Below.refl _ _).alloc (Nat.le_refl _) _, by simp⟩
  case round =>
    obtain ⟨k, done, hk, rfl, ht, hB, hbl, hdl⟩ := hrel
    by_cases hlt : k < xs.length
    · have hpk := hp _ (List.getElem_mem hlt)
      have hwl : w.heap.size ≤ wr.heap.size := hbl.size
      have hcw : wr.cell? ⟨b, k, none⟩ = some (.int .u16 xs[k]) := by
        rw [hbl.cell (p := ⟨b, k, none⟩) hb, HC.out k hlt, List.getD_eq_getElem?_getD, List.getElem?_eq_getElem hlt]; rfl
      have HTT := Lib.hid ht
      have hbc : (Lib.byteCells done).length ≤ 560000 := by rw [Lib.byteCells_length]; omega
      have hhl := hexL_len xs[k]
      generalize hx : xs[k] = x at *
      have HX := Lib.hid hx
      clear ht hx
      by_cases c1 : (k : Int) = at_
      · subst c1
        go_wp2_with fail
        refine (writeString_walk w.heap.size w.heap.size (Lib.byteCells done) ⟨#[58, 58]⟩ _ hB (by simp [ByteArray.size]; omega) hwl).mono ?_
        rintro e w1 ⟨rfl, hA, hb1⟩
        go_wp2_with fail
        refine ⟨text_step hlt HTT.out (new := [58, 58]) (by rw [textAt, if_pos rfl]) (.inr (by rw [Lib.byteCells_append]; exact hA)) (hbl.trans hb1) hdl (by simp), run_meas hlt⟩
      · have e1 : ((k : Int) == at_) = false := beq_eq_false_iff_ne.2 c1
        by_cases c2 : 0 ≤ at_ ∧ at_ < k ∧ (k : Int) < at_ + n
        · obtain ⟨d1, d2, d3⟩ := c2
          go_wp2_with fail
          refine ⟨text_step hlt HTT.out (new := []) (by rw [textAt, if_neg c1, if_pos ⟨d1, d2, d3⟩]) (by simpa using hB) hbl hdl (by simp), run_meas hlt⟩
        · have hN : textAt at_ n k xs[k] = (if 0 < (k : Int) ∧ (k : Int) ≠ at_ + n then [58] else []) ++ hexL x := by rw [textAt, if_neg c1, if_neg c2, HX.out]
          have HN := Lib.hid hN
          clear hN
          have hd : at_ < 0 ∨ (0 ≤ at_ ∧ (k : Int) < at_) ∨ (0 ≤ at_ ∧ at_ < k ∧ at_ + n ≤ k) := by omega
          by_cases c3 : 0 < (k : Int) ∧ (k : Int) ≠ at_ + n
          · obtain ⟨c4, c5⟩ := c3
            have e2 : ((k : Int) != at_ + n) = true := by rw [bne_iff_ne]; exact c5
            clear c2
            rcases hd with d | ⟨d0, d⟩ | ⟨d0, d2, d⟩
            all_goals
              go_wp2_with fail
              refine (writeByte_walk w.heap.size w.heap.size (Lib.byteCells done) 58 _ hB (by omega) hwl).mono ?_
              rintro e w1 ⟨rfl, hA, hb1⟩
              have hcw1 : w1.cell? ⟨b, k, none⟩ = some (.int .u16 x) := by rw [hb1.cell (p := ⟨b, k, none⟩) hb]; exact hcw
              go_wp2_with fail
              refine (hex_walk x hpk _).mono ?_
              rintro e w2 ⟨rfl, hb2⟩
              have hA2 := isB_keep (.inr hA) hb2
              have hs1 := hb1.size
              have hs2 := hb2.size
              go_wp2_with fail
              refine (writeString_walk w.heap.size w.heap.size _ _ _ hA2 (by simp [ByteArray.size]; omega) (by omega)).mono ?_
              rintro e w3 ⟨rfl, hA3, hb3⟩
              go_wp2_with fail
              refine ⟨text_step hlt HTT.out (new := [58] ++ hexL x) (by rw [HN.out, if_pos ⟨c4, c5⟩]) (.inr (by simpa [Lib.byteCells, Lib.strCells] using hA3)) (((hbl.trans hb1).trans (hb2.mono (by omega))).trans hb3) hdl (by simp; omega), run_meas hlt⟩
          · have hd2 : (k : Int) ≤ 0 ∨ (0 < (k : Int) ∧ (k : Int) = at_ + n) := by omega
            rcases hd2 with d4 | ⟨d4, d5⟩
            · rcases hd with d | ⟨d0, d⟩ | ⟨d0, d2, d⟩
              all_goals
                first
                  | (exfalso; omega)
                  | (go_wp2_with fail
                     refine (hex_walk x hpk _).mono ?_
                     rintro e w2 ⟨rfl, hb2⟩
                     have hA2 := isB_keep hB hb2
                     have hs2 := hb2.size
                     go_wp2_with fail
                     refine (writeString_walk w.heap.size w.heap.size _ _ _ hA2 (by simp [ByteArray.size]; omega) (by omega)).mono ?_
                     rintro e w3 ⟨rfl, hA3, hb3⟩
                     go_wp2_with fail
                     refine ⟨text_step hlt HTT.out (new := hexL x) (by rw [HN.out, if_neg c3]; rfl) (.inr (by simpa [Lib.byteCells, Lib.strCells] using hA3)) ((hbl.trans (hb2.mono (by omega))).trans hb3) hdl (by omega), run_meas hlt⟩)
            · have e2 : ((k : Int) != at_ + n) = false := by rw [bne_eq_false_iff_eq]; exact d5
              clear d5
              rcases hd with d | ⟨d0, d⟩ | ⟨d0, d2, d⟩
              all_goals
                first
                  | (exfalso; omega)
                  | (go_wp2_with fail
                     refine (hex_walk x hpk _).mono ?_
                     rintro e w2 ⟨rfl, hb2⟩
                     have hA2 := isB_keep hB hb2
                     have hs2 := hb2.size
                     go_wp2_with fail
                     refine (writeString_walk w.heap.size w.heap.size _ _ _ hA2 (by simp [ByteArray.size]; omega) (by omega)).mono ?_
                     rintro e w3 ⟨rfl, hA3, hb3⟩
                     go_wp2_with fail
                     refine ⟨text_step hlt HTT.out (new := hexL x) (by rw [HN.out, if_neg c3]; rfl) (.inr (by simpa [Lib.byteCells, Lib.strCells] using hA3)) ((hbl.trans (hb2.mono (by omega))).trans hb3) hdl (by omega), run_meas hlt⟩)
    · obtain rfl : k = xs.length := by omega
      rw [List.drop_length, textGo, List.append_nil] at ht
      have hne : done ≠ [] := by
        intro h
        rw [h] at ht
        exact textL_ne h0 ht
      have HTT := Lib.hid ht
      clear ht hlt
      go_wp2_with fail
      refine (builderString_walk w.heap.size w.heap.size done _ hB hne).mono ?_
      rintro e w1 ⟨rfl, hb1⟩
      go_wp2_with fail
      go_returns
      exact ⟨by rw [HTT.out]; rfl, hbl.trans hb1⟩
end Go.Proofs.YtcgdjnmfeibnoaaDoor
