/- What octet.Print answers to the base 16: the digits of a number, the highest first. -/
import Derived.Test.YtcgdjnmfeibnoaaDoorBuilder
import Derived.Test.YtcgdjnmfeibnoaaDoorApp
import Derived.Lib.ConvBytes
import Derived.Deep.LoopGhost
import Derived.Laws.MakeOwn
import Derived.Lib.Hide
import Derived.Laws.OwnMore
namespace Go.Proofs.YtcgdjnmfeibnoaaDoor
open Go.RowKit
set_option linter.unusedVariables false
set_option linter.unusedSimpArgs false

/-- A digit's letter. -/
def digB (d : Nat) : UInt8 := if d < 10 then (48 + d).toUInt8 else (87 + d).toUInt8
/-- The digits of a number to the base 16, the lowest first. -/
def revHex (n : Nat) : List UInt8 := digB (n % 16) :: (if n / 16 = 0 then [] else revHex (n / 16))
  termination_by n
  decreasing_by omega

theorem revHex_last {n : Nat} (h : n / 16 = 0) : revHex n = [digB (n % 16)] := by rw [revHex, if_pos h]
theorem revHex_more {n : Nat} (h : n / 16 ≠ 0) : revHex n = digB (n % 16) :: revHex (n / 16) := by rw [revHex, if_neg h]

set_option maxRecDepth 100000 in
theorem digit_at (m : Nat) (w : World) : (Instr.index 9 (.string ⟨#[48, 49, 50, 51, 52, 53, 54, 55, 56, 57, 97, 98, 99, 100, 101, 102, 103, 104, 105, 106, 107, 108, 109, 110, 111, 112, 113, 114, 115, 116, 117, 118, 119, 120, 121, 122]⟩) (.int .u64 ((m : Int) % 16))).run Tryd.prog w = .ok (.int .u8 (digB (m % 16)).toNat) w := by
  have h : ∃ d : Nat, d < 16 ∧ m % 16 = d := ⟨m % 16, by omega, rfl⟩
  obtain ⟨d, hd, he⟩ := h
  rw [show ((m : Int) % 16) = (d : Int) from by omega, he]
  have hc : d = 0 ∨ d = 1 ∨ d = 2 ∨ d = 3 ∨ d = 4 ∨ d = 5 ∨ d = 6 ∨ d = 7 ∨ d = 8 ∨ d = 9 ∨ d = 10 ∨ d = 11 ∨ d = 12 ∨ d = 13 ∨ d = 14 ∨ d = 15 := by omega
  rcases hc with rfl | rfl | rfl | rfl | rfl | rfl | rfl | rfl | rfl | rfl | rfl | rfl | rfl | rfl | rfl | rfl
  all_goals (change _ = _; kernel_rfl)

/-- What stands when k of the digits have been laid, from the other end. -/
def RevRel (base g cap g2 L : Nat) (all : List UInt8) (w : World) (i : Value) (W : World) : Prop :=
  ∃ k : Nat, k ≤ L ∧ i = .int .i64 k ∧ W.ownsRow base 5 1 (.slice (some ⟨g, 0, none⟩) L cap) L (Lib.byteCells all) ∧
    W.ownsRow base 5 1 (.slice (some ⟨g2, 0, none⟩) L L) L (List.replicate (L - k) (.int .u8 0) ++ Lib.byteCells (all.take k).reverse) ∧ Below w.heap.size w W

theorem rev_step {base g cap g2 n k : Nat} {all : List UInt8} {x : UInt8} {w W : World} (hx : all[k]? = some x) (hlen : n + 1 = all.length) (hk : k < n + 1)
    (hA : W.ownsRow base 5 1 (.slice (some ⟨g, 0, none⟩) (n + 1) cap) (n + 1) (Lib.byteCells all))
    (hO : W.ownsRow base 5 1 (.slice (some ⟨g2, 0, none⟩) (n + 1) (n + 1)) (n + 1) (List.replicate (n + 1 - k) (.int .u8 0) ++ Lib.byteCells (all.take k).reverse)) (hb : Below w.heap.size w W) (hne : g ≠ g2) (hbase : w.heap.size ≤ base) :
    RevRel base g cap g2 (n + 1) all w (.int .i64 ((k : Int) + 1)) (W.setCell ⟨g2, n - k, none⟩ (.int .u8 x.toNat)) := by
  obtain ⟨h1, h2⟩ := hO.stored (n - k) (.int .u8 x.toNat)
  have hg2 : base ≤ g2 := (hO.lt g2 (by simp [Value.ownBlock])).1
  refine ⟨k + 1, by omega, by simp, hA.kept h2 (by simp [Value.ownBlock, hne]), ?_, hb.setCell (p := ⟨g2, n - k, none⟩) (by simpa using Nat.le_trans hbase hg2) _⟩
  have e : (List.replicate (n + 1 - k) (Value.int .u8 0) ++ Lib.byteCells (all.take k).reverse).set (n - k) (.int .u8 x.toNat) = List.replicate (n + 1 - (k + 1)) (.int .u8 0) ++ Lib.byteCells (all.take (k + 1)).reverse := by
    have e1 : n + 1 - k = (n - k) + 1 := by omega
    have e2 : all.take (k + 1) = all.take k ++ [x] := by rw [List.take_add_one, hx]; rfl
    rw [e1, List.replicate_succ', List.append_assoc, List.set_append_right _ _ (by simp), e2]
    simp [Lib.byteCells]
  rw [e] at h1
  exact h1

theorem rev_cell {base g2 n : Nat} {all : List UInt8} {W : World} (hlen : n + 1 = all.length)
    (hO : W.ownsRow base 5 1 (.slice (some ⟨g2, 0, none⟩) (n + 1) (n + 1)) (n + 1) (List.replicate (n + 1 - (n + 1)) (.int .u8 0) ++ Lib.byteCells (all.take (n + 1)).reverse)) (i : Nat) (hi : i < n + 1) :
    W.cell? ⟨g2, i, none⟩ = some (.int .u8 ((all.reverse.map fun b => (b.toNat : Int)).getD i 0)) := by
  rw [hO.cellAt i (by omega)]
  rw [hlen, List.take_length, Nat.sub_self, List.replicate_zero, List.nil_append]
  have hi' : i < all.reverse.length := by simp; omega
  rw [Lib.byteCells, List.getElem?_map, List.getElem?_eq_getElem hi', List.getD_eq_getElem?_getD, List.getElem?_map, List.getElem?_eq_getElem hi']
  rfl

theorem strOfNums_bytes (l : List UInt8) : strOfNums (l.map fun b => (b.toNat : Int)) = ⟨l.toArray⟩ := by
  unfold strOfNums
  rw [List.map_map]
  have : ((fun n : Int => UInt8.ofNat n.toNat) ∘ fun b : UInt8 => (b.toNat : Int)) = id := by
    funext b
    simp
  rw [this, List.map_id]

set_option maxHeartbeats 2000000 in
set_option maxRecDepth 100000 in
theorem print16_walk (N : Nat) (hN : N < 18446744073709551616) (w : World) :
    Calls Tryd.prog 104 #[.int .u64 N, .int .i64 16] w fun e w' => e = .returned (.tuple #[.string ⟨(revHex N).reverse.toArray⟩, .int .i64 0]) ∧ Below w.heap.size w w' := by
  obtain ⟨i0, hi, hz0, hz1, hz2⟩ := info_parts byte_info
  go_enter Tryd.func104, Tryd.ntmps104
  go_wp2
  go_loopw [0, 6] (fun n v wr => ∃ (m : Nat) (done : List UInt8), n = .int .u64 m ∧ m ≤ N ∧ revHex N = done ++ revHex m ∧ wr.ownsRow w.heap.size 5 1 v done.length (Lib.byteCells done) ∧ Below w.heap.size w wr ∧ 2 ^ done.length * m ≤ N ∧ (m = 0 → done = []))
    (fun n _ _ => (intOf n).toNat)
  case atStart => exact ⟨N, [], rfl, Nat.le_refl _, rfl, World.ownsRow_nil _ _ _ _, Below.refl _ _, by simp, fun _ => rfl⟩
  case round =>
    obtain ⟨m, done, rfl, hm, hd, hown, hb, hp, hz⟩ := hrel
    have hs := hb.size
    have hix := digit_at m
    have hl : done.length ≤ 64 := by
      rcases Nat.lt_or_ge 64 done.length with h | h
      · exfalso
        have h0 : m ≠ 0 := fun e => by rw [hz e] at h; simp at h
        have h1 := Nat.pow_le_pow_right (n := 2) (by omega) (show 65 ≤ done.length from h)
        have h2 := Nat.le_mul_of_pos_right (2 ^ done.length) (Nat.pos_of_ne_zero h0)
        have h3 : (2 : Nat) ^ 65 = 36893488147419103232 := by decide
        omega
      · exact h
    have hbl : (Lib.byteCells done).length = done.length := Lib.byteCells_length done
    clear hbl
    go_wp2_with (at_builtin; refine app_one rfl _ _ 124 rfl w.heap.size 5 i0 (.int .u8 0) 1 1 Tryd.underlying124 hi hz0 hz1 hz2 rfl (by decide) _ _ _ rfl hown [.int .u8 (digB (m % 16)).toNat] rfl rfl (by simp [Value.oneCell']) (by unfold maxLen; omega) (by omega) (by omega) ?_; intro g cap w2 hg hown' hgrow hbel)
    · clear hgrow hix
      have hb2 := hbel _ _ (Nat.le_refl _) hb
      have hs2 := hb2.size
      obtain ⟨w3, hmk, hown3, hgr3⟩ := run_make_full w2 w.heap.size 124 5 i0 (.int .u8 0) 1 Tryd.underlying124 hi hz0 hz1 .i64 .i64 (done.length + 1) (by rw [hz2]; omega) (by unfold maxLen; omega) hs2
      rw [show ((done.length + 1 : Nat) : Int) = (done.length : Int) + 1 from by omega] at hmk
      have hb3 : Below w.heap.size w w3 := hb2.grown hgr3 hs2 (fun k hk => by simp at hk)
      have hown3' := hown'.kept hgr3 (by simp [Value.ownBlock])
      have hall : revHex N = done ++ [digB (m % 16)] := by rw [hd, revHex_last (by simp at *; omega)]
      have hne : g ≠ w2.heap.size := by have := (hown'.lt g (by simp [Value.ownBlock])).2; omega
      obtain ⟨all, hal⟩ : ∃ all, all = done ++ [digB (m % 16)] := ⟨_, rfl⟩
      have hlen : done.length + 1 = all.length := by rw [hal]; simp
      have hback : w3.ownsRow w.heap.size 5 1 (.slice (some ⟨g, 0, none⟩) (done.length + 1) cap) (done.length + 1) (Lib.byteCells all) := by
        rw [hal]; simpa [Lib.byteCells] using hown3'
      have hout : w3.ownsRow w.heap.size 5 1 (.slice (some ⟨w2.heap.size, 0, none⟩) (done.length + 1) (done.length + 1)) (done.length + 1) (List.replicate (done.length + 1) (.int .u8 0)) := by
        have h := hown3
        rw [show (Value.int .u8 0).cells = #[.int .u8 0] from rfl, Nat.mul_one, toList_madeCells_one] at h
        exact h
      rw [← hal] at hall
      clear hown3 hown3' hown' hown hd hz hp hb hbel hb2 hgr3
      have HMK := Lib.hid hall
      have HAL := Lib.hid hal
      have HLEN := Lib.hid hlen
      clear hall hal hlen
      go_simp
      go_wp2_with fail
      go_loopw [35] (fun i W => RevRel w.heap.size g cap w2.heap.size (done.length + 1) all w i W) (fun i _ => done.length + 1 - (intOf i).toNat)
      case atStart => exact ⟨0, Nat.zero_le _, rfl, hback, by simpa [Lib.byteCells] using hout, hb3⟩
      case round =>
        clear hback hout hb3 hmk
        obtain ⟨k, hk, rfl, hA, hO, hb4⟩ := hrel
        by_cases hlt : k < done.length + 1
        · obtain ⟨x, hx⟩ : ∃ x, all[k]? = some x := ⟨all[k]'(by have := HLEN.out; omega), List.getElem?_eq_getElem _⟩
          have hc : wr.cell? ⟨g, k, none⟩ = some (.int .u8 x.toNat) := by
            rw [hA.cellAt k (by omega)]; simp [Lib.byteCells, hx]
          have ho : wr.cell? ⟨w2.heap.size, done.length - k, none⟩ = some (.int .u8 0) := by
            rw [hO.cellAt _ (by omega), List.getElem?_append_left (by simp; omega)]
            rw [List.getElem?_replicate, if_pos (by omega)]
          have hf := hO.frozenAt (done.length - k)
          have HX := Lib.hid hx
          clear hx
          go_wp2
          exact ⟨rev_step HX.out HLEN.out hlt hA hO hb4 hne (Nat.le_refl _), by simp [intOf]; omega⟩
        · obtain rfl : k = done.length + 1 := by omega
          have hcv := run_convert_bytes_arg (P := Tryd.prog) wr 124 5 Tryd.underlying124 Tryd.underlying5 w2.heap.size 0 (done.length + 1) (done.length + 1) (all.reverse.map fun b => (b.toNat : Int)) (by simp [HLEN.out])
            (fun i hi => by rw [Nat.zero_add]; exact rev_cell HLEN.out hO i hi) 9 Tryd.underlying9
          rw [strOfNums_bytes] at hcv
          clear hlt
          go_wp2
          go_returns
          exact ⟨by rw [HMK.out]; rfl, hb4⟩
    · have h16 : ¬ (m / 16 = 0) := by simp at *; omega
      have hmm := revHex_more h16
      refine ⟨⟨m / 16, done ++ [digB (m % 16)], rfl, by omega, by rw [hd, hmm]; simp, by simpa [Lib.byteCells] using hown', hbel _ _ (Nat.le_refl _) hb, ?_, fun h => absurd h h16⟩, by simp [intOf]; omega⟩
      rw [List.length_append, List.length_singleton, Nat.pow_succ, Nat.mul_assoc]
      exact Nat.le_trans (Nat.mul_le_mul_left _ (by omega)) hp
end Go.Proofs.YtcgdjnmfeibnoaaDoor
