/- Several texts in one (wip/gen/pack.py): SixRefHex SixRefWr Dec SixRefDec Itoa SixFourP SixDotV SixOneV SixRefPr SixRefMix SixRevV SixPrint SixFull SixRev SixRefRev SixMixed SixPrints Frame SixOpen SixPrintsAll SixPrintsCard. -/
import Derived.Test.YtcgdjnmfeibnoaaDoorPSixPr0
import Derived.Lib.ItoaNum
import Derived.Lib.Join
import Derived.Outline
import Derived.Lib.Replace
import Derived.Lib.SplitLaws
import Derived.Laws.DeepStrings4
import Derived.Deep.Quiet
import Derived.StillTail
import Derived.OpenShut
import Derived.ProofKit
import Derived.ChangeMaps5
import Derived.Deep.DeepHandedRow
import Derived.LaidSub
import Derived.Lib.LaidTab
import Derived.Test.YtcgdjnmfeibnoaaDoorCards
import Derived.Test.YtcgdjnmfeibnoaaDoorTie
/-! SixRefHex -/
namespace Go.Proofs.YtcgdjnmfeibnoaaDoor
open Go.RowKit Go.Proofs.YtcgdjnmfeibnoaaDoorW.PrintWords Go.Proofs.YtcgdjnmfeibnoaaDoor.X Go.IntWalk
set_option linter.unusedVariables false
set_option linter.unusedSimpArgs false
theorem hex_tab : ∀ d : Fin 16, (⟨#[48, 49, 50, 51, 52, 53, 54, 55, 56, 57, 97, 98, 99, 100, 101, 102]⟩ : ByteArray).extract d.val (d.val + 1) = BA [digB d.val] := by decide +kernel
theorem ba_join (a b : List UInt8) : BA a ++ BA b = BA (a ++ b) := by
  unfold BA
  apply ByteArray.ext
  simp
theorem u16w (x : Int) : IntKind.u16.wrap x = x % 65536 := rfl
/-- One digit more. -/
theorem hex_round (k n least i : Nat) (out : List UInt8) (h : i < least ∨ 0 < n) (hn : n ≤ 65535) (ho : out.length ≤ 10000) (hi : i ≤ 10000) (hl : least ≤ 10000) :
    posternref21_hex.l0 (k + 1) (n : Int) (least : Int) (BA out) (i : Int) = posternref21_hex.l0 k ((n / 16 : Nat) : Int) (least : Int) (BA (digB (n % 16) :: out)) ((i + 1 : Nat) : Int) := by
  have e1 : Int.tmod (n : Int) 16 = ((n % 16 : Nat) : Int) := by rw [Int.tmod_eq_emod_of_nonneg (by omega)]; omega
  have e2 : Int.tdiv (n : Int) 16 = ((n / 16 : Nat) : Int) := by rw [Int.tdiv_eq_ediv_of_nonneg (by omega)]; omega
  have e3 : ((n % 16 : Nat) : Int).toNat = n % 16 := by omega
  have e4 : (IntKind.u16.wrap (((n % 16 : Nat) : Int) + 1)) = ((n % 16 + 1 : Nat) : Int) := by rw [u16w]; omega
  have e5 : ((n % 16 + 1 : Nat) : Int).toNat = n % 16 + 1 := by omega
  have e6 : wrap64 ((i : Int) + 1) = ((i + 1 : Nat) : Int) := by rw [wrap64_in _ (by omega)]; omega
  have e7 : IntKind.u16.wrap ((n / 16 : Nat) : Int) = ((n / 16 : Nat) : Int) := by rw [u16w]; omega
  have e8 := hex_tab ⟨n % 16, by omega⟩
  simp only at e8
  have hd : n % 16 < 16 := Nat.mod_lt _ (by decide)
  simp only [posternref21_hex.l0]
  rw [e1, e2, e4, e7, e3, e5, e8, e6, ba_join, List.singleton_append, ba_size, ba_size]
  clear e1 e2 e3 e4 e5 e6 e7 e8
  have s1 : (List.length [digB (n % 16)] + out.length : Nat) ≤ 9223372036854775807 := by rw [List.length_singleton]; omega
  have s2 : (0 : Int) ≤ ((n % 16 : Nat) : Int) := Int.natCast_nonneg _
  have s3 : ((n % 16 : Nat) : Int) ≤ ((n % 16 + 1 : Nat) : Int) := Int.ofNat_le.2 (Nat.le_succ _)
  have s4 : ((n % 16 + 1 : Nat) : Int) ≤ 16 := Int.ofNat_le.2 hd
  by_cases c : (i : Int) < (least : Int)
  · rw [if_pos c, if_pos s2, if_pos s3, if_pos s4, if_pos s1]
  · rw [if_neg c, if_pos (show (n : Int) > 0 from by omega), if_pos s2, if_pos s3, if_pos s4, if_pos s1]
theorem hex_pad (least : Nat) (hl : least ≤ 10000) : ∀ (m i : Nat) (out : List UInt8), i + m = least → out.length + m ≤ 10000 → Ev (fun k => posternref21_hex.l0 k ((0 : Nat) : Int) (least : Int) (BA out) (i : Int)) (BA (List.replicate m 48 ++ out))
  | 0, i, out, hm, ho => by
    refine Ev.step (f := fun _ => some (BA out)) (fun k => ?_) (Ev.now _)
    simp only [posternref21_hex.l0]
    rw [if_neg (by omega), if_neg (by omega)]
  | m + 1, i, out, hm, ho => by
    have ih := hex_pad least hl m (i + 1) (48 :: out) (by omega) (by simp; omega)
    have e : List.replicate (m + 1) (48 : UInt8) ++ out = List.replicate m 48 ++ 48 :: out := by rw [List.replicate_succ', List.append_assoc]; rfl
    rw [e]
    refine Ev.step (fun k => ?_) ih
    rw [hex_round k 0 least i out (.inl (by omega)) (by omega) (by omega) (by omega) hl]
    rfl
theorem hex_main (least : Nat) (hl : least ≤ 10000) (n : Nat) : ∀ (i : Nat) (out : List UInt8), 0 < n → n ≤ 65535 → out.length + (hexL n).length + least ≤ 10000 → i + (hexL n).length ≤ 10000 →
    Ev (fun k => posternref21_hex.l0 k (n : Int) (least : Int) (BA out) (i : Int)) (BA (List.replicate (least - (i + (hexL n).length)) 48 ++ (hexL n ++ out))) := by
  induction n using Nat.strongRecOn with
  | ind n ih =>
    intro i out h0 hn ho hi
    refine Ev.step (f := fun k => posternref21_hex.l0 k ((n / 16 : Nat) : Int) (least : Int) (BA (digB (n % 16) :: out)) ((i + 1 : Nat) : Int)) (fun k => hex_round k n least i out (.inr h0) hn (by omega) (by omega) hl) ?_
    by_cases hz : n / 16 = 0
    · have e : hexL n = [digB (n % 16)] := by unfold hexL; rw [revHex_last hz]; rfl
      rw [e] at ho hi ⊢
      rw [hz]
      simp only [List.length_singleton] at ho hi ⊢
      by_cases hp : i + 1 ≤ least
      · exact hex_pad least hl (least - (i + 1)) (i + 1) _ (by omega) (by simp; omega)
      · rw [show least - (i + 1) = 0 by omega]
        refine Ev.step (f := fun _ => some (BA (digB (n % 16) :: out))) (fun k => ?_) (Ev.now _)
        simp only [posternref21_hex.l0]
        rw [if_neg (by omega), if_neg (by omega)]
    · have e : hexL n = hexL (n / 16) ++ [digB (n % 16)] := by unfold hexL; rw [revHex_more hz, List.reverse_cons]
      have el : (hexL n).length = (hexL (n / 16)).length + 1 := by rw [e]; simp
      have := ih (n / 16) (by omega) (i + 1) (digB (n % 16) :: out) (by omega) (by omega) (by simp; omega) (by omega)
      rw [show i + 1 + (hexL (n / 16)).length = i + (hexL n).length by omega, show hexL (n / 16) ++ digB (n % 16) :: out = hexL n ++ out by rw [e]; simp] at this
      exact this
theorem hexL_0 : hexL 0 = [48] := by unfold hexL; rw [revHex_last (by decide)]; rfl
theorem hex_any (n least : Nat) (hn : n ≤ 65535) (h1 : 1 ≤ least) (hl : least ≤ 4) : Ev (fun k => posternref21_hex.f k (n : Int) (least : Int)) (BA (List.replicate (least - (hexL n).length) 48 ++ hexL n)) := by
  have h4 := (hexL_pc hn).l4
  by_cases h0 : n = 0
  · subst h0
    have := hex_pad least (by omega) least 0 [] (by omega) (by simp; omega)
    rw [List.append_nil] at this
    rw [hexL_0]
    rw [show List.replicate (least - ([48] : List UInt8).length) (48 : UInt8) ++ [48] = List.replicate least 48 from by
      rw [List.length_singleton, ← List.replicate_succ', show least - 1 + 1 = least by omega]]
    exact this
  · have := hex_main least (by omega) n 0 [] (by omega) hn (by simp; omega) (by omega)
    rw [List.append_nil, Nat.zero_add] at this
    exact this
theorem hex1_walk (n : Nat) (hn : n ≤ 65535) (w : World) : Calls Tryd.prog 71 #[.int .u16 (n : Int), .int .i64 1] w fun e w' => e = .returned (.string (BA (hexL n))) ∧ Below w.heap.size w w' := by
  obtain ⟨k, hk⟩ := (hex_any n 1 hn (Nat.le_refl _) (by decide)).rounds
  have hl := (hexL_pc hn).l1
  rw [show (1 : Nat) - (hexL n).length = 0 by omega] at hk
  exact (posternref21_hex.calls k (n : Int) 1 _ w hk).mono fun e w' ⟨h1, h2⟩ => ⟨h1, h2.below⟩
theorem hex4_walk (n : Nat) (hn : n ≤ 65535) (w : World) : Calls Tryd.prog 71 #[.int .u16 (n : Int), .int .i64 4] w fun e w' => e = .returned (.string (BA (fullL n))) ∧ Below w.heap.size w w' := by
  obtain ⟨k, hk⟩ := (hex_any n 4 hn (by decide) (by decide)).rounds
  exact (posternref21_hex.calls k (n : Int) 4 _ w hk).mono fun e w' ⟨h1, h2⟩ => ⟨h1, h2.below⟩
end Go.Proofs.YtcgdjnmfeibnoaaDoor
/-! SixRefWr -/
namespace Go.Proofs.YtcgdjnmfeibnoaaDoor
open Go.RowKit Go.Proofs.YtcgdjnmfeibnoaaDoorW.PrintWords
set_option linter.unusedVariables false
set_option linter.unusedSimpArgs false
theorem byte_beq (c : UInt8) (k : UInt8) : ((c.toNat : Int) == (k.toNat : Int)) = (c == k) := by
  rw [Bool.eq_iff_iff, beq_iff_eq, beq_iff_eq]
  exact byte_eq c k
/-- The last byte of a text. -/
theorem last_index (r : List UInt8) (c : UInt8) (hr : r.length ≤ 1000) (W : World) : (Instr.index 9 (.string (BA (r ++ [c]))) (.int .i64 (((BA (r ++ [c])).size : Int) - 1))).run Tryd.prog W = .ok (.int .u8 (c.toNat : Int)) W := by
  have hs : (BA (r ++ [c])).size = r.length + 1 := by rw [ba_size]; simp
  rw [hs, show (((r.length + 1 : Nat) : Int) - 1) = (r.length : Int) by omega]
  have hg : ∀ h, (BA (r ++ [c]))[((r.length : Nat) : Int).toNat]'h = c := by
    intro h
    show (r ++ [c]).toArray[((r.length : Nat) : Int).toNat]'h = c
    simp
  rw [run_index_string _ _ _ _ _ Tryd.underlying9, dif_pos ⟨by omega, by rw [hs]; omega⟩, hg]
/-- What is written; with a colon behind it, if something stands there. -/
def wrL (op : Bool) (ys : List Nat) : List UInt8 := if op = true ∧ ¬ [58, 58] <:+ textL ys then textL ys ++ [58] else textL ys
/-- What stands at the head of a round. -/
structure WR8 (w : World) (cells : Array Value) (W : World) : Prop where
  k : W.heap[w.heap.size]? = some (.cells cells 30 (0, 0))
  below : Below w.heap.size w W
theorem WR8.keep {w : World} {cells : Array Value} {W W' : World} (h : WR8 w cells W) (hb : Below W.heap.size W W') : WR8 w cells W' := ⟨blk_below h.k hb, below_step h.below hb⟩
def WRel (ys : List Nat) (w : World) (cells : Array Value) (v9 v10 : Value) (W : World) : Prop :=
  ∃ (i : Nat) (o : List UInt8), i ≤ ys.length ∧ v10 = .int .i64 i ∧ v9 = .string (BA o) ∧ o.length ≤ 5 * i + 2 ∧ Stage ys (runL ys).1 (runL ys).2 i o ∧ WR8 w cells W
set_option maxHeartbeats 4000000 in
set_option maxRecDepth 100000 in
theorem refWritten_walk (n0 n1 n2 n3 n4 n5 n6 n7 P : Nat) (hP : P ≤ 8) (hP1 : 1 ≤ P) (op : Bool) (ys : List Nat) (hy : ys = [n0, n1, n2, n3, n4, n5, n6, n7].take P) (hx : ∀ x ∈ ys, x ≤ 65535) (hs : refGo ys 0 (-1) 1 = runGo ys 0 (-1) 1 0) (w : World) :
    Calls Tryd.prog 67 #[.agg #[.int .u16 (n0 : Int), .int .u16 (n1 : Int), .int .u16 (n2 : Int), .int .u16 (n3 : Int), .int .u16 (n4 : Int), .int .u16 (n5 : Int), .int .u16 (n6 : Int), .int .u16 (n7 : Int)], .int .i64 P, .bool op] w fun e w' => e = .returned (.string (BA (wrL op ys))) ∧ Below w.heap.size w w' := by
  have hyl : ys.length = P := by rw [hy, List.length_take]; simp; omega
  have hRn := fun w => refRun_walk n0 n1 n2 n3 n4 n5 n6 n7 P hP ys hy hs w
  have hK : WR8 w #[.int .u16 (n0 : Int), .int .u16 (n1 : Int), .int .u16 (n2 : Int), .int .u16 (n3 : Int), .int .u16 (n4 : Int), .int .u16 (n5 : Int), .int .u16 (n6 : Int), .int .u16 (n7 : Int)] (w.alloc (.cells #[.int .u16 (n0 : Int), .int .u16 (n1 : Int), .int .u16 (n2 : Int), .int .u16 (n3 : Int), .int .u16 (n4 : Int), .int .u16 (n5 : Int), .int .u16 (n6 : Int), .int .u16 (n7 : Int)] 30)) := ⟨blk_new _ _, (Below.refl _ _).alloc (Nat.le_refl _) _⟩
  have hcell : ∀ W : World, WR8 w #[.int .u16 (n0 : Int), .int .u16 (n1 : Int), .int .u16 (n2 : Int), .int .u16 (n3 : Int), .int .u16 (n4 : Int), .int .u16 (n5 : Int), .int .u16 (n6 : Int), .int .u16 (n7 : Int)] W → ∀ j, j < ys.length → W.cell? ⟨w.heap.size, j, none⟩ = some (.int .u16 ((ys.getD j 0 : Nat) : Int)) := by
    intro W hW j h
    rw [blk_cell hW.k j]
    have e : ys.getD j 0 = [n0, n1, n2, n3, n4, n5, n6, n7].getD j 0 := by rw [hy, List.getD_eq_getElem?_getD, List.getElem?_take, if_pos (by omega), List.getD_eq_getElem?_getD]
    rw [e]
    have hj : j < 8 := by omega
    clear e h
    match j, hj with
    | 0, _ => rfl
    | 1, _ => rfl
    | 2, _ => rfl
    | 3, _ => rfl
    | 4, _ => rfl
    | 5, _ => rfl
    | 6, _ => rfl
    | 7, _ => rfl
    | j + 8, hj => exact absurd hj (by omega)
  have HCE := Lib.hid hcell
  have HRN := Lib.hid hRn
  have HX := Lib.hid hx
  have hlt := blk_lt hK.k
  have HK := Lib.hid hK
  have hne : ys ≠ [] := fun e => by rw [e] at hyl; simp at hyl; omega
  have HNE := Lib.hid hne
  have hst := run_cases ys
  clear hcell hRn hx hK hne hs
  go_enter Tryd.func67, Tryd.ntmps67
  have c0 := (blk_cell HK.out.k 0).trans rfl
  have c1 := (blk_cell HK.out.k 1).trans rfl
  have c2 := (blk_cell HK.out.k 2).trans rfl
  have c3 := (blk_cell HK.out.k 3).trans rfl
  have c4 := (blk_cell HK.out.k 4).trans rfl
  have c5 := (blk_cell HK.out.k 5).trans rfl
  have c6 := (blk_cell HK.out.k 6).trans rfl
  have c7 := (blk_cell HK.out.k 7).trans rfl
  go_wp2_with fail
  refine (HRN.out _).mono ?_
  rintro e w1 ⟨rfl, hb1⟩
  have hK1 := HK.out.keep hb1
  have hlt1 : w.heap.size < w1.heap.size := blk_lt hK1.k
  have HK1 := Lib.hid hK1
  clear c0 c1 c2 c3 c4 c5 c6 c7 hb1 hK1 HRN HK hlt
  subst hyl
  clear hy
  obtain ⟨a, ha⟩ : ∃ a, a = (runL ys).1 := ⟨_, rfl⟩
  obtain ⟨m, hm⟩ : ∃ m, m = (runL ys).2 := ⟨_, rfl⟩
  have HA := Lib.hid ha
  have HM := Lib.hid hm
  rw [← ha, ← hm] at hst ⊢
  clear ha hm
  have HST := Lib.hid hst
  go_wp2_with fail
  go_loopw [9, 10] (fun v9 v10 W => WRel ys w #[.int .u16 (n0 : Int), .int .u16 (n1 : Int), .int .u16 (n2 : Int), .int .u16 (n3 : Int), .int .u16 (n4 : Int), .int .u16 (n5 : Int), .int .u16 (n6 : Int), .int .u16 (n7 : Int)] v9 v10 W) (fun _ v10 _ => ys.length - (intOf v10).toNat)
  case atStart => exact ⟨0, [], Nat.zero_le _, rfl, rfl, by simp, stage_start ys (by rw [← HA.out, ← HM.out]; exact HST.out), HK1.out⟩
  case round =>
    obtain ⟨i, o, hi, rfl, rfl, hol, hsg, hW⟩ := hrel
    rw [← HA.out, ← HM.out] at hsg
    by_cases hl : i < ys.length
    · have hrm : a = -1 ∧ m = 0 ∨ 0 ≤ a ∧ 2 ≤ m ∧ a + m ≤ ys.length := HST.out
      have hstep := stage_step HX.out hrm hl hsg
      have hh := HX.out _ (List.getElem_mem hl)
      have hq4 := (hexL_pc hh).l4
      have hce := HCE.out _ hW i hl
      rw [List.getD_eq_getElem?_getD, List.getElem?_eq_getElem hl, Option.getD_some] at hce
      have hhex := fun w => hex1_walk ys[i] hh w
      obtain ⟨q, eq⟩ : ∃ q, q = hexL ys[i] := ⟨_, rfl⟩
      rw [← eq] at hstep hq4 hhex
      clear eq
      have HH := Lib.hid hhex
      have HSG := Lib.hid hsg
      have HW := Lib.hid hW
      have hlt2 : w.heap.size < wr.heap.size := blk_lt hW.k
      have hi8 : (i : Int) < 8 := by omega
      clear hhex hsg hW
      rcases hstep with ⟨e1, hn⟩ | ⟨e1, e2, hn⟩ | ⟨e1, ⟨c, ⟨r, hr⟩, hc⟩, hn⟩ | ⟨e1, ⟨r, hr⟩, hn⟩
      · subst e1
        have hm2 : 2 ≤ m := by omega
        have hm8 : m ≤ 8 := by omega
        have hsz : (BA o).size + 2 ≤ 9223372036854775807 := by rw [ba_size]; omega
        have HN := Lib.hid hn
        clear hn hrm
        go_wp2_with fail
        refine ⟨⟨((i : Int) + m).toNat, o ++ [58, 58], by omega, ?_, ?_, by simp; omega, by rw [← HA.out, ← HM.out]; exact HN.out, HW.out⟩, by simp [intOf]; omega⟩
        · congr 1; omega
        · exact congrArg Value.string (ba_join o [58, 58])
      · subst e2
        have hneq : ((i : Int) == a) = false := beq_eq_false_iff_ne.2 e1
        have hE : (BA []).toList = [] := by rw [toList_data, ba_list]
        have hsz : (BA []).size + (BA q).size ≤ 9223372036854775807 := by rw [ba_size, ba_size]; simp; omega
        have HJ := Lib.hid (ba_join [] q)
        have HN := Lib.hid hn
        clear hn hrm e1
        generalize BA [] = O at *
        go_wp2_with fail
        refine (HH.out _).mono ?_
        rintro e w2 ⟨rfl, hb2⟩
        go_wp2_with fail
        refine ⟨⟨i + 1, q, by omega, by go_num, ?_, by omega, by rw [← HA.out, ← HM.out]; exact HN.out, HW.out.keep hb2⟩, by simp [intOf]; omega⟩
        rw [HJ.out, List.nil_append]
      · subst hr
        have hneq : ((i : Int) == a) = false := beq_eq_false_iff_ne.2 e1
        have hix := last_index r c (by simp at hol; omega)
        have hos : (BA (r ++ [c])).size ≤ 100 := by rw [ba_size]; omega
        have ho1 : 1 ≤ (BA (r ++ [c])).size := by rw [ba_size]; simp
        have hnl : ¬ (BA (r ++ [c])).toList = [] := by rw [toList_data, ba_list]; simp
        have hie : (BA (r ++ [c])).toList.isEmpty = false := by rw [toList_data, ba_list]; simp
        have hc58 : ((c.toNat : Int) != 58) = true := by
          have := (byte_beq c 58).trans (beq_eq_false_iff_ne.2 hc)
          show (!((c.toNat : Int) == ((58 : UInt8).toNat : Int))) = true
          rw [this]
          rfl
        have hsz : (BA (r ++ [c])).size + 1 + (BA q).size ≤ 9223372036854775807 := by rw [ba_size, ba_size]; omega
        have HJ := Lib.hid (ba_join (r ++ [c]) [58])
        have HJ2 := Lib.hid (ba_join (r ++ [c] ++ [58]) q)
        have HN := Lib.hid hn
        clear hn hrm e1 hc
        generalize BA (r ++ [c]) = O at *
        go_wp2_with fail
        refine (HH.out _).mono ?_
        rintro e w2 ⟨rfl, hb2⟩
        go_wp2_with fail
        refine ⟨⟨i + 1, r ++ [c] ++ [58] ++ q, by omega, by go_num, ?_, by simp only [List.length_append, List.length_singleton] at hol ⊢; omega, by rw [← HA.out, ← HM.out]; exact HN.out, HW.out.keep hb2⟩, by simp [intOf]; omega⟩
        rw [← HJ2.out, ← HJ.out]
        rfl
      · subst hr
        have hneq : ((i : Int) == a) = false := beq_eq_false_iff_ne.2 e1
        have hix := last_index r 58 (by simp at hol; omega)
        have hos : (BA (r ++ [58])).size ≤ 100 := by rw [ba_size]; omega
        have ho1 : 1 ≤ (BA (r ++ [58])).size := by rw [ba_size]; simp
        have hnl : ¬ (BA (r ++ [58])).toList = [] := by rw [toList_data, ba_list]; simp
        have hie : (BA (r ++ [58])).toList.isEmpty = false := by rw [toList_data, ba_list]; simp
        have hsz : (BA (r ++ [58])).size + (BA q).size ≤ 9223372036854775807 := by rw [ba_size, ba_size]; omega
        have HJ := Lib.hid (ba_join (r ++ [58]) q)
        have HN := Lib.hid hn
        clear hn hrm e1
        generalize BA (r ++ [58]) = O at *
        go_wp2_with fail
        refine (HH.out _).mono ?_
        rintro e w2 ⟨rfl, hb2⟩
        go_wp2_with fail
        refine ⟨⟨i + 1, r ++ [58] ++ q, by omega, by go_num, ?_, by simp only [List.length_append, List.length_singleton] at hol ⊢; omega, by rw [← HA.out, ← HM.out]; exact HN.out, HW.out.keep hb2⟩, by simp [intOf]; omega⟩
        rw [← HJ.out]
    · obtain rfl : i = ys.length := by omega
      have hse := stage_end HX.out HNE.out (by rw [HA.out, HM.out] at hsg; exact hsg)
      obtain ⟨ho, c, ⟨r, hr⟩, hcc⟩ := hse
      rw [hr] at ho
      have HO := Lib.hid ho
      have HCC := Lib.hid hcc
      have HB := Lib.hid hW.below
      clear hcc ho hsg hW
      subst hr
      cases op
      · go_wp2_with fail
        go_ret
        refine ⟨?_, HB.out⟩
        unfold wrL
        rw [if_neg (fun q => by cases q.1), ← HO.out]
        rfl
      · have hix := last_index r c (by simp at hol; omega)
        have hos : (BA (r ++ [c])).size ≤ 100 := by rw [ba_size]; omega
        have ho1 : 1 ≤ (BA (r ++ [c])).size := by rw [ba_size]; simp
        have HJ := Lib.hid (ba_join (r ++ [c]) [58])
        rcases HCC.out with ⟨h58, hsf⟩ | ⟨h58, hsf⟩
        · have hc58 : ((c.toNat : Int) != 58) = false := by rw [h58]; rfl
          have HSF := Lib.hid hsf
          clear h58 hsf
          obtain ⟨O, eO⟩ : ∃ O, O = BA (r ++ [c]) := ⟨_, rfl⟩
          rw [← eO] at hix hos ho1 ⊢
          have EO := Lib.hid eO
          clear eO
          go_wp2_with fail
          go_ret
          refine ⟨?_, HB.out⟩
          unfold wrL
          rw [if_neg (fun q => q.2 HSF.out), ← HO.out, ← EO.out]
          rfl
        · have hc58 : ((c.toNat : Int) != 58) = true := by
            have := (byte_beq c 58).trans (beq_eq_false_iff_ne.2 h58)
            show (!((c.toNat : Int) == ((58 : UInt8).toNat : Int))) = true
            rw [this]
            rfl
          have HSF := Lib.hid hsf
          clear h58 hsf
          obtain ⟨O, eO⟩ : ∃ O, O = BA (r ++ [c]) := ⟨_, rfl⟩
          rw [← eO] at hix hos ho1 HJ ⊢
          have EO := Lib.hid eO
          clear eO
          go_wp2_with fail
          go_ret
          refine ⟨?_, HB.out⟩
          unfold wrL
          rw [if_pos ⟨rfl, HSF.out⟩, ← HO.out, ← HJ.out]
          rfl
end Go.Proofs.YtcgdjnmfeibnoaaDoor
/-! Dec -/
namespace Go.Proofs.YtcgdjnmfeibnoaaDoor
open Go.RowKit Go.Proofs.YtcgdjnmfeibnoaaDoorW.PrintWords
set_option linter.unusedVariables false
set_option linter.unusedSimpArgs false
/-- A digit's byte. -/
def dgt (n : Nat) : UInt8 := UInt8.ofNat (48 + n)
/-- A number below 1000 in digits. -/
def dec3 (n : Nat) : List UInt8 := (if 100 ≤ n then [dgt (n / 100)] else []) ++ (if 10 ≤ n then [dgt (n / 10 % 10)] else []) ++ [dgt (n % 10)]
theorem decDigits_small {n : Nat} (h : n < 1000) : Lib.decDigits n = dec3 n := by
  unfold dec3
  by_cases h1 : n < 10
  · rw [Lib.decDigits, dif_pos h1, if_neg (by omega), if_neg (by omega), Nat.mod_eq_of_lt h1]
    rfl
  · rw [Lib.decDigits, dif_neg h1]
    by_cases h2 : n < 100
    · rw [Lib.decDigits, dif_pos (by omega), if_neg (by omega), if_pos (by omega), show n / 10 % 10 = n / 10 by omega]
      rfl
    · rw [Lib.decDigits, dif_neg (by omega), Lib.decDigits, dif_pos (by omega), if_pos (by omega), if_pos (by omega), Nat.div_div_eq_div_mul]
      rfl
theorem itoa_small {b : Int} (h0 : 0 ≤ b) (h1 : b < 1000) : Lib.itoa b = dec3 b.toNat := by
  unfold Lib.itoa
  rw [if_neg (by omega), decDigits_small (by omega)]
theorem dec3_len (n : Nat) : 1 ≤ (dec3 n).length ∧ (dec3 n).length ≤ 3 := by
  unfold dec3
  (repeat' split) <;> simp
theorem itoa_len {b : Int} (h0 : 0 ≤ b) (h1 : b ≤ 255) : 1 ≤ (Lib.itoa b).length ∧ (Lib.itoa b).length ≤ 3 := by
  rw [itoa_small h0 (by omega)]
  exact dec3_len _
theorem join4 (a b c d : List UInt8) : Lib.join [a, b, c, d] [46] = a ++ 46 :: (b ++ 46 :: (c ++ 46 :: d)) := by
  simp [Lib.join, List.intercalate]
end Go.Proofs.YtcgdjnmfeibnoaaDoor
/-! SixRefDec -/
namespace Go.Proofs.YtcgdjnmfeibnoaaDoor
open Go.RowKit Go.Proofs.YtcgdjnmfeibnoaaDoorW.PrintWords
set_option linter.unusedVariables false
set_option linter.unusedSimpArgs false
theorem dec_slice : ∀ d : Nat, d < 10 → ∀ W : World, (Instr.slice 9 (.string ⟨#[48, 49, 50, 51, 52, 53, 54, 55, 56, 57]⟩) (some (.int .i64 (d : Int))) (some (.int .i64 ((d : Int) + 1))) none).run Tryd.prog W = .ok (.string (BA [dgt d])) W
  | 0, _ => fun W => by kernel_rfl
  | 1, _ => fun W => by kernel_rfl
  | 2, _ => fun W => by kernel_rfl
  | 3, _ => fun W => by kernel_rfl
  | 4, _ => fun W => by kernel_rfl
  | 5, _ => fun W => by kernel_rfl
  | 6, _ => fun W => by kernel_rfl
  | 7, _ => fun W => by kernel_rfl
  | 8, _ => fun W => by kernel_rfl
  | 9, _ => fun W => by kernel_rfl
  | d + 10, h => absurd h (by omega)
set_option maxRecDepth 100000 in
theorem dec_one (d : Nat) (h : d < 10) (w : World) : Calls Tryd.prog 75 #[.int .i64 (d : Int)] w fun e w' => e = .returned (.string (BA [dgt d])) ∧ Below w.heap.size w w' := by
  have hsl := dec_slice d h
  have hd : (d : Int) < 10 := by omega
  go_enter Tryd.func75, Tryd.ntmps75
  go_wp2_with fail
  go_returns
  exact ⟨rfl, Below.refl _ _⟩
set_option maxHeartbeats 1000000 in
set_option maxRecDepth 100000 in
theorem dec_more (n : Nat) (h : 10 ≤ n) (h2 : n < 1000) (q : List UInt8) (hl : q.length ≤ 100) (hq : ∀ w, Calls Tryd.prog 75 #[.int .i64 ((n / 10 : Nat) : Int)] w fun e w' => e = .returned (.string (BA q)) ∧ Below w.heap.size w w') (w : World) :
    Calls Tryd.prog 75 #[.int .i64 (n : Int)] w fun e w' => e = .returned (.string (BA (q ++ [dgt (n % 10)]))) ∧ Below w.heap.size w w' := by
  have hsl := dec_slice (n % 10) (by omega)
  have hd : ¬ (n : Int) < 10 := by omega
  have e1 : ((n / 10 : Nat) : Int) = (n : Int) / 10 := by omega
  have e2 : ((n % 10 : Nat) : Int) = (n : Int) % 10 := by omega
  rw [e1] at hq
  rw [e2] at hsl
  have hsz : (BA q).size + (BA [dgt (n % 10)]).size ≤ 9223372036854775807 := by rw [ba_size, ba_size, List.length_singleton]; omega
  have HJ := Lib.hid (ba_join q [dgt (n % 10)])
  have HQ := Lib.hid hq
  clear hq e1 e2
  go_enter Tryd.func75, Tryd.ntmps75
  go_wp2_with fail
  refine wp_region_ext (by kernel_rfl) (by kernel_rfl) ?_
  repeat (go_big_quiet_step (with_reducible exact ext_of (HQ.out _)))
  refine wpQuiet_nil ?_
  rintro W ⟨⟨_, hb⟩, rfl⟩
  go_wp2_with fail
  go_ret
  exact ⟨by rw [← HJ.out]; rfl, hb⟩
/-- A number below 256. -/
theorem dec_walk (n : Nat) (h : n < 256) (w : World) : Calls Tryd.prog 75 #[.int .i64 (n : Int)] w fun e w' => e = .returned (.string (BA (dec3 n))) ∧ Below w.heap.size w w' := by
  by_cases h1 : n < 10
  · have e : dec3 n = [dgt n] := by unfold dec3; rw [if_neg (by omega), if_neg (by omega), Nat.mod_eq_of_lt h1]; rfl
    rw [e]
    exact dec_one n h1 w
  · by_cases h2 : n < 100
    · have e : dec3 n = [dgt (n / 10)] ++ [dgt (n % 10)] := by unfold dec3; rw [if_neg (by omega), if_pos (by omega), show n / 10 % 10 = n / 10 by omega]; rfl
      rw [e]
      exact dec_more n (by omega) (by omega) [dgt (n / 10)] (by simp) (dec_one (n / 10) (by omega)) w
    · have e : dec3 n = ([dgt (n / 100)] ++ [dgt (n / 10 % 10)]) ++ [dgt (n % 10)] := by unfold dec3; rw [if_pos (by omega), if_pos (by omega)]
      rw [e]
      refine dec_more n (by omega) (by omega) _ (by simp) (fun w => ?_) w
      have h3 := dec_more (n / 10) (by omega) (by omega) [dgt (n / 100)] (by simp) (fun w => by
        rw [Nat.div_div_eq_div_mul]
        exact dec_one (n / 100) (by omega) w) w
      exact h3
end Go.Proofs.YtcgdjnmfeibnoaaDoor
/-! Itoa -/
namespace Go.Proofs.YtcgdjnmfeibnoaaDoor
open Go.RowKit Go.Proofs.YtcgdjnmfeibnoaaDoorW.PrintWords Go.Sort
set_option linter.unusedVariables false
set_option linter.unusedSimpArgs false
theorem below_grow (w : World) (n : Nat) (os : Array Obj) : Below w.heap.size w (grow (w.drewN n) os) :=
  ⟨rfl, rfl, rfl, by show w.heap.size ≤ (w.heap ++ os).size; rw [Array.size_append]; omega, fun _ hj => Sort.heap_grow_old (w.drewN n) os hj⟩
def strconv_Itoa.f (a0 : Int) : Option ByteArray := if -9223372036854775808 ≤ a0 ∧ a0 ≤ 9223372036854775807 then some ⟨(Lib.itoa a0).toArray⟩ else none
/-- What Itoa asks of the library's variables: its table. -/
structure GI (w : World) : Prop where
  pow10 : Lib.TabIs Tryd.prog w "internal/strconv.uint64pow10" .u64 Lib.pow10Tab
theorem GI.keep {w w' : World} (h : GI w) (hb : Below w.heap.size w w') : GI w' := ⟨tab_keep h.pow10 hb⟩
theorem itoa_at (a0 : Int) (r : ByteArray) (w : World) (hG : GI w) (h : strconv_Itoa.f a0 = some r) :
    Calls Tryd.prog 111 #[.int .i64 a0] w fun e w' => e = .returned (.string r) ∧ Below w.heap.size w w' := by
  unfold strconv_Itoa.f at h
  by_cases hs : -9223372036854775808 ≤ a0 ∧ a0 ≤ 9223372036854775807
  · rw [if_pos hs] at h
    obtain rfl := Option.some.inj h
    refine (Tryd.strconv_Itoa a0 hs.1 hs.2 w hG.pow10).mono ?_
    rintro e w' ⟨rfl, k, os, rfl⟩
    exact ⟨rfl, below_grow w k os⟩
  · rw [if_neg hs] at h
    cases h
def strings_Join.f (l0 : List ByteArray) (a1 : ByteArray) : Option ByteArray :=
  if l0.length ≤ 140737488355328 ∧ (Lib.join (l0.map (·.data.toList)) a1.data.toList).length ≤ 140737488355328 then some ⟨(Lib.join (l0.map (·.data.toList)) a1.data.toList).toArray⟩ else none
theorem strings_Join.calls (A0 : Option Addr) (c0 : Nat) (l0 : List ByteArray) (a1 : ByteArray) (r : ByteArray) (w : World) (hr0 : Kd.C Kd.string w A0 l0.length l0) (hc0 : l0.length ≤ c0) (h : strings_Join.f l0 a1 = some r) :
    Calls Tryd.prog 70 #[.slice A0 l0.length c0, .string a1] w fun e w' => e = .returned (.string r) ∧ Below w.heap.size w w' := by
  unfold strings_Join.f at h
  by_cases hs : l0.length ≤ 140737488355328 ∧ (Lib.join (l0.map (·.data.toList)) a1.data.toList).length ≤ 140737488355328
  · rw [if_pos hs] at h
    obtain rfl := Option.some.inj h
    by_cases h0 : l0 = []
    · subst h0
      refine (Tryd.strings_Join_none A0 c0 a1 w).mono ?_
      rintro e w' ⟨rfl, rfl⟩
      exact ⟨rfl, Below.refl _ _⟩
    · have hl : 0 < l0.length := List.length_pos_iff.2 h0
      obtain ⟨ad, rfl, hc⟩ := Kd.at_string hr0 0 (by omega) (by omega)
      obtain ⟨b, o, sp⟩ := ad
      have hsp : sp = none := by
        cases sp with
        | none => rfl
        | some x =>
          simp [World.cell?, Addr.add] at hc
          split at hc <;> cases hc
      subst hsp
      refine Tryd.strings_Join b o c0 l0 a1 w (fun j x hx => ?_) (World.block_lt_of_cell? w _ (by simpa [Addr.add] using hc)) hs.1 hc0 hs.2
      have hj : j < l0.length := (List.getElem?_eq_some_iff.1 hx).1
      obtain ⟨ad', e, hc'⟩ := Kd.at_string hr0 (j : Int) (by omega) (by omega)
      cases e
      have ev : rdOf ByteArray.empty l0 (j : Int) = x := by
        unfold rdOf
        rw [Int.toNat_natCast, List.getD_eq_getElem?_getD, hx]
        rfl
      rw [ev] at hc'
      have ea : ((⟨b, o, none⟩ : Addr).add (j : Int).toNat) = ⟨b, o + j, none⟩ := by unfold Addr.add; split <;> simp_all
      rw [ea] at hc'
      exact hc'
  · rw [if_neg hs] at h
    cases h
end Go.Proofs.YtcgdjnmfeibnoaaDoor
/-! SixFourP -/
namespace Go.Proofs.YtcgdjnmfeibnoaaDoor
open Go.RowKit Go.Proofs.YtcgdjnmfeibnoaaDoorW.PrintWords
set_option linter.unusedVariables false
set_option linter.unusedSimpArgs false
theorem own_belowF {w W : World} {base : Nat} {e : TypeId} {size n : Nat} {v : Value} {xs : List Value} (h : w.ownsRow base e size v n xs) (hb : Below w.heap.size w W) : W.ownsRow base e size v n xs :=
  own_move h (fun k hk => hb.block k (own_lt h k hk))
/-- The four bytes of an address. -/
def oct4 (n : Int) : List Int := [n / 16777216, n / 65536 % 256, n / 256 % 256, n % 256]
/-- An address as a text. -/
def printV (n : Int) : List UInt8 := Lib.join ((oct4 n).map Lib.itoa) [46]
theorem join4_len {b0 b1 b2 b3 : Int} (a0 : 0 ≤ b0) (a1 : 0 ≤ b1) (a2 : 0 ≤ b2) (a3 : 0 ≤ b3) (c0 : b0 ≤ 255) (c1 : b1 ≤ 255) (c2 : b2 ≤ 255) (c3 : b3 ≤ 255) : (Lib.join ([b0, b1, b2, b3].map Lib.itoa) [46]).length ≤ 140737488355328 := by
  have := itoa_len a0 c0
  have := itoa_len a1 c1
  have := itoa_len a2 c2
  have := itoa_len a3 c3
  simp only [List.map_cons, List.map_nil, join4, List.length_append, List.length_cons]
  omega
set_option maxHeartbeats 1000000 in
set_option maxRecDepth 100000 in
theorem octets_walk (n : Int) (h0 : 0 ≤ n) (h1 : n ≤ 4294967295) (w : World) :
    Calls Tryd.prog 110 #[.int .u32 n] w fun e w' => e = .returned (.agg #[.int .u8 (n / 16777216), .int .u8 (n / 65536 % 256), .int .u8 (n / 256 % 256), .int .u8 (n % 256)]) ∧ Below w.heap.size w w' := by
  go_enter Tryd.func110, Tryd.ntmps110
  go_wp2
  go_returns
  exact ⟨rfl, by go_grown⟩
set_option maxHeartbeats 4000000 in
set_option maxRecDepth 100000 in
theorem fourPrint_walk (n : Int) (h0 : 0 ≤ n) (h1 : n ≤ 4294967295) (w : World) (hG : GI w) :
    Calls Tryd.prog 73 #[.int .u32 n] w fun e w' => e = .returned (.string (BA (printV n))) ∧ Below w.heap.size w w' := by
  obtain ⟨b0, hb0⟩ : ∃ b, b = n / 16777216 := ⟨_, rfl⟩
  obtain ⟨b1, hb1⟩ : ∃ b, b = n / 65536 % 256 := ⟨_, rfl⟩
  obtain ⟨b2, hb2⟩ : ∃ b, b = n / 256 % 256 := ⟨_, rfl⟩
  obtain ⟨b3, hb3⟩ : ∃ b, b = n % 256 := ⟨_, rfl⟩
  have hO := octets_walk n h0 h1
  have hP : printV n = Lib.join ([b0, b1, b2, b3].map Lib.itoa) [46] := by rw [hb0, hb1, hb2, hb3]; rfl
  rw [← hb0, ← hb1, ← hb2, ← hb3] at hO
  have a0 : 0 ≤ b0 := by omega
  have a1 : 0 ≤ b1 := by omega
  have a2 : 0 ≤ b2 := by omega
  have a3 : 0 ≤ b3 := by omega
  have c0 : b0 ≤ 255 := by omega
  have c1 : b1 ≤ 255 := by omega
  have c2 : b2 ≤ 255 := by omega
  have c3 : b3 ≤ 255 := by omega
  have HO := Aside0.mk hO
  have HP := Aside0.mk hP
  have HG := Aside0.mk hG
  clear hO hP hG hb0 hb1 hb2 hb3
  go_enter Tryd.func73, Tryd.ntmps73
  go_wp2_with fail
  refine (HO.out _).mono ?_
  rintro e w1 ⟨rfl, hb1⟩
  go_wp2_with fail
  have i0 : ∀ w, (Instr.index 162 (.agg #[.int .u8 b0, .int .u8 b1, .int .u8 b2, .int .u8 b3]) (.int .i64 0)).run Tryd.prog w = .ok (.int .u8 b0) w := fun _ => by kernel_rfl
  have i1 : ∀ w, (Instr.index 162 (.agg #[.int .u8 b0, .int .u8 b1, .int .u8 b2, .int .u8 b3]) (.int .i64 1)).run Tryd.prog w = .ok (.int .u8 b1) w := fun _ => by kernel_rfl
  have i2 : ∀ w, (Instr.index 162 (.agg #[.int .u8 b0, .int .u8 b1, .int .u8 b2, .int .u8 b3]) (.int .i64 2)).run Tryd.prog w = .ok (.int .u8 b2) w := fun _ => by kernel_rfl
  have i3 : ∀ w, (Instr.index 162 (.agg #[.int .u8 b0, .int .u8 b1, .int .u8 b2, .int .u8 b3]) (.int .i64 3)).run Tryd.prog w = .ok (.int .u8 b3) w := fun _ => by kernel_rfl
  obtain ⟨i0_, hi, hz0, hz1, hz2⟩ := info_parts (show (Tryd.prog.info? 9).map (fun i => (i.zero, i.size, i.bytes)) = some (some (.string ⟨#[]⟩), 1, 16) by kernel_rfl)
  have R0 : w1.ownsRow w.heap.size 9 1 (.slice none 0 0) 0 [] := ⟨by simp, .inl ⟨rfl, rfl⟩⟩
  have B0 : Below w.heap.size w w1 := hb1
  clear hb1 HO
  refine wp_loop_rounds 5 ?_
  rw [rounds_succ]
  go_wp2_with (simp only [i0])
  refine (itoa_at b0 (BA (Lib.itoa b0)) _ (HG.out.keep B0) (if_pos ⟨by omega, by omega⟩)).mono ?_
  rintro e u0 ⟨rfl, hu0⟩
  have o0 := own_belowF R0 hu0
  have C0 := below_step B0 hu0
  have hs0 := C0.size
  clear R0 B0 hu0
  go_wp2_with (at_builtin; refine app_one rfl _ _ 70 rfl w.heap.size 9 i0_ (.string ⟨#[]⟩) 1 16 Tryd.underlying70 hi hz0 hz1 hz2 rfl (by decide) _ _ _ rfl o0 [.string (BA (Lib.itoa b0))] rfl rfl (by simp [Value.oneCell']) (by unfold maxLen; omega) (by omega) hs0 ?_; intro g1 cap1 v1 hg1 R1 hgrow1 hbel1)
  have B1 := hbel1 _ _ (Nat.le_refl _) C0
  clear o0 C0 hs0 hg1 hgrow1 hbel1
  rw [rounds_succ]
  go_wp2_with (simp only [i1])
  refine (itoa_at b1 (BA (Lib.itoa b1)) _ (HG.out.keep B1) (if_pos ⟨by omega, by omega⟩)).mono ?_
  rintro e u1 ⟨rfl, hu1⟩
  have o1 := own_belowF R1 hu1
  have C1 := below_step B1 hu1
  have hs1 := C1.size
  clear R1 B1 hu1
  go_wp2_with (at_builtin; refine app_one rfl _ _ 70 rfl w.heap.size 9 i0_ (.string ⟨#[]⟩) 1 16 Tryd.underlying70 hi hz0 hz1 hz2 rfl (by decide) _ _ _ rfl o1 [.string (BA (Lib.itoa b1))] rfl rfl (by simp [Value.oneCell']) (by unfold maxLen; omega) (by omega) hs1 ?_; intro g2 cap2 v2 hg2 R2 hgrow2 hbel2)
  have B2 := hbel2 _ _ (Nat.le_refl _) C1
  clear o1 C1 hs1 hg2 hgrow2 hbel2
  rw [rounds_succ]
  go_wp2_with (simp only [i2])
  refine (itoa_at b2 (BA (Lib.itoa b2)) _ (HG.out.keep B2) (if_pos ⟨by omega, by omega⟩)).mono ?_
  rintro e u2 ⟨rfl, hu2⟩
  have o2 := own_belowF R2 hu2
  have C2 := below_step B2 hu2
  have hs2 := C2.size
  clear R2 B2 hu2
  go_wp2_with (at_builtin; refine app_one rfl _ _ 70 rfl w.heap.size 9 i0_ (.string ⟨#[]⟩) 1 16 Tryd.underlying70 hi hz0 hz1 hz2 rfl (by decide) _ _ _ rfl o2 [.string (BA (Lib.itoa b2))] rfl rfl (by simp [Value.oneCell']) (by unfold maxLen; omega) (by omega) hs2 ?_; intro g3 cap3 v3 hg3 R3 hgrow3 hbel3)
  have B3 := hbel3 _ _ (Nat.le_refl _) C2
  clear o2 C2 hs2 hg3 hgrow3 hbel3
  rw [rounds_succ]
  go_wp2_with (simp only [i3])
  refine (itoa_at b3 (BA (Lib.itoa b3)) _ (HG.out.keep B3) (if_pos ⟨by omega, by omega⟩)).mono ?_
  rintro e u3 ⟨rfl, hu3⟩
  have o3 := own_belowF R3 hu3
  have C3 := below_step B3 hu3
  have hs3 := C3.size
  clear R3 B3 hu3
  go_wp2_with (at_builtin; refine app_one rfl _ _ 70 rfl w.heap.size 9 i0_ (.string ⟨#[]⟩) 1 16 Tryd.underlying70 hi hz0 hz1 hz2 rfl (by decide) _ _ _ rfl o3 [.string (BA (Lib.itoa b3))] rfl rfl (by simp [Value.oneCell']) (by unfold maxLen; omega) (by omega) hs3 ?_; intro g4 cap4 v4 hg4 R4 hgrow4 hbel4)
  have B4 := hbel4 _ _ (Nat.le_refl _) C3
  clear o3 C3 hs3 hg4 hgrow4 hbel4
  rw [rounds_succ]
  go_wp2_with fail
  have KR := kd_strings (xs := [BA (Lib.itoa b0), BA (Lib.itoa b1), BA (Lib.itoa b2), BA (Lib.itoa b3)]) R4
  obtain ⟨A, c, hv, hle, hC⟩ := Kd.R_reads KR
  injection hv with e1 _ e3
  subst e1 e3
  refine (strings_Join.calls _ cap4 _ (BA [46]) (BA (printV n)) _ hC hle ?_).mono ?_
  · unfold strings_Join.f
    have hl := join4_len a0 a1 a2 a3 c0 c1 c2 c3
    rw [if_pos ⟨by simp, by simpa [ba_list] using hl⟩, HP.out]
    rfl
  rintro e w9 ⟨rfl, hb9⟩
  have B5 := below_step B4 hb9
  go_wp2_with fail
  go_ret
  exact ⟨rfl, B5⟩
end Go.Proofs.YtcgdjnmfeibnoaaDoor
/-! SixDotV -/
namespace Go.Proofs.YtcgdjnmfeibnoaaDoor
open Go.RowKit Go.Proofs.YtcgdjnmfeibnoaaDoorW.PrintWords
set_option linter.unusedVariables false
set_option linter.unusedSimpArgs false
theorem printV_dec (n : Int) (h0 : 0 ≤ n) (h1 : n ≤ 4294967295) : printV n = dec3 (n / 16777216).toNat ++ 46 :: (dec3 (n / 65536 % 256).toNat ++ 46 :: (dec3 (n / 256 % 256).toNat ++ 46 :: dec3 (n % 256).toNat)) := by
  unfold printV oct4
  simp only [List.map_cons, List.map_nil, join4]
  rw [itoa_small (by omega) (by omega), itoa_small (by omega) (by omega), itoa_small (by omega) (by omega), itoa_small (by omega) (by omega)]
end Go.Proofs.YtcgdjnmfeibnoaaDoor
/-! SixOneV -/
namespace Go.Proofs.YtcgdjnmfeibnoaaDoor
open Go.RowKit Go.Proofs.YtcgdjnmfeibnoaaDoorW.PrintWords
set_option linter.unusedVariables false
set_option linter.unusedSimpArgs false
/-- How many bytes parts have. -/
def lsum (l : List (List UInt8)) : Nat := (l.map List.length).sum
/-- How many digits pieces are written with. -/
def hsum (xs : List Nat) : Nat := lsum (xs.map hexL)
theorem lsum_app (a b : List (List UInt8)) : lsum (a ++ b) = lsum a + lsum b := by unfold lsum; rw [List.map_append, List.sum_append]
theorem hsum_app (a b : List Nat) : hsum (a ++ b) = hsum a + hsum b := by unfold hsum; rw [List.map_append, lsum_app]
theorem joinC_len : ∀ l : List (List UInt8), (joinC l).length + (if l = [] then 0 else 1) = lsum l + l.length
  | [] => rfl
  | [p] => by simp [joinC, lsum]
  | p :: q :: r => by
    have ih := joinC_len (q :: r)
    rw [if_neg (by simp)] at ih
    rw [joinC, if_neg (by simp)]
    unfold lsum at ih ⊢
    simp only [List.length_append, List.length_cons, List.map_cons, List.sum_cons] at ih ⊢
    omega
theorem hexL_zero : (hexL 0).length = 1 := by unfold hexL; rw [revHex_last (by decide)]; rfl
theorem hsum_noughts : ∀ l : List Nat, (∀ x ∈ l, x = 0) → hsum l = l.length
  | [], _ => rfl
  | x :: l, h => by
    have ih := hsum_noughts l (fun y hy => h y (List.mem_cons_of_mem _ hy))
    have hx := h x (by simp)
    subst hx
    unfold hsum lsum at ih ⊢
    simp only [List.map_cons, List.sum_cons, List.length_cons, hexL_zero]
    omega
/-- The length of what is written. -/
theorem textL_len (xs : List Nat) (hn : xs ≠ []) : ((textL xs).length + 1 = hsum xs + xs.length ∧ ∀ i z, i + z ≤ xs.length → noughts xs i z → z ≤ 1) ∨
    ∃ n : Nat, 2 ≤ n ∧ (∀ i z, i + z ≤ xs.length → noughts xs i z → z ≤ n) ∧ ((textL xs).length + 2 * n ≤ hsum xs + xs.length + 1 ∨ (textL xs).length = 2) := by
  rcases textL_spec xs with ⟨e, _, hm⟩ | ⟨a, n, _, h2, hl, hz, hm, e⟩
  · left
    refine ⟨?_, hm⟩
    have := joinC_len (xs.map hexL)
    rw [if_neg (by simpa using hn)] at this
    rw [e]
    unfold hsum
    simpa using this
  · right
    refine ⟨n, h2, hm, ?_⟩
    have hsp : xs = xs.take a ++ ((xs.drop a).take n ++ xs.drop (a + n)) := by rw [← List.drop_drop, List.take_append_drop, List.take_append_drop]
    have hrun : hsum ((xs.drop a).take n) = n := by
      rw [hsum_noughts _ (fun x hx => ?_)]
      · rw [List.length_take, List.length_drop]; omega
      · obtain ⟨j, hj, he⟩ := List.getElem_of_mem hx
        rw [List.length_take, List.length_drop] at hj
        have h1 := hz (a + j) (by omega) (by omega)
        unfold nought at h1
        rw [List.getD_eq_getElem?_getD, List.getElem?_eq_getElem (by omega)] at h1
        simp only [Option.getD_some] at h1
        rw [← he, List.getElem_take, List.getElem_drop]
        exact h1
    have hT : hsum xs = hsum (xs.take a) + (n + hsum (xs.drop (a + n))) := by
      rw [show hsum xs = hsum (xs.take a ++ ((xs.drop a).take n ++ xs.drop (a + n))) from by rw [← hsp], hsum_app, hsum_app, hrun]
    have j1 := joinC_len ((xs.take a).map hexL)
    have j2 := joinC_len ((xs.drop (a + n)).map hexL)
    have hlen : (textL xs).length = (joinC ((xs.take a).map hexL)).length + (joinC ((xs.drop (a + n)).map hexL)).length + 2 := by rw [e]; simp; omega
    rw [List.length_map, List.length_take] at j1
    rw [List.length_map, List.length_drop] at j2
    unfold hsum at hT ⊢
    by_cases ha : a = 0
    · by_cases hb : a + n = xs.length
      · right
        rw [if_pos (by rw [ha]; rfl)] at j1
        rw [if_pos (by rw [hb]; simp)] at j2
        have e1 : lsum ((xs.take a).map hexL) = 0 := by rw [ha]; rfl
        have e2 : lsum ((xs.drop (a + n)).map hexL) = 0 := by rw [hb]; simp [lsum]
        omega
      · left
        rw [if_neg (by simp; omega)] at j2
        have : (if (xs.take a).map hexL = [] then 0 else 1) ≤ 1 := by split <;> omega
        omega
    · left
      rw [if_neg (by simp; exact ⟨ha, hn⟩)] at j1
      have : (if (xs.drop (a + n)).map hexL = [] then 0 else 1) ≤ 1 := by split <;> omega
      omega
end Go.Proofs.YtcgdjnmfeibnoaaDoor
/-! SixRefPr -/
namespace Go.Proofs.YtcgdjnmfeibnoaaDoor
open Go.RowKit Go.Proofs.YtcgdjnmfeibnoaaDoorW.PrintWords
set_option linter.unusedVariables false
set_option linter.unusedSimpArgs false
theorem mem8 {n0 n1 n2 n3 n4 n5 n6 n7 : Nat} (h0 : n0 ≤ 65535) (h1 : n1 ≤ 65535) (h2 : n2 ≤ 65535) (h3 : n3 ≤ 65535) (h4 : n4 ≤ 65535) (h5 : n5 ≤ 65535) (h6 : n6 ≤ 65535) (h7 : n7 ≤ 65535) : ∀ x ∈ [n0, n1, n2, n3, n4, n5, n6, n7], x ≤ 65535 := by
  intro x hx
  simp only [List.mem_cons, List.not_mem_nil, or_false] at hx
  omega
theorem mem6 {n0 n1 n2 n3 n4 n5 : Nat} (h0 : n0 ≤ 65535) (h1 : n1 ≤ 65535) (h2 : n2 ≤ 65535) (h3 : n3 ≤ 65535) (h4 : n4 ≤ 65535) (h5 : n5 ≤ 65535) : ∀ x ∈ [n0, n1, n2, n3, n4, n5], x ≤ 65535 := by
  intro x hx
  simp only [List.mem_cons, List.not_mem_nil, or_false] at hx
  omega
theorem refWritten8 (n0 n1 n2 n3 n4 n5 n6 n7 : Nat) (h0 : n0 ≤ 65535) (h1 : n1 ≤ 65535) (h2 : n2 ≤ 65535) (h3 : n3 ≤ 65535) (h4 : n4 ≤ 65535) (h5 : n5 ≤ 65535) (h6 : n6 ≤ 65535) (h7 : n7 ≤ 65535) (w : World) : Calls Tryd.prog 67 #[.agg #[.int .u16 (n0 : Int), .int .u16 (n1 : Int), .int .u16 (n2 : Int), .int .u16 (n3 : Int), .int .u16 (n4 : Int), .int .u16 (n5 : Int), .int .u16 (n6 : Int), .int .u16 (n7 : Int)], .int .i64 8, .bool false] w fun e w' => e = .returned (.string (BA (textL [n0, n1, n2, n3, n4, n5, n6, n7]))) ∧ Below w.heap.size w w' := by
  have h := refWritten_walk n0 n1 n2 n3 n4 n5 n6 n7 8 (by decide) (by decide) false [n0, n1, n2, n3, n4, n5, n6, n7] rfl (mem8 h0 h1 h2 h3 h4 h5 h6 h7) (refGo8 n0 n1 n2 n3 n4 n5 n6 n7) w
  unfold wrL at h
  rw [if_neg (fun q => by cases q.1)] at h
  exact h
theorem refWritten6 (n0 n1 n2 n3 n4 n5 n6 n7 : Nat) (h0 : n0 ≤ 65535) (h1 : n1 ≤ 65535) (h2 : n2 ≤ 65535) (h3 : n3 ≤ 65535) (h4 : n4 ≤ 65535) (h5 : n5 ≤ 65535) (h6 : n6 ≤ 65535) (h7 : n7 ≤ 65535) (w : World) : Calls Tryd.prog 67 #[.agg #[.int .u16 (n0 : Int), .int .u16 (n1 : Int), .int .u16 (n2 : Int), .int .u16 (n3 : Int), .int .u16 (n4 : Int), .int .u16 (n5 : Int), .int .u16 (n6 : Int), .int .u16 (n7 : Int)], .int .i64 6, .bool true] w fun e w' => e = .returned (.string (BA (wrL true [n0, n1, n2, n3, n4, n5]))) ∧ Below w.heap.size w w' :=
  refWritten_walk n0 n1 n2 n3 n4 n5 n6 n7 6 (by decide) (by decide) true [n0, n1, n2, n3, n4, n5] rfl (mem6 h0 h1 h2 h3 h4 h5) (refGo6 n0 n1 n2 n3 n4 n5) w
set_option maxRecDepth 100000 in
theorem refPrint_walk (n0 n1 n2 n3 n4 n5 n6 n7 : Nat) (h0 : n0 ≤ 65535) (h1 : n1 ≤ 65535) (h2 : n2 ≤ 65535) (h3 : n3 ≤ 65535) (h4 : n4 ≤ 65535) (h5 : n5 ≤ 65535) (h6 : n6 ≤ 65535) (h7 : n7 ≤ 65535) (w : World) : Calls Tryd.prog 29 #[.agg #[.int .u16 (n0 : Int), .int .u16 (n1 : Int), .int .u16 (n2 : Int), .int .u16 (n3 : Int), .int .u16 (n4 : Int), .int .u16 (n5 : Int), .int .u16 (n6 : Int), .int .u16 (n7 : Int)]] w fun e w' => e = .returned (.string (BA (textL [n0, n1, n2, n3, n4, n5, n6, n7]))) ∧ Below w.heap.size w w' := by
  have HW := Lib.hid (fun w => refWritten8 n0 n1 n2 n3 n4 n5 n6 n7 h0 h1 h2 h3 h4 h5 h6 h7 w)
  generalize textL [n0, n1, n2, n3, n4, n5, n6, n7] = T at *
  go_enter Tryd.func29, Tryd.ntmps29
  go_wp2_with fail
  refine (HW.out _).mono ?_
  rintro e w1 ⟨rfl, hb⟩
  go_wp2_with fail
  go_returns
  exact ⟨rfl, ((Below.refl w.heap.size w).alloc (Nat.le_refl _) (.cells #[.int .u16 (n0 : Int), .int .u16 (n1 : Int), .int .u16 (n2 : Int), .int .u16 (n3 : Int), .int .u16 (n4 : Int), .int .u16 (n5 : Int), .int .u16 (n6 : Int), .int .u16 (n7 : Int)] 30)).trans (hb.mono (by simp))⟩
set_option maxRecDepth 100000 in
theorem refRunAll_walk (n0 n1 n2 n3 n4 n5 n6 n7 : Nat) (w : World) : Calls Tryd.prog 28 #[.agg #[.int .u16 (n0 : Int), .int .u16 (n1 : Int), .int .u16 (n2 : Int), .int .u16 (n3 : Int), .int .u16 (n4 : Int), .int .u16 (n5 : Int), .int .u16 (n6 : Int), .int .u16 (n7 : Int)]] w fun e w' => e = .returned (.tuple #[.int .i64 (runL [n0, n1, n2, n3, n4, n5, n6, n7]).1, .int .i64 (runL [n0, n1, n2, n3, n4, n5, n6, n7]).2]) ∧ Below w.heap.size w w' := by
  have HW := Lib.hid (fun w => refRun_walk n0 n1 n2 n3 n4 n5 n6 n7 8 (by decide) [n0, n1, n2, n3, n4, n5, n6, n7] rfl (refGo8 n0 n1 n2 n3 n4 n5 n6 n7) w)
  generalize (runL [n0, n1, n2, n3, n4, n5, n6, n7]).1 = a at *
  generalize (runL [n0, n1, n2, n3, n4, n5, n6, n7]).2 = m at *
  go_enter Tryd.func28, Tryd.ntmps28
  go_wp2_with fail
  refine (HW.out _).mono ?_
  rintro e w1 ⟨rfl, hb⟩
  go_wp2_with fail
  go_returns
  exact ⟨rfl, ((Below.refl w.heap.size w).alloc (Nat.le_refl _) (.cells #[.int .u16 (n0 : Int), .int .u16 (n1 : Int), .int .u16 (n2 : Int), .int .u16 (n3 : Int), .int .u16 (n4 : Int), .int .u16 (n5 : Int), .int .u16 (n6 : Int), .int .u16 (n7 : Int)] 30)).trans (hb.mono (by simp))⟩
set_option maxHeartbeats 4000000 in
set_option maxRecDepth 100000 in
theorem refFull_walk (n0 n1 n2 n3 n4 n5 n6 n7 : Nat) (h0 : n0 ≤ 65535) (h1 : n1 ≤ 65535) (h2 : n2 ≤ 65535) (h3 : n3 ≤ 65535) (h4 : n4 ≤ 65535) (h5 : n5 ≤ 65535) (h6 : n6 ≤ 65535) (h7 : n7 ≤ 65535) (w : World) : Calls Tryd.prog 31 #[.agg #[.int .u16 (n0 : Int), .int .u16 (n1 : Int), .int .u16 (n2 : Int), .int .u16 (n3 : Int), .int .u16 (n4 : Int), .int .u16 (n5 : Int), .int .u16 (n6 : Int), .int .u16 (n7 : Int)]] w fun e w' => e = .returned (.string (BA (joinC ([n0, n1, n2, n3, n4, n5, n6, n7].map fullL)))) ∧ Below w.heap.size w w' := by
  have hK : WR8 w #[.int .u16 (n0 : Int), .int .u16 (n1 : Int), .int .u16 (n2 : Int), .int .u16 (n3 : Int), .int .u16 (n4 : Int), .int .u16 (n5 : Int), .int .u16 (n6 : Int), .int .u16 (n7 : Int)] (w.alloc (.cells #[.int .u16 (n0 : Int), .int .u16 (n1 : Int), .int .u16 (n2 : Int), .int .u16 (n3 : Int), .int .u16 (n4 : Int), .int .u16 (n5 : Int), .int .u16 (n6 : Int), .int .u16 (n7 : Int)] 30)) := ⟨blk_new _ _, (Below.refl _ _).alloc (Nat.le_refl _) _⟩
  have HH0 := Lib.hid (fun w => hex4_walk n0 h0 w)
  have hf0 := (fullL_pc h0).2.2
  obtain ⟨p0, ep0⟩ : ∃ p, p = fullL n0 := ⟨_, rfl⟩
  rw [← ep0] at HH0 hf0
  have HH1 := Lib.hid (fun w => hex4_walk n1 h1 w)
  have hf1 := (fullL_pc h1).2.2
  obtain ⟨p1, ep1⟩ : ∃ p, p = fullL n1 := ⟨_, rfl⟩
  rw [← ep1] at HH1 hf1
  have HH2 := Lib.hid (fun w => hex4_walk n2 h2 w)
  have hf2 := (fullL_pc h2).2.2
  obtain ⟨p2, ep2⟩ : ∃ p, p = fullL n2 := ⟨_, rfl⟩
  rw [← ep2] at HH2 hf2
  have HH3 := Lib.hid (fun w => hex4_walk n3 h3 w)
  have hf3 := (fullL_pc h3).2.2
  obtain ⟨p3, ep3⟩ : ∃ p, p = fullL n3 := ⟨_, rfl⟩
  rw [← ep3] at HH3 hf3
  have HH4 := Lib.hid (fun w => hex4_walk n4 h4 w)
  have hf4 := (fullL_pc h4).2.2
  obtain ⟨p4, ep4⟩ : ∃ p, p = fullL n4 := ⟨_, rfl⟩
  rw [← ep4] at HH4 hf4
  have HH5 := Lib.hid (fun w => hex4_walk n5 h5 w)
  have hf5 := (fullL_pc h5).2.2
  obtain ⟨p5, ep5⟩ : ∃ p, p = fullL n5 := ⟨_, rfl⟩
  rw [← ep5] at HH5 hf5
  have HH6 := Lib.hid (fun w => hex4_walk n6 h6 w)
  have hf6 := (fullL_pc h6).2.2
  obtain ⟨p6, ep6⟩ : ∃ p, p = fullL n6 := ⟨_, rfl⟩
  rw [← ep6] at HH6 hf6
  have HH7 := Lib.hid (fun w => hex4_walk n7 h7 w)
  have hf7 := (fullL_pc h7).2.2
  obtain ⟨p7, ep7⟩ : ∃ p, p = fullL n7 := ⟨_, rfl⟩
  rw [← ep7] at HH7 hf7
  have HP := Lib.hid (show joinC ([n0, n1, n2, n3, n4, n5, n6, n7].map fullL) = joinC [p0, p1, p2, p3, p4, p5, p6, p7] by rw [ep0, ep1, ep2, ep3, ep4, ep5, ep6, ep7]; rfl)
  clear ep0 ep1 ep2 ep3 ep4 ep5 ep6 ep7 h0 h1 h2 h3 h4 h5 h6 h7
  go_enter Tryd.func31, Tryd.ntmps31
  go_wp2_with fail
  generalize w.alloc (.cells #[.int .u16 (n0 : Int), .int .u16 (n1 : Int), .int .u16 (n2 : Int), .int .u16 (n3 : Int), .int .u16 (n4 : Int), .int .u16 (n5 : Int), .int .u16 (n6 : Int), .int .u16 (n7 : Int)] 30) = W0 at *
  have HK := Lib.hid hK
  clear hK
  refine wp_loop_rounds 9 ?_
  rw [rounds_succ]
  have hlt : w.heap.size < W0.heap.size := blk_lt HK.out.k
  have c : W0.cell? ⟨w.heap.size, 0, none⟩ = some (.int .u16 (n0 : Int)) := (blk_cell HK.out.k 0).trans rfl
  have hsz : (BA p0).size ≤ 9223372036854775807 := by rw [ba_size, hf0]; decide
  have HS := Lib.hid hsz
  clear hsz
  go_wp2_with fail
  refine (HH0.out _).mono ?_
  rintro e W1 ⟨rfl, hb⟩
  have HK := Lib.hid (HK.out.keep hb)
  have hsz := HS.out
  clear hb c hlt HS
  go_wp2_with fail
  clear hsz
  have E : (⟨#[]⟩ : ByteArray) ++ BA p0 = BA p0 := ba_join [] p0
  try rw [E]
  obtain ⟨O1, eO1⟩ : ∃ O, O = BA p0 := ⟨_, rfl⟩
  rw [← eO1]
  have hO1 : O1.size ≤ 10 := by rw [eO1, ba_size, hf0]; decide
  have EO1 := Lib.hid eO1
  clear E eO1
  rw [rounds_succ]
  have hlt : w.heap.size < W1.heap.size := blk_lt HK.out.k
  have c : W1.cell? ⟨w.heap.size, 1, none⟩ = some (.int .u16 (n1 : Int)) := (blk_cell HK.out.k 1).trans rfl
  have hsz : O1.size + 1 + (BA p1).size ≤ 9223372036854775807 := by rw [ba_size, hf1]; omega
  have HS := Lib.hid hsz
  clear hsz
  go_wp2_with fail
  refine (HH1.out _).mono ?_
  rintro e W2 ⟨rfl, hb⟩
  have HK := Lib.hid (HK.out.keep hb)
  have hsz := HS.out
  clear hb c hlt HS
  go_wp2_with fail
  clear hsz
  obtain ⟨O2, eO2⟩ : ∃ O, O = O1 ++ ⟨#[58]⟩ ++ BA p1 := ⟨_, rfl⟩
  rw [← eO2]
  have hO2 : O2.size ≤ 20 := by rw [eO2, ByteArray.size_append, ByteArray.size_append, ba_size, hf1]; show O1.size + 1 + 4 ≤ _; omega
  have EO2 := Lib.hid eO2
  clear eO2
  rw [rounds_succ]
  have hlt : w.heap.size < W2.heap.size := blk_lt HK.out.k
  have c : W2.cell? ⟨w.heap.size, 2, none⟩ = some (.int .u16 (n2 : Int)) := (blk_cell HK.out.k 2).trans rfl
  have hsz : O2.size + 1 + (BA p2).size ≤ 9223372036854775807 := by rw [ba_size, hf2]; omega
  have HS := Lib.hid hsz
  clear hsz
  go_wp2_with fail
  refine (HH2.out _).mono ?_
  rintro e W3 ⟨rfl, hb⟩
  have HK := Lib.hid (HK.out.keep hb)
  have hsz := HS.out
  clear hb c hlt HS
  go_wp2_with fail
  clear hsz
  obtain ⟨O3, eO3⟩ : ∃ O, O = O2 ++ ⟨#[58]⟩ ++ BA p2 := ⟨_, rfl⟩
  rw [← eO3]
  have hO3 : O3.size ≤ 30 := by rw [eO3, ByteArray.size_append, ByteArray.size_append, ba_size, hf2]; show O2.size + 1 + 4 ≤ _; omega
  have EO3 := Lib.hid eO3
  clear eO3
  rw [rounds_succ]
  have hlt : w.heap.size < W3.heap.size := blk_lt HK.out.k
  have c : W3.cell? ⟨w.heap.size, 3, none⟩ = some (.int .u16 (n3 : Int)) := (blk_cell HK.out.k 3).trans rfl
  have hsz : O3.size + 1 + (BA p3).size ≤ 9223372036854775807 := by rw [ba_size, hf3]; omega
  have HS := Lib.hid hsz
  clear hsz
  go_wp2_with fail
  refine (HH3.out _).mono ?_
  rintro e W4 ⟨rfl, hb⟩
  have HK := Lib.hid (HK.out.keep hb)
  have hsz := HS.out
  clear hb c hlt HS
  go_wp2_with fail
  clear hsz
  obtain ⟨O4, eO4⟩ : ∃ O, O = O3 ++ ⟨#[58]⟩ ++ BA p3 := ⟨_, rfl⟩
  rw [← eO4]
  have hO4 : O4.size ≤ 40 := by rw [eO4, ByteArray.size_append, ByteArray.size_append, ba_size, hf3]; show O3.size + 1 + 4 ≤ _; omega
  have EO4 := Lib.hid eO4
  clear eO4
  rw [rounds_succ]
  have hlt : w.heap.size < W4.heap.size := blk_lt HK.out.k
  have c : W4.cell? ⟨w.heap.size, 4, none⟩ = some (.int .u16 (n4 : Int)) := (blk_cell HK.out.k 4).trans rfl
  have hsz : O4.size + 1 + (BA p4).size ≤ 9223372036854775807 := by rw [ba_size, hf4]; omega
  have HS := Lib.hid hsz
  clear hsz
  go_wp2_with fail
  refine (HH4.out _).mono ?_
  rintro e W5 ⟨rfl, hb⟩
  have HK := Lib.hid (HK.out.keep hb)
  have hsz := HS.out
  clear hb c hlt HS
  go_wp2_with fail
  clear hsz
  obtain ⟨O5, eO5⟩ : ∃ O, O = O4 ++ ⟨#[58]⟩ ++ BA p4 := ⟨_, rfl⟩
  rw [← eO5]
  have hO5 : O5.size ≤ 50 := by rw [eO5, ByteArray.size_append, ByteArray.size_append, ba_size, hf4]; show O4.size + 1 + 4 ≤ _; omega
  have EO5 := Lib.hid eO5
  clear eO5
  rw [rounds_succ]
  have hlt : w.heap.size < W5.heap.size := blk_lt HK.out.k
  have c : W5.cell? ⟨w.heap.size, 5, none⟩ = some (.int .u16 (n5 : Int)) := (blk_cell HK.out.k 5).trans rfl
  have hsz : O5.size + 1 + (BA p5).size ≤ 9223372036854775807 := by rw [ba_size, hf5]; omega
  have HS := Lib.hid hsz
  clear hsz
  go_wp2_with fail
  refine (HH5.out _).mono ?_
  rintro e W6 ⟨rfl, hb⟩
  have HK := Lib.hid (HK.out.keep hb)
  have hsz := HS.out
  clear hb c hlt HS
  go_wp2_with fail
  clear hsz
  obtain ⟨O6, eO6⟩ : ∃ O, O = O5 ++ ⟨#[58]⟩ ++ BA p5 := ⟨_, rfl⟩
  rw [← eO6]
  have hO6 : O6.size ≤ 60 := by rw [eO6, ByteArray.size_append, ByteArray.size_append, ba_size, hf5]; show O5.size + 1 + 4 ≤ _; omega
  have EO6 := Lib.hid eO6
  clear eO6
  rw [rounds_succ]
  have hlt : w.heap.size < W6.heap.size := blk_lt HK.out.k
  have c : W6.cell? ⟨w.heap.size, 6, none⟩ = some (.int .u16 (n6 : Int)) := (blk_cell HK.out.k 6).trans rfl
  have hsz : O6.size + 1 + (BA p6).size ≤ 9223372036854775807 := by rw [ba_size, hf6]; omega
  have HS := Lib.hid hsz
  clear hsz
  go_wp2_with fail
  refine (HH6.out _).mono ?_
  rintro e W7 ⟨rfl, hb⟩
  have HK := Lib.hid (HK.out.keep hb)
  have hsz := HS.out
  clear hb c hlt HS
  go_wp2_with fail
  clear hsz
  obtain ⟨O7, eO7⟩ : ∃ O, O = O6 ++ ⟨#[58]⟩ ++ BA p6 := ⟨_, rfl⟩
  rw [← eO7]
  have hO7 : O7.size ≤ 70 := by rw [eO7, ByteArray.size_append, ByteArray.size_append, ba_size, hf6]; show O6.size + 1 + 4 ≤ _; omega
  have EO7 := Lib.hid eO7
  clear eO7
  rw [rounds_succ]
  have hlt : w.heap.size < W7.heap.size := blk_lt HK.out.k
  have c : W7.cell? ⟨w.heap.size, 7, none⟩ = some (.int .u16 (n7 : Int)) := (blk_cell HK.out.k 7).trans rfl
  have hsz : O7.size + 1 + (BA p7).size ≤ 9223372036854775807 := by rw [ba_size, hf7]; omega
  have HS := Lib.hid hsz
  clear hsz
  go_wp2_with fail
  refine (HH7.out _).mono ?_
  rintro e W8 ⟨rfl, hb⟩
  have HK := Lib.hid (HK.out.keep hb)
  have hsz := HS.out
  clear hb c hlt HS
  go_wp2_with fail
  clear hsz
  obtain ⟨O8, eO8⟩ : ∃ O, O = O7 ++ ⟨#[58]⟩ ++ BA p7 := ⟨_, rfl⟩
  rw [← eO8]
  have hO8 : O8.size ≤ 80 := by rw [eO8, ByteArray.size_append, ByteArray.size_append, ba_size, hf7]; show O7.size + 1 + 4 ≤ _; omega
  have EO8 := Lib.hid eO8
  clear eO8
  rw [rounds_succ]
  go_wp2_with fail
  go_ret
  refine ⟨?_, HK.out.below⟩
  rw [HP.out]
  have e : O8 = BA (joinC [p0, p1, p2, p3, p4, p5, p6, p7]) := by
    rw [EO8.out, EO7.out, EO6.out, EO5.out, EO4.out, EO3.out, EO2.out, EO1.out]
    show BA p0 ++ BA [58] ++ BA p1 ++ BA [58] ++ BA p2 ++ BA [58] ++ BA p3 ++ BA [58] ++ BA p4 ++ BA [58] ++ BA p5 ++ BA [58] ++ BA p6 ++ BA [58] ++ BA p7 = _
    simp only [ba_join]
    congr 1
    simp [joinC]
  rw [← e]
  rfl
end Go.Proofs.YtcgdjnmfeibnoaaDoor
/-! SixRefMix -/
namespace Go.Proofs.YtcgdjnmfeibnoaaDoor
open Go.RowKit Go.Proofs.YtcgdjnmfeibnoaaDoorW.PrintWords
set_option linter.unusedVariables false
set_option linter.unusedSimpArgs false
theorem wr_mix (xs : List Nat) (q : List UInt8) : wrL true xs ++ q = mixL xs q := by
  unfold wrL mixL
  by_cases h : [58, 58] <:+ textL xs
  · rw [if_neg (fun q => q.2 h), if_pos h]
  · rw [if_pos ⟨rfl, h⟩, if_neg h]
theorem wr_short {xs : List Nat} (hl : xs.length ≤ 8) (hn : xs ≠ []) (h : ∀ x ∈ xs, x ≤ 65535) : (wrL true xs).length ≤ 101 := by
  have h4 : ∀ l : List Nat, (∀ x ∈ l, x ≤ 65535) → hsum l ≤ 4 * l.length := by
    intro l
    induction l with
    | nil => intro _; exact Nat.le_refl _
    | cons x l ih =>
      intro h
      have h1 := ih (fun y hy => h y (List.mem_cons_of_mem _ hy))
      have h2 := (hexL_pc (h x (by simp))).l4
      unfold hsum lsum at h1 ⊢
      simp only [List.map_cons, List.sum_cons, List.length_cons] at h1 ⊢
      omega
  have h1 := h4 xs h
  have ht : (textL xs).length ≤ 100 := by rcases textL_len xs hn with ⟨e, _⟩ | ⟨n, _, _, e | e⟩ <;> omega
  unfold wrL
  split
  · rw [List.length_append, List.length_singleton]; omega
  · omega
set_option maxHeartbeats 4000000 in
set_option maxRecDepth 100000 in
theorem refMixed_walk (n0 n1 n2 n3 n4 n5 n6 n7 : Nat) (h0 : n0 ≤ 65535) (h1 : n1 ≤ 65535) (h2 : n2 ≤ 65535) (h3 : n3 ≤ 65535) (h4 : n4 ≤ 65535) (h5 : n5 ≤ 65535) (h6 : n6 ≤ 65535) (h7 : n7 ≤ 65535) (w : World) : Calls Tryd.prog 33 #[.agg #[.int .u16 (n0 : Int), .int .u16 (n1 : Int), .int .u16 (n2 : Int), .int .u16 (n3 : Int), .int .u16 (n4 : Int), .int .u16 (n5 : Int), .int .u16 (n6 : Int), .int .u16 (n7 : Int)]] w fun e w' => e = .returned (.string (BA (mixL [n0, n1, n2, n3, n4, n5] (printV ((n6 : Int) * 65536 + n7))))) ∧ Below w.heap.size w w' := by
  have hW := fun w => refWritten6 n0 n1 n2 n3 n4 n5 n6 n7 h0 h1 h2 h3 h4 h5 h6 h7 w
  have hD1 := fun w => dec_walk (n6 / 256) (by omega) w
  have hD2 := fun w => dec_walk (n6 % 256) (by omega) w
  have hD3 := fun w => dec_walk (n7 / 256) (by omega) w
  have hD4 := fun w => dec_walk (n7 % 256) (by omega) w
  have hP : printV ((n6 : Int) * 65536 + n7) = dec3 (n6 / 256) ++ 46 :: (dec3 (n6 % 256) ++ 46 :: (dec3 (n7 / 256) ++ 46 :: dec3 (n7 % 256))) := by
    rw [printV_dec _ (by omega) (by omega)]
    rw [show (((n6 : Int) * 65536 + n7) / 16777216).toNat = n6 / 256 by omega, show (((n6 : Int) * 65536 + n7) / 65536 % 256).toNat = n6 % 256 by omega, show (((n6 : Int) * 65536 + n7) / 256 % 256).toNat = n7 / 256 by omega, show (((n6 : Int) * 65536 + n7) % 256).toNat = n7 % 256 by omega]
  have lA := wr_short (xs := [n0, n1, n2, n3, n4, n5]) (by simp) (by simp) (mem6 h0 h1 h2 h3 h4 h5)
  have l1 := (dec3_len (n6 / 256)).2
  have l2 := (dec3_len (n6 % 256)).2
  have l3 := (dec3_len (n7 / 256)).2
  have l4 := (dec3_len (n7 % 256)).2
  have hM := wr_mix [n0, n1, n2, n3, n4, n5] (printV ((n6 : Int) * 65536 + n7))
  rw [hP] at hM
  rw [show ((n6 / 256 : Nat) : Int) = (n6 : Int) / 256 by omega] at hD1
  rw [show ((n6 % 256 : Nat) : Int) = (n6 : Int) % 256 by omega] at hD2
  rw [show ((n7 / 256 : Nat) : Int) = (n7 : Int) / 256 by omega] at hD3
  rw [show ((n7 % 256 : Nat) : Int) = (n7 : Int) % 256 by omega] at hD4
  have hP2 := hP
  generalize wrL true [n0, n1, n2, n3, n4, n5] = T at *
  generalize dec3 (n6 / 256) = d1 at *
  generalize dec3 (n6 % 256) = d2 at *
  generalize dec3 (n7 / 256) = d3 at *
  generalize dec3 (n7 % 256) = d4 at *
  have HM := Lib.hid hM
  have HP := Lib.hid hP2
  have HW := Lib.hid hW
  have HD1 := Lib.hid hD1
  have HD2 := Lib.hid hD2
  have HD3 := Lib.hid hD3
  have HD4 := Lib.hid hD4
  have b0 : (BA T).size ≤ 101 := lA
  have b1 : (BA d1).size ≤ 3 := l1
  have b2 : (BA d2).size ≤ 3 := l2
  have b3 : (BA d3).size ≤ 3 := l3
  have b4 : (BA d4).size ≤ 3 := l4
  have s1 : (BA T).size + (BA d1).size ≤ 9223372036854775807 := by omega
  have s2 : (BA T).size + (BA d1).size + 1 ≤ 9223372036854775807 := by omega
  have s3 : (BA T).size + (BA d1).size + 1 + (BA d2).size ≤ 9223372036854775807 := by omega
  have s4 : (BA T).size + (BA d1).size + 1 + (BA d2).size + 1 ≤ 9223372036854775807 := by omega
  have s5 : (BA T).size + (BA d1).size + 1 + (BA d2).size + 1 + (BA d3).size ≤ 9223372036854775807 := by omega
  have s6 : (BA T).size + (BA d1).size + 1 + (BA d2).size + 1 + (BA d3).size + 1 ≤ 9223372036854775807 := by omega
  have s7 : (BA T).size + (BA d1).size + 1 + (BA d2).size + 1 + (BA d3).size + 1 + (BA d4).size ≤ 9223372036854775807 := by omega
  have e : BA T ++ BA d1 ++ BA [46] ++ BA d2 ++ BA [46] ++ BA d3 ++ BA [46] ++ BA d4 = BA (T ++ (d1 ++ 46 :: (d2 ++ 46 :: (d3 ++ 46 :: d4)))) := by
    simp only [ba_join]
    congr 1
    simp
  have HE := Lib.hid e
  have g6 : (0 : Int) ≤ n6 := by omega
  have g7 : (0 : Int) ≤ n7 := by omega
  have k6 : (n6 : Int) ≤ 65535 := by omega
  have k7 : (n7 : Int) ≤ 65535 := by omega
  have hK : WR8 w #[.int .u16 (n0 : Int), .int .u16 (n1 : Int), .int .u16 (n2 : Int), .int .u16 (n3 : Int), .int .u16 (n4 : Int), .int .u16 (n5 : Int), .int .u16 (n6 : Int), .int .u16 (n7 : Int)] (w.alloc (.cells #[.int .u16 (n0 : Int), .int .u16 (n1 : Int), .int .u16 (n2 : Int), .int .u16 (n3 : Int), .int .u16 (n4 : Int), .int .u16 (n5 : Int), .int .u16 (n6 : Int), .int .u16 (n7 : Int)] 30)) := ⟨blk_new _ _, (Below.refl _ _).alloc (Nat.le_refl _) _⟩
  clear hP hP2 hM hW hD1 hD2 hD3 hD4 lA l1 l2 l3 l4 b0 b1 b2 b3 b4 e
  go_enter Tryd.func33, Tryd.ntmps33
  go_upto_region 1 with fail
  generalize w.alloc (.cells #[.int .u16 (n0 : Int), .int .u16 (n1 : Int), .int .u16 (n2 : Int), .int .u16 (n3 : Int), .int .u16 (n4 : Int), .int .u16 (n5 : Int), .int .u16 (n6 : Int), .int .u16 (n7 : Int)] 30) = W0 at *
  have c0 : W0.cell? ⟨w.heap.size, 0, none⟩ = some (.int .u16 (n0 : Int)) := (blk_cell hK.k 0).trans rfl
  have c1 : W0.cell? ⟨w.heap.size, 1, none⟩ = some (.int .u16 (n1 : Int)) := (blk_cell hK.k 1).trans rfl
  have c2 : W0.cell? ⟨w.heap.size, 2, none⟩ = some (.int .u16 (n2 : Int)) := (blk_cell hK.k 2).trans rfl
  have c3 : W0.cell? ⟨w.heap.size, 3, none⟩ = some (.int .u16 (n3 : Int)) := (blk_cell hK.k 3).trans rfl
  have c4 : W0.cell? ⟨w.heap.size, 4, none⟩ = some (.int .u16 (n4 : Int)) := (blk_cell hK.k 4).trans rfl
  have c5 : W0.cell? ⟨w.heap.size, 5, none⟩ = some (.int .u16 (n5 : Int)) := (blk_cell hK.k 5).trans rfl
  have c6 : W0.cell? ⟨w.heap.size, 6, none⟩ = some (.int .u16 (n6 : Int)) := (blk_cell hK.k 6).trans rfl
  have c7 : W0.cell? ⟨w.heap.size, 7, none⟩ = some (.int .u16 (n7 : Int)) := (blk_cell hK.k 7).trans rfl
  have hlt : w.heap.size < W0.heap.size := blk_lt hK.k
  have HB := Lib.hid hK.below
  clear hK
  refine wp_region_ext (by kernel_rfl) (by kernel_rfl) ?_
  repeat (go_big_quiet_step (first | (with_reducible exact ext_of (HW.out _)) | (with_reducible exact ext_of (HD1.out _)) | (with_reducible exact ext_of (HD2.out _)) | (with_reducible exact ext_of (HD3.out _)) | (with_reducible exact ext_of (HD4.out _))))
  refine wpQuiet_nil ?_
  rintro W ⟨⟨_, hb⟩, rfl⟩
  go_wp2_with fail
  go_ret
  refine ⟨?_, below_step HB.out hb⟩
  rw [HP.out, ← HM.out, ← HE.out]
  rfl
end Go.Proofs.YtcgdjnmfeibnoaaDoor
/-! SixRevV -/
namespace Go.Proofs.YtcgdjnmfeibnoaaDoor
open Go.RowKit Go.Proofs.YtcgdjnmfeibnoaaDoorW.PrintWords
set_option linter.unusedVariables false
set_option linter.unusedSimpArgs false
/-- What is no colon, from behind, a stop behind each. -/
def revD (l : List UInt8) : List UInt8 := (l.reverse.filter (· != 58)).flatMap fun c => [c, 46]
theorem revD_cons (c : UInt8) (l : List UInt8) : revD (c :: l) = revD l ++ if c = 58 then [] else [c, 46] := by
  unfold revD
  rw [List.reverse_cons, List.filter_append, List.flatMap_append]
  by_cases h : c = 58
  · rw [if_pos h]; simp [h]
  · rw [if_neg h]; simp [h]
theorem revD_len (l : List UInt8) : (revD l).length ≤ 2 * l.length := by
  induction l with
  | nil => simp [revD]
  | cons c l ih =>
    rw [revD_cons, List.length_append, List.length_cons]
    split <;> simp <;> omega
theorem revD_filter (l : List UInt8) : revD (l.filter (· != 58)) = revD l := by
  unfold revD
  rw [← List.filter_reverse, List.filter_filter]
  simp
theorem index_58 (c : UInt8) (t : List UInt8) : Lib.index (c :: t) [58] = if c = 58 then 0 else if Lib.index t [58] = -1 then -1 else Lib.index t [58] + 1 := by
  rw [Lib.index]
  have e : ([58] : List UInt8).isPrefixOf (c :: t) = decide (c = 58) := by
    rw [Bool.eq_iff_iff]
    simp [List.isPrefixOf]
    exact ⟨fun h => h.symm, fun h => h.symm⟩
  rw [e]
  simp only [decide_eq_true_eq, beq_iff_eq]
theorem replaceK_58 : ∀ (s : List UInt8), Lib.replaceK [58] [] (s.count 58) s = s.filter (· != 58)
  | [] => rfl
  | c :: t => by
    have ih := replaceK_58 t
    by_cases h : c = 58
    · subst h
      rw [List.count_cons_self, Lib.replaceK_hit [58] [] _ _ 0 (by rw [index_58, if_pos rfl]; rfl)]
      simp only [List.take_zero, List.nil_append, Nat.zero_add, List.length_singleton, List.drop_succ_cons, List.drop_zero]
      rw [ih]
      simp
    · rw [List.count_cons_of_ne (fun e => h e), List.filter_cons, if_pos (by simp [h])]
      rcases Nat.eq_zero_or_pos (t.count 58) with h0 | h0
      · rw [h0] at ih ⊢
        show c :: t = _
        rw [← ih]
        rfl
      · obtain ⟨k, hk⟩ : ∃ k, t.count 58 = k + 1 := ⟨t.count 58 - 1, by omega⟩
        rw [hk] at ih ⊢
        obtain ⟨i, hi⟩ := Lib.index_of_count (s := t) (old := [58]) (by rw [Lib.count_one]; omega)
        rw [Lib.replaceK_hit [58] [] k t i hi] at ih
        rw [Lib.replaceK_hit [58] [] k (c :: t) (i + 1) (by rw [index_58, if_neg h, if_neg (by omega), hi]; rfl)]
        rw [← ih]
        simp
theorem replaceAll_58 (s : List UInt8) : Lib.replaceAll s [58] [] = s.filter (· != 58) := by
  unfold Lib.replaceAll Lib.replace Lib.replaceNum
  rw [if_neg (by decide), if_pos (.inl (by decide)), Lib.count_one]
  exact replaceK_58 s
end Go.Proofs.YtcgdjnmfeibnoaaDoor
/-! SixPrint -/
namespace Go.Proofs.YtcgdjnmfeibnoaaDoor
open Go.RowKit
set_option linter.unusedVariables false
set_option linter.unusedSimpArgs false
/-- The text of an address. -/
def printL (x0 x1 x2 x3 x4 x5 x6 x7 : Int) : List UInt8 := textL [x0.toNat, x1.toNat, x2.toNat, x3.toNat, x4.toNat, x5.toNat, x6.toNat, x7.toNat]
set_option maxHeartbeats 2000000 in
set_option maxRecDepth 100000 in
theorem print_walk (x0 x1 x2 x3 x4 x5 x6 x7 : Int) (h : R8 x0 x1 x2 x3 x4 x5 x6 x7) (w : World) :
    Calls Tryd.prog 17 #[A8 x0 x1 x2 x3 x4 x5 x6 x7] w fun e w' => e = .returned (.string ⟨(printL x0 x1 x2 x3 x4 x5 x6 x7).toArray⟩) ∧ Below w.heap.size w w' := by
  obtain ⟨⟨a0, b0⟩, ⟨a1, b1⟩, ⟨a2, b2⟩, ⟨a3, b3⟩, ⟨a4, b4⟩, ⟨a5, b5⟩, ⟨a6, b6⟩, ⟨a7, b7⟩⟩ := h
  obtain ⟨n0, rfl⟩ := Int.eq_ofNat_of_zero_le a0
  obtain ⟨n1, rfl⟩ := Int.eq_ofNat_of_zero_le a1
  obtain ⟨n2, rfl⟩ := Int.eq_ofNat_of_zero_le a2
  obtain ⟨n3, rfl⟩ := Int.eq_ofNat_of_zero_le a3
  obtain ⟨n4, rfl⟩ := Int.eq_ofNat_of_zero_le a4
  obtain ⟨n5, rfl⟩ := Int.eq_ofNat_of_zero_le a5
  obtain ⟨n6, rfl⟩ := Int.eq_ofNat_of_zero_le a6
  obtain ⟨n7, rfl⟩ := Int.eq_ofNat_of_zero_le a7
  have hT := text_walk [n0, n1, n2, n3, n4, n5, n6, n7] w.heap.size 8 (w.alloc (.cells #[.int .u16 n0, .int .u16 n1, .int .u16 n2, .int .u16 n3, .int .u16 n4, .int .u16 n5, .int .u16 n6, .int .u16 n7] 24))
    (by simp) (by simp) (by simp) (by
      intro x hx
      simp only [List.mem_cons, List.not_mem_nil, or_false] at hx
      omega)
    (by
      intro j hj
      have hb : (w.alloc (.cells #[.int .u16 n0, .int .u16 n1, .int .u16 n2, .int .u16 n3, .int .u16 n4, .int .u16 n5, .int .u16 n6, .int .u16 n7] 24)).heap[w.heap.size]? = some (.cells #[.int .u16 n0, .int .u16 n1, .int .u16 n2, .int .u16 n3, .int .u16 n4, .int .u16 n5, .int .u16 n6, .int .u16 n7] 24 (0, 0)) := heap_alloc_new w _
      rw [Lib.cell_of_heap hb]
      match j, hj with
      | 0, _ => rfl
      | 1, _ => rfl
      | 2, _ => rfl
      | 3, _ => rfl
      | 4, _ => rfl
      | 5, _ => rfl
      | 6, _ => rfl
      | 7, _ => rfl
      | j + 8, hj => exact absurd hj (by simp))
  have HT := Lib.hid hT
  clear hT
  go_enter Tryd.func17, Tryd.ntmps17
  go_wp2_with fail
  refine (HT.out).mono ?_
  rintro e w1 ⟨rfl, hb⟩
  go_wp2_with fail
  go_returns
  exact ⟨rfl, ((Below.refl _ _).alloc (Nat.le_refl _) _).trans (hb.mono (by simp))⟩
theorem revHex_one : revHex 1 = [49] := by rw [revHex_last (by decide)]; rfl
theorem text_one : textL [0, 0, 0, 0, 0, 0, 0, 1] = [58, 58, 49] := by
  unfold textL
  rw [show runL [0, 0, 0, 0, 0, 0, 0, 1] = (0, 7) from by decide]
  simp [textGo, textAt, hexL, revHex_one]
set_option maxHeartbeats 1000000 in
set_option maxRecDepth 100000 in
theorem awake_walk (w : World) : Calls Tryd.prog 12 #[] w fun e w' => e = .returned (.bool true) ∧ Below w.heap.size w w' := by
  go_enter Tryd.func12, Tryd.ntmps12
  go_wp2_with fail
  refine (print_walk 0 0 0 0 0 0 0 1 ⟨by decide, by decide, by decide, by decide, by decide, by decide, by decide, by decide⟩ _).mono ?_
  rintro e w1 ⟨rfl, hb⟩
  rw [show printL 0 0 0 0 0 0 0 1 = [58, 58, 49] from text_one]
  go_wp2_with fail
  go_returns
  exact ⟨rfl, hb⟩
end Go.Proofs.YtcgdjnmfeibnoaaDoor
/-! SixFull -/
namespace Go.Proofs.YtcgdjnmfeibnoaaDoor
open Go.RowKit Go.Proofs.YtcgdjnmfeibnoaaDoorW.PrintWords
set_option linter.unusedVariables false
set_option linter.unusedSimpArgs false
theorem repeat_48 (k : Nat) : Lib.repeatL [48] k = List.replicate k 48 := by
  induction k with
  | zero => rfl
  | succ k ih => rw [List.replicate_succ, ← ih]; rfl
/-- Noughts. -/
theorem noughts_walk (q : List UInt8) (hq : q.length ≤ 4) (w : World) : Calls Tryd.prog 69 #[.string ⟨#[48]⟩, .int .i64 (4 - (q.length : Int))] w fun e w' => e = .returned (.string (BA (List.replicate (4 - q.length) 48))) ∧ Below w.heap.size w w' := by
  rw [show (4 : Int) - (q.length : Int) = ((4 - q.length : Nat) : Int) by omega]
  refine (Tryd.strings_Repeat ⟨#[48]⟩ (4 - q.length) w (by omega) (by show 1 * _ ≤ _; omega)).mono fun e w' ⟨he, hb⟩ => ⟨?_, hb⟩
  rw [he]
  exact congrArg (fun l : List UInt8 => Ending.returned (.string (BA l))) (repeat_48 _)
theorem ba_app (a b : List UInt8) : BA a ++ (⟨b.toArray⟩ : ByteArray) = BA (a ++ b) := by
  unfold BA
  apply ByteArray.ext
  simp
theorem full_short {n0 n1 n2 n3 n4 n5 n6 n7 : Nat} (h0 : n0 ≤ 65535) (h1 : n1 ≤ 65535) (h2 : n2 ≤ 65535) (h3 : n3 ≤ 65535) (h4 : n4 ≤ 65535) (h5 : n5 ≤ 65535) (h6 : n6 ≤ 65535) (h7 : n7 ≤ 65535) : (joinC ([n0, n1, n2, n3, n4, n5, n6, n7].map fullL)).length ≤ 140737488355328 := by
  have hj := joinC_len ([n0, n1, n2, n3, n4, n5, n6, n7].map fullL)
  have hl : lsum ([n0, n1, n2, n3, n4, n5, n6, n7].map fullL) = 32 := by simp [lsum, (fullL_pc h0).2.2, (fullL_pc h1).2.2, (fullL_pc h2).2.2, (fullL_pc h3).2.2, (fullL_pc h4).2.2, (fullL_pc h5).2.2, (fullL_pc h6).2.2, (fullL_pc h7).2.2]
  rw [hl] at hj
  simp only [List.length_map, List.length_cons, List.length_nil] at hj
  omega
set_option maxHeartbeats 4000000 in
set_option maxRecDepth 100000 in
theorem full_walk (n0 n1 n2 n3 n4 n5 n6 n7 : Nat) (h0 : n0 ≤ 65535) (h1 : n1 ≤ 65535) (h2 : n2 ≤ 65535) (h3 : n3 ≤ 65535) (h4 : n4 ≤ 65535) (h5 : n5 ≤ 65535) (h6 : n6 ≤ 65535) (h7 : n7 ≤ 65535) (w : World) :
    Calls Tryd.prog 30 #[.agg #[.int .u16 (n0 : Int), .int .u16 (n1 : Int), .int .u16 (n2 : Int), .int .u16 (n3 : Int), .int .u16 (n4 : Int), .int .u16 (n5 : Int), .int .u16 (n6 : Int), .int .u16 (n7 : Int)]] w fun e w' => e = .returned (.string (BA (joinC ([n0, n1, n2, n3, n4, n5, n6, n7].map fullL)))) ∧ Below w.heap.size w w' := by
  have HH0 := Lib.hid (fun w => hex_walk n0 h0 w)
  have hq0 := (hexL_pc h0).l4
  have HF0 := Lib.hid (show fullL n0 = List.replicate (4 - (hexL n0).length) 48 ++ hexL n0 from rfl)
  generalize hexL n0 = q0 at HH0 hq0 HF0
  have HH1 := Lib.hid (fun w => hex_walk n1 h1 w)
  have hq1 := (hexL_pc h1).l4
  have HF1 := Lib.hid (show fullL n1 = List.replicate (4 - (hexL n1).length) 48 ++ hexL n1 from rfl)
  generalize hexL n1 = q1 at HH1 hq1 HF1
  have HH2 := Lib.hid (fun w => hex_walk n2 h2 w)
  have hq2 := (hexL_pc h2).l4
  have HF2 := Lib.hid (show fullL n2 = List.replicate (4 - (hexL n2).length) 48 ++ hexL n2 from rfl)
  generalize hexL n2 = q2 at HH2 hq2 HF2
  have HH3 := Lib.hid (fun w => hex_walk n3 h3 w)
  have hq3 := (hexL_pc h3).l4
  have HF3 := Lib.hid (show fullL n3 = List.replicate (4 - (hexL n3).length) 48 ++ hexL n3 from rfl)
  generalize hexL n3 = q3 at HH3 hq3 HF3
  have HH4 := Lib.hid (fun w => hex_walk n4 h4 w)
  have hq4 := (hexL_pc h4).l4
  have HF4 := Lib.hid (show fullL n4 = List.replicate (4 - (hexL n4).length) 48 ++ hexL n4 from rfl)
  generalize hexL n4 = q4 at HH4 hq4 HF4
  have HH5 := Lib.hid (fun w => hex_walk n5 h5 w)
  have hq5 := (hexL_pc h5).l4
  have HF5 := Lib.hid (show fullL n5 = List.replicate (4 - (hexL n5).length) 48 ++ hexL n5 from rfl)
  generalize hexL n5 = q5 at HH5 hq5 HF5
  have HH6 := Lib.hid (fun w => hex_walk n6 h6 w)
  have hq6 := (hexL_pc h6).l4
  have HF6 := Lib.hid (show fullL n6 = List.replicate (4 - (hexL n6).length) 48 ++ hexL n6 from rfl)
  generalize hexL n6 = q6 at HH6 hq6 HF6
  have HH7 := Lib.hid (fun w => hex_walk n7 h7 w)
  have hq7 := (hexL_pc h7).l4
  have HF7 := Lib.hid (show fullL n7 = List.replicate (4 - (hexL n7).length) 48 ++ hexL n7 from rfl)
  generalize hexL n7 = q7 at HH7 hq7 HF7
  go_enter Tryd.func30, Tryd.ntmps30
  go_wp2_with fail
  have i0 : ∀ w, (Instr.index 24 (.agg #[.int .u16 (n0 : Int), .int .u16 (n1 : Int), .int .u16 (n2 : Int), .int .u16 (n3 : Int), .int .u16 (n4 : Int), .int .u16 (n5 : Int), .int .u16 (n6 : Int), .int .u16 (n7 : Int)]) (.int .i64 0)).run Tryd.prog w = .ok (.int .u16 (n0 : Int)) w := fun _ => by kernel_rfl
  have i1 : ∀ w, (Instr.index 24 (.agg #[.int .u16 (n0 : Int), .int .u16 (n1 : Int), .int .u16 (n2 : Int), .int .u16 (n3 : Int), .int .u16 (n4 : Int), .int .u16 (n5 : Int), .int .u16 (n6 : Int), .int .u16 (n7 : Int)]) (.int .i64 1)).run Tryd.prog w = .ok (.int .u16 (n1 : Int)) w := fun _ => by kernel_rfl
  have i2 : ∀ w, (Instr.index 24 (.agg #[.int .u16 (n0 : Int), .int .u16 (n1 : Int), .int .u16 (n2 : Int), .int .u16 (n3 : Int), .int .u16 (n4 : Int), .int .u16 (n5 : Int), .int .u16 (n6 : Int), .int .u16 (n7 : Int)]) (.int .i64 2)).run Tryd.prog w = .ok (.int .u16 (n2 : Int)) w := fun _ => by kernel_rfl
  have i3 : ∀ w, (Instr.index 24 (.agg #[.int .u16 (n0 : Int), .int .u16 (n1 : Int), .int .u16 (n2 : Int), .int .u16 (n3 : Int), .int .u16 (n4 : Int), .int .u16 (n5 : Int), .int .u16 (n6 : Int), .int .u16 (n7 : Int)]) (.int .i64 3)).run Tryd.prog w = .ok (.int .u16 (n3 : Int)) w := fun _ => by kernel_rfl
  have i4 : ∀ w, (Instr.index 24 (.agg #[.int .u16 (n0 : Int), .int .u16 (n1 : Int), .int .u16 (n2 : Int), .int .u16 (n3 : Int), .int .u16 (n4 : Int), .int .u16 (n5 : Int), .int .u16 (n6 : Int), .int .u16 (n7 : Int)]) (.int .i64 4)).run Tryd.prog w = .ok (.int .u16 (n4 : Int)) w := fun _ => by kernel_rfl
  have i5 : ∀ w, (Instr.index 24 (.agg #[.int .u16 (n0 : Int), .int .u16 (n1 : Int), .int .u16 (n2 : Int), .int .u16 (n3 : Int), .int .u16 (n4 : Int), .int .u16 (n5 : Int), .int .u16 (n6 : Int), .int .u16 (n7 : Int)]) (.int .i64 5)).run Tryd.prog w = .ok (.int .u16 (n5 : Int)) w := fun _ => by kernel_rfl
  have i6 : ∀ w, (Instr.index 24 (.agg #[.int .u16 (n0 : Int), .int .u16 (n1 : Int), .int .u16 (n2 : Int), .int .u16 (n3 : Int), .int .u16 (n4 : Int), .int .u16 (n5 : Int), .int .u16 (n6 : Int), .int .u16 (n7 : Int)]) (.int .i64 6)).run Tryd.prog w = .ok (.int .u16 (n6 : Int)) w := fun _ => by kernel_rfl
  have i7 : ∀ w, (Instr.index 24 (.agg #[.int .u16 (n0 : Int), .int .u16 (n1 : Int), .int .u16 (n2 : Int), .int .u16 (n3 : Int), .int .u16 (n4 : Int), .int .u16 (n5 : Int), .int .u16 (n6 : Int), .int .u16 (n7 : Int)]) (.int .i64 7)).run Tryd.prog w = .ok (.int .u16 (n7 : Int)) w := fun _ => by kernel_rfl
  obtain ⟨i0_, hi, hz0, hz1, hz2⟩ := info_parts (show (Tryd.prog.info? 9).map (fun i => (i.zero, i.size, i.bytes)) = some (some (.string ⟨#[]⟩), 1, 16) by kernel_rfl)
  have B0 : Below w.heap.size w (w.alloc (.cells #[.int .u16 (n0 : Int), .int .u16 (n1 : Int), .int .u16 (n2 : Int), .int .u16 (n3 : Int), .int .u16 (n4 : Int), .int .u16 (n5 : Int), .int .u16 (n6 : Int), .int .u16 (n7 : Int)] 24)) := (Below.refl _ _).alloc (Nat.le_refl _) _
  have R0 : (w.alloc (.cells #[.int .u16 (n0 : Int), .int .u16 (n1 : Int), .int .u16 (n2 : Int), .int .u16 (n3 : Int), .int .u16 (n4 : Int), .int .u16 (n5 : Int), .int .u16 (n6 : Int), .int .u16 (n7 : Int)] 24)).ownsRow w.heap.size 9 1 (.slice none 0 0) 0 [] := ⟨by simp, .inl ⟨rfl, rfl⟩⟩
  generalize w.alloc (.cells #[.int .u16 (n0 : Int), .int .u16 (n1 : Int), .int .u16 (n2 : Int), .int .u16 (n3 : Int), .int .u16 (n4 : Int), .int .u16 (n5 : Int), .int .u16 (n6 : Int), .int .u16 (n7 : Int)] 24) = W0 at *
  refine wp_loop_rounds 9 ?_
  rw [rounds_succ]
  go_wp2_with (simp only [i0])
  refine (HH0.out _).mono ?_
  rintro e u0 ⟨rfl, hu0⟩
  have o0 := own_belowF R0 hu0
  have C0 := below_step B0 hu0
  clear R0 B0 hu0
  go_wp2_with fail
  refine (noughts_walk q0 hq0 _).mono ?_
  rintro e t0 ⟨rfl, ht0⟩
  replace o0 := own_belowF o0 ht0
  replace C0 := below_step C0 ht0
  have hs0 := C0.size
  have x0 : BA (List.replicate (4 - q0.length) 48) ++ (⟨q0.toArray⟩ : ByteArray) = BA (fullL n0) := by rw [ba_app, HF0.out]
  have y0 : (BA (List.replicate (4 - q0.length) 48)).size + q0.length ≤ 9223372036854775807 := by rw [ba_size, List.length_replicate]; omega
  clear ht0
  go_wp2_with (at_builtin; refine app_one rfl _ _ 70 rfl w.heap.size 9 i0_ (.string ⟨#[]⟩) 1 16 Tryd.underlying70 hi hz0 hz1 hz2 rfl (by decide) _ _ _ rfl o0 [.string (BA (fullL n0))] rfl rfl (by simp [Value.oneCell']) (by unfold maxLen; omega) (by omega) hs0 ?_; intro g1 cap1 v1 hg1 R1 hgrow1 hbel1)
  have B1 := hbel1 _ _ (Nat.le_refl _) C0
  clear o0 C0 hs0 hg1 hgrow1 hbel1 x0 y0
  rw [rounds_succ]
  go_wp2_with (simp only [i1])
  refine (HH1.out _).mono ?_
  rintro e u1 ⟨rfl, hu1⟩
  have o1 := own_belowF R1 hu1
  have C1 := below_step B1 hu1
  clear R1 B1 hu1
  go_wp2_with fail
  refine (noughts_walk q1 hq1 _).mono ?_
  rintro e t1 ⟨rfl, ht1⟩
  replace o1 := own_belowF o1 ht1
  replace C1 := below_step C1 ht1
  have hs1 := C1.size
  have x1 : BA (List.replicate (4 - q1.length) 48) ++ (⟨q1.toArray⟩ : ByteArray) = BA (fullL n1) := by rw [ba_app, HF1.out]
  have y1 : (BA (List.replicate (4 - q1.length) 48)).size + q1.length ≤ 9223372036854775807 := by rw [ba_size, List.length_replicate]; omega
  clear ht1
  go_wp2_with (at_builtin; refine app_one rfl _ _ 70 rfl w.heap.size 9 i0_ (.string ⟨#[]⟩) 1 16 Tryd.underlying70 hi hz0 hz1 hz2 rfl (by decide) _ _ _ rfl o1 [.string (BA (fullL n1))] rfl rfl (by simp [Value.oneCell']) (by unfold maxLen; omega) (by omega) hs1 ?_; intro g2 cap2 v2 hg2 R2 hgrow2 hbel2)
  have B2 := hbel2 _ _ (Nat.le_refl _) C1
  clear o1 C1 hs1 hg2 hgrow2 hbel2 x1 y1
  rw [rounds_succ]
  go_wp2_with (simp only [i2])
  refine (HH2.out _).mono ?_
  rintro e u2 ⟨rfl, hu2⟩
  have o2 := own_belowF R2 hu2
  have C2 := below_step B2 hu2
  clear R2 B2 hu2
  go_wp2_with fail
  refine (noughts_walk q2 hq2 _).mono ?_
  rintro e t2 ⟨rfl, ht2⟩
  replace o2 := own_belowF o2 ht2
  replace C2 := below_step C2 ht2
  have hs2 := C2.size
  have x2 : BA (List.replicate (4 - q2.length) 48) ++ (⟨q2.toArray⟩ : ByteArray) = BA (fullL n2) := by rw [ba_app, HF2.out]
  have y2 : (BA (List.replicate (4 - q2.length) 48)).size + q2.length ≤ 9223372036854775807 := by rw [ba_size, List.length_replicate]; omega
  clear ht2
  go_wp2_with (at_builtin; refine app_one rfl _ _ 70 rfl w.heap.size 9 i0_ (.string ⟨#[]⟩) 1 16 Tryd.underlying70 hi hz0 hz1 hz2 rfl (by decide) _ _ _ rfl o2 [.string (BA (fullL n2))] rfl rfl (by simp [Value.oneCell']) (by unfold maxLen; omega) (by omega) hs2 ?_; intro g3 cap3 v3 hg3 R3 hgrow3 hbel3)
  have B3 := hbel3 _ _ (Nat.le_refl _) C2
  clear o2 C2 hs2 hg3 hgrow3 hbel3 x2 y2
  rw [rounds_succ]
  go_wp2_with (simp only [i3])
  refine (HH3.out _).mono ?_
  rintro e u3 ⟨rfl, hu3⟩
  have o3 := own_belowF R3 hu3
  have C3 := below_step B3 hu3
  clear R3 B3 hu3
  go_wp2_with fail
  refine (noughts_walk q3 hq3 _).mono ?_
  rintro e t3 ⟨rfl, ht3⟩
  replace o3 := own_belowF o3 ht3
  replace C3 := below_step C3 ht3
  have hs3 := C3.size
  have x3 : BA (List.replicate (4 - q3.length) 48) ++ (⟨q3.toArray⟩ : ByteArray) = BA (fullL n3) := by rw [ba_app, HF3.out]
  have y3 : (BA (List.replicate (4 - q3.length) 48)).size + q3.length ≤ 9223372036854775807 := by rw [ba_size, List.length_replicate]; omega
  clear ht3
  go_wp2_with (at_builtin; refine app_one rfl _ _ 70 rfl w.heap.size 9 i0_ (.string ⟨#[]⟩) 1 16 Tryd.underlying70 hi hz0 hz1 hz2 rfl (by decide) _ _ _ rfl o3 [.string (BA (fullL n3))] rfl rfl (by simp [Value.oneCell']) (by unfold maxLen; omega) (by omega) hs3 ?_; intro g4 cap4 v4 hg4 R4 hgrow4 hbel4)
  have B4 := hbel4 _ _ (Nat.le_refl _) C3
  clear o3 C3 hs3 hg4 hgrow4 hbel4 x3 y3
  rw [rounds_succ]
  go_wp2_with (simp only [i4])
  refine (HH4.out _).mono ?_
  rintro e u4 ⟨rfl, hu4⟩
  have o4 := own_belowF R4 hu4
  have C4 := below_step B4 hu4
  clear R4 B4 hu4
  go_wp2_with fail
  refine (noughts_walk q4 hq4 _).mono ?_
  rintro e t4 ⟨rfl, ht4⟩
  replace o4 := own_belowF o4 ht4
  replace C4 := below_step C4 ht4
  have hs4 := C4.size
  have x4 : BA (List.replicate (4 - q4.length) 48) ++ (⟨q4.toArray⟩ : ByteArray) = BA (fullL n4) := by rw [ba_app, HF4.out]
  have y4 : (BA (List.replicate (4 - q4.length) 48)).size + q4.length ≤ 9223372036854775807 := by rw [ba_size, List.length_replicate]; omega
  clear ht4
  go_wp2_with (at_builtin; refine app_one rfl _ _ 70 rfl w.heap.size 9 i0_ (.string ⟨#[]⟩) 1 16 Tryd.underlying70 hi hz0 hz1 hz2 rfl (by decide) _ _ _ rfl o4 [.string (BA (fullL n4))] rfl rfl (by simp [Value.oneCell']) (by unfold maxLen; omega) (by omega) hs4 ?_; intro g5 cap5 v5 hg5 R5 hgrow5 hbel5)
  have B5 := hbel5 _ _ (Nat.le_refl _) C4
  clear o4 C4 hs4 hg5 hgrow5 hbel5 x4 y4
  rw [rounds_succ]
  go_wp2_with (simp only [i5])
  refine (HH5.out _).mono ?_
  rintro e u5 ⟨rfl, hu5⟩
  have o5 := own_belowF R5 hu5
  have C5 := below_step B5 hu5
  clear R5 B5 hu5
  go_wp2_with fail
  refine (noughts_walk q5 hq5 _).mono ?_
  rintro e t5 ⟨rfl, ht5⟩
  replace o5 := own_belowF o5 ht5
  replace C5 := below_step C5 ht5
  have hs5 := C5.size
  have x5 : BA (List.replicate (4 - q5.length) 48) ++ (⟨q5.toArray⟩ : ByteArray) = BA (fullL n5) := by rw [ba_app, HF5.out]
  have y5 : (BA (List.replicate (4 - q5.length) 48)).size + q5.length ≤ 9223372036854775807 := by rw [ba_size, List.length_replicate]; omega
  clear ht5
  go_wp2_with (at_builtin; refine app_one rfl _ _ 70 rfl w.heap.size 9 i0_ (.string ⟨#[]⟩) 1 16 Tryd.underlying70 hi hz0 hz1 hz2 rfl (by decide) _ _ _ rfl o5 [.string (BA (fullL n5))] rfl rfl (by simp [Value.oneCell']) (by unfold maxLen; omega) (by omega) hs5 ?_; intro g6 cap6 v6 hg6 R6 hgrow6 hbel6)
  have B6 := hbel6 _ _ (Nat.le_refl _) C5
  clear o5 C5 hs5 hg6 hgrow6 hbel6 x5 y5
  rw [rounds_succ]
  go_wp2_with (simp only [i6])
  refine (HH6.out _).mono ?_
  rintro e u6 ⟨rfl, hu6⟩
  have o6 := own_belowF R6 hu6
  have C6 := below_step B6 hu6
  clear R6 B6 hu6
  go_wp2_with fail
  refine (noughts_walk q6 hq6 _).mono ?_
  rintro e t6 ⟨rfl, ht6⟩
  replace o6 := own_belowF o6 ht6
  replace C6 := below_step C6 ht6
  have hs6 := C6.size
  have x6 : BA (List.replicate (4 - q6.length) 48) ++ (⟨q6.toArray⟩ : ByteArray) = BA (fullL n6) := by rw [ba_app, HF6.out]
  have y6 : (BA (List.replicate (4 - q6.length) 48)).size + q6.length ≤ 9223372036854775807 := by rw [ba_size, List.length_replicate]; omega
  clear ht6
  go_wp2_with (at_builtin; refine app_one rfl _ _ 70 rfl w.heap.size 9 i0_ (.string ⟨#[]⟩) 1 16 Tryd.underlying70 hi hz0 hz1 hz2 rfl (by decide) _ _ _ rfl o6 [.string (BA (fullL n6))] rfl rfl (by simp [Value.oneCell']) (by unfold maxLen; omega) (by omega) hs6 ?_; intro g7 cap7 v7 hg7 R7 hgrow7 hbel7)
  have B7 := hbel7 _ _ (Nat.le_refl _) C6
  clear o6 C6 hs6 hg7 hgrow7 hbel7 x6 y6
  rw [rounds_succ]
  go_wp2_with (simp only [i7])
  refine (HH7.out _).mono ?_
  rintro e u7 ⟨rfl, hu7⟩
  have o7 := own_belowF R7 hu7
  have C7 := below_step B7 hu7
  clear R7 B7 hu7
  go_wp2_with fail
  refine (noughts_walk q7 hq7 _).mono ?_
  rintro e t7 ⟨rfl, ht7⟩
  replace o7 := own_belowF o7 ht7
  replace C7 := below_step C7 ht7
  have hs7 := C7.size
  have x7 : BA (List.replicate (4 - q7.length) 48) ++ (⟨q7.toArray⟩ : ByteArray) = BA (fullL n7) := by rw [ba_app, HF7.out]
  have y7 : (BA (List.replicate (4 - q7.length) 48)).size + q7.length ≤ 9223372036854775807 := by rw [ba_size, List.length_replicate]; omega
  clear ht7
  go_wp2_with (at_builtin; refine app_one rfl _ _ 70 rfl w.heap.size 9 i0_ (.string ⟨#[]⟩) 1 16 Tryd.underlying70 hi hz0 hz1 hz2 rfl (by decide) _ _ _ rfl o7 [.string (BA (fullL n7))] rfl rfl (by simp [Value.oneCell']) (by unfold maxLen; omega) (by omega) hs7 ?_; intro g8 cap8 v8 hg8 R8 hgrow8 hbel8)
  have B8 := hbel8 _ _ (Nat.le_refl _) C7
  clear o7 C7 hs7 hg8 hgrow8 hbel8 x7 y7
  rw [rounds_succ]
  go_wp2_with fail
  have KR := kd_strings (xs := [BA (fullL n0), BA (fullL n1), BA (fullL n2), BA (fullL n3), BA (fullL n4), BA (fullL n5), BA (fullL n6), BA (fullL n7)]) R8
  obtain ⟨A, c, hv, hle, hC⟩ := Kd.R_reads KR
  injection hv with e1 _ e3
  subst e1 e3
  refine (strings_Join.calls _ cap8 _ (BA [58]) (BA (joinC ([n0, n1, n2, n3, n4, n5, n6, n7].map fullL))) _ hC hle ?_).mono ?_
  · unfold strings_Join.f
    have hl : (Lib.join ([BA (fullL n0), BA (fullL n1), BA (fullL n2), BA (fullL n3), BA (fullL n4), BA (fullL n5), BA (fullL n6), BA (fullL n7)].map (·.data.toList)) (BA [58]).data.toList) = joinC ([n0, n1, n2, n3, n4, n5, n6, n7].map fullL) := by simp [Lib.join, List.intercalate, ba_list, joinC]
    rw [hl, if_pos ⟨by simp, full_short h0 h1 h2 h3 h4 h5 h6 h7⟩]
    rfl
  rintro e w9 ⟨rfl, hb9⟩
  have B9 := below_step B8 hb9
  go_wp2_with fail
  go_ret
  exact ⟨rfl, B9⟩
end Go.Proofs.YtcgdjnmfeibnoaaDoor
/-! SixRev -/
namespace Go.Proofs.YtcgdjnmfeibnoaaDoor
open Go.RowKit Go.Proofs.YtcgdjnmfeibnoaaDoorW.PrintWords
set_option linter.unusedVariables false
set_option linter.unusedSimpArgs false
/-- What stands behind all. -/
def arpa : List UInt8 := [105, 112, 54, 46, 97, 114, 112, 97]
theorem index_at (D : List UInt8) (m : Nat) (hm : m < D.length) (W : World) : (Instr.index 9 (.string (BA D)) (.int .i64 (m : Int))).run Tryd.prog W = .ok (.int .u8 (((D[m]'hm).toNat : Nat) : Int)) W := by
  have hs : (BA D).size = D.length := ba_size D
  have hg : ∀ h, (BA D)[((m : Nat) : Int).toNat]'h = D[m]'hm := by
    intro h
    show D.toArray[((m : Nat) : Int).toNat]'h = D[m]'hm
    simp
  rw [run_index_string _ _ _ _ _ Tryd.underlying9, dif_pos ⟨by omega, by rw [hs]; omega⟩, hg]
def RevRel2 (D : List UInt8) (W1 : World) (b : Nat) (v : Value) (W : World) : Prop :=
  ∃ (k : Nat) (i : Int), k ≤ D.length ∧ v = .int .i64 i ∧ i = (k : Int) - 1 ∧ IsB b b (Lib.byteCells (revD (D.drop k))) W ∧ Below b W1 W
theorem full_replace (F : List UInt8) (hF : F.length ≤ 100) (w : World) (hG : GW w) : Calls Tryd.prog 76 #[.string (BA F), .string ⟨#[58]⟩, .string ⟨#[]⟩] w fun e w' => e = .returned (.string (BA (F.filter (· != 58)))) ∧ Below w.heap.size w w' := by
  obtain ⟨m, hm⟩ := hG.maxLen
  have hc := Lib.countB_le ⟨#[58]⟩ (by decide) (BA F).size (BA F) (Nat.le_refl _)
  have h := Tryd.strings_ReplaceAll (BA F) ⟨#[58]⟩ ⟨#[]⟩ m w (by rw [ba_size]; omega) hm (by decide) (by rw [ba_size] at hc ⊢; show F.length + _ * 0 ≤ _; omega)
  refine h.mono fun e w' ⟨he, hb⟩ => ⟨?_, hb⟩
  rw [he]
  exact congrArg (fun l : List UInt8 => Ending.returned (.string (BA l))) (replaceAll_58 F)
set_option maxHeartbeats 4000000 in
set_option maxRecDepth 100000 in
theorem reverse_walk (n0 n1 n2 n3 n4 n5 n6 n7 : Nat) (h0 : n0 ≤ 65535) (h1 : n1 ≤ 65535) (h2 : n2 ≤ 65535) (h3 : n3 ≤ 65535) (h4 : n4 ≤ 65535) (h5 : n5 ≤ 65535) (h6 : n6 ≤ 65535) (h7 : n7 ≤ 65535) (w : World) (hG : GW w) : Calls Tryd.prog 34 #[.agg #[.int .u16 (n0 : Int), .int .u16 (n1 : Int), .int .u16 (n2 : Int), .int .u16 (n3 : Int), .int .u16 (n4 : Int), .int .u16 (n5 : Int), .int .u16 (n6 : Int), .int .u16 (n7 : Int)]] w fun e w' => e = .returned (.string (BA (revD (joinC ([n0, n1, n2, n3, n4, n5, n6, n7].map fullL)) ++ arpa))) ∧ Below w.heap.size w w' := by
  have hF := fun w => full_walk n0 n1 n2 n3 n4 n5 n6 n7 h0 h1 h2 h3 h4 h5 h6 h7 w
  have hFl : (joinC ([n0, n1, n2, n3, n4, n5, n6, n7].map fullL)).length ≤ 100 := by
    have hj := joinC_len ([n0, n1, n2, n3, n4, n5, n6, n7].map fullL)
    have hl : lsum ([n0, n1, n2, n3, n4, n5, n6, n7].map fullL) = 32 := by simp [lsum, (fullL_pc h0).2.2, (fullL_pc h1).2.2, (fullL_pc h2).2.2, (fullL_pc h3).2.2, (fullL_pc h4).2.2, (fullL_pc h5).2.2, (fullL_pc h6).2.2, (fullL_pc h7).2.2]
    rw [hl] at hj
    simp only [List.length_map, List.length_cons, List.length_nil] at hj
    omega
  have hFn : (joinC ([n0, n1, n2, n3, n4, n5, n6, n7].map fullL)).filter (· != 58) ≠ [] := by
    intro e
    have hp := (fullL_pc h0).1
    obtain ⟨c, r, ec⟩ : ∃ c r, fullL n0 = c :: r := by
      cases e0 : fullL n0 with
      | nil => have := hp.l1; rw [e0] at this; simp at this
      | cons c r => exact ⟨c, r, rfl⟩
    have hc : c ≠ 58 := fun q => hp.no58 (by rw [ec, q]; simp)
    rw [List.map_cons, joinC_cons, ec, List.cons_append, List.filter_cons, if_pos (by simp [hc])] at e
    cases e
  have hR := fun w hG => full_replace _ hFl w hG
  rw [← revD_filter (joinC ([n0, n1, n2, n3, n4, n5, n6, n7].map fullL))]
  have hDl : ((joinC ([n0, n1, n2, n3, n4, n5, n6, n7].map fullL)).filter (· != 58)).length ≤ 100 := Nat.le_trans (List.length_filter_le _ _) hFl
  have hno : ∀ x ∈ (joinC ([n0, n1, n2, n3, n4, n5, n6, n7].map fullL)).filter (· != 58), x ≠ 58 := fun x hx => by simpa using (List.mem_filter.1 hx).2
  generalize joinC ([n0, n1, n2, n3, n4, n5, n6, n7].map fullL) = F at *
  generalize F.filter (· != 58) = D at *
  have hK : WR8 w #[.int .u16 (n0 : Int), .int .u16 (n1 : Int), .int .u16 (n2 : Int), .int .u16 (n3 : Int), .int .u16 (n4 : Int), .int .u16 (n5 : Int), .int .u16 (n6 : Int), .int .u16 (n7 : Int)] (w.alloc (.cells #[.int .u16 (n0 : Int), .int .u16 (n1 : Int), .int .u16 (n2 : Int), .int .u16 (n3 : Int), .int .u16 (n4 : Int), .int .u16 (n5 : Int), .int .u16 (n6 : Int), .int .u16 (n7 : Int)] 24)) → True := fun _ => trivial
  have hk : (w.alloc (.cells #[.int .u16 (n0 : Int), .int .u16 (n1 : Int), .int .u16 (n2 : Int), .int .u16 (n3 : Int), .int .u16 (n4 : Int), .int .u16 (n5 : Int), .int .u16 (n6 : Int), .int .u16 (n7 : Int)] 24)).heap[w.heap.size]? = some (.cells #[.int .u16 (n0 : Int), .int .u16 (n1 : Int), .int .u16 (n2 : Int), .int .u16 (n3 : Int), .int .u16 (n4 : Int), .int .u16 (n5 : Int), .int .u16 (n6 : Int), .int .u16 (n7 : Int)] 24 (0, 0)) := blk_new _ _
  have B0 : Below w.heap.size w (w.alloc (.cells #[.int .u16 (n0 : Int), .int .u16 (n1 : Int), .int .u16 (n2 : Int), .int .u16 (n3 : Int), .int .u16 (n4 : Int), .int .u16 (n5 : Int), .int .u16 (n6 : Int), .int .u16 (n7 : Int)] 24)) := (Below.refl _ _).alloc (Nat.le_refl _) _
  have HF := Lib.hid hF
  have HR := Lib.hid hR
  have HG := Lib.hid hG
  have HN := Lib.hid hno
  have HFN := Lib.hid hFn
  have hsz : (BA D).size ≤ 100 := hDl
  have HL := Lib.hid (ba_size D)
  clear hF hR hFl hK hG hno hFn h0 h1 h2 h3 h4 h5 h6 h7
  go_enter Tryd.func34, Tryd.ntmps34
  go_upto_region 1 with fail
  generalize w.alloc (.cells #[.int .u16 (n0 : Int), .int .u16 (n1 : Int), .int .u16 (n2 : Int), .int .u16 (n3 : Int), .int .u16 (n4 : Int), .int .u16 (n5 : Int), .int .u16 (n6 : Int), .int .u16 (n7 : Int)] 24) = W0 at *
  have c0 : W0.cell? ⟨w.heap.size, 0, none⟩ = some (.int .u16 (n0 : Int)) := (blk_cell hk 0).trans rfl
  have c1 : W0.cell? ⟨w.heap.size, 1, none⟩ = some (.int .u16 (n1 : Int)) := (blk_cell hk 1).trans rfl
  have c2 : W0.cell? ⟨w.heap.size, 2, none⟩ = some (.int .u16 (n2 : Int)) := (blk_cell hk 2).trans rfl
  have c3 : W0.cell? ⟨w.heap.size, 3, none⟩ = some (.int .u16 (n3 : Int)) := (blk_cell hk 3).trans rfl
  have c4 : W0.cell? ⟨w.heap.size, 4, none⟩ = some (.int .u16 (n4 : Int)) := (blk_cell hk 4).trans rfl
  have c5 : W0.cell? ⟨w.heap.size, 5, none⟩ = some (.int .u16 (n5 : Int)) := (blk_cell hk 5).trans rfl
  have c6 : W0.cell? ⟨w.heap.size, 6, none⟩ = some (.int .u16 (n6 : Int)) := (blk_cell hk 6).trans rfl
  have c7 : W0.cell? ⟨w.heap.size, 7, none⟩ = some (.int .u16 (n7 : Int)) := (blk_cell hk 7).trans rfl
  have hlt : w.heap.size < W0.heap.size := blk_lt hk
  clear hk
  go_wp2_with fail
  refine (HF.out _).mono ?_
  rintro e w1 ⟨rfl, hb1⟩
  have B1 := below_step B0 hb1
  clear hb1 c0 c1 c2 c3 c4 c5 c6 c7 hlt B0
  go_wp2_with fail
  refine (HR.out _ (HG.out.keep B1)).mono ?_
  rintro e w2 ⟨rfl, hb2⟩
  have B2 := below_step B1 hb2
  clear hb2 B1 HF HR
  generalize hS : BA D = S at *
  have HS := Lib.hid hS
  clear hS
  go_wp2_with fail
  go_loopw [5] (fun v W => RevRel2 D w2 w2.heap.size v W) (fun v _ => (intOf v + 1).toNat)
  case atStart =>
    refine ⟨D.length, _, Nat.le_refl _, rfl, ?_, ?_, (Below.refl _ _).alloc (Nat.le_refl _) _⟩
    · rw [HL.out]
    · rw [List.drop_length]
      exact Lib.fresh_isBuilder _ _ _
  case round =>
    obtain ⟨k, i, hk, rfl, hi, hB, hbl⟩ := hrel
    by_cases h0 : 0 ≤ i
    · obtain ⟨m, rfl⟩ := Int.eq_ofNat_of_zero_le h0
      obtain rfl : k = m + 1 := by omega
      have hix := index_at D m (by omega)
      rw [HS.out] at hix
      have hne := HN.out _ (List.getElem_mem (show m < D.length by omega))
      have hrv : revD (D.drop m) = revD (D.drop (m + 1)) ++ [D[m], 46] := by
        rw [List.drop_eq_getElem_cons (by omega), revD_cons, if_neg hne]
      have hln := revD_len (D.drop (m + 1))
      rw [List.length_drop] at hln
      have hlc : (Lib.byteCells (revD (D.drop (m + 1)))).length ≤ 1000 := by rw [Lib.byteCells_length]; omega
      have HRV := Lib.hid hrv
      have hwl := hbl.size
      clear hi hrv hne h0
      generalize D[m] = c at *
      go_wp2_with fail
      refine (writeByte_walk w2.heap.size w2.heap.size _ ((c.toNat : Nat) : Int) _ hB (by omega) hwl).mono ?_
      rintro e w3 ⟨rfl, hA3, hb3⟩
      have hw3 := Nat.le_trans hwl hb3.size
      clear hix
      go_wp2_with fail
      refine (writeByte_walk w2.heap.size w2.heap.size _ 46 _ (.inr hA3) (by rw [List.length_append, List.length_singleton]; omega) hw3).mono ?_
      rintro e w4 ⟨rfl, hA4, hb4⟩
      go_wp2_with fail
      refine ⟨⟨m, (m : Int) - 1, by omega, rfl, rfl, ?_, (hbl.trans hb3).trans hb4⟩, by show ((m : Int) - 1 + 1).toNat < ((m : Int) + 1).toNat; omega⟩
      rw [HRV.out]
      refine .inr ?_
      have e2 : Lib.byteCells (revD (D.drop (m + 1)) ++ [c, 46]) = Lib.byteCells (revD (D.drop (m + 1))) ++ [.int .u8 (c.toNat : Int)] ++ [.int .u8 46] := by simp [Lib.byteCells]
      rw [e2]
      exact hA4
    · obtain rfl : k = 0 := by omega
      rw [List.drop_zero] at hB
      have hne : revD D ≠ [] := by
        have h1 := HFN.out
        have h2 := HN.out
        clear hB HL hsz hk hDl
        cases D with
        | nil => exact absurd rfl h1
        | cons c l =>
          rw [revD_cons, if_neg (h2 c (by simp))]
          simp
      have hsz2 : (⟨(revD D).toArray⟩ : ByteArray).size + 8 ≤ 9223372036854775807 := by
        have := revD_len D
        show (revD D).length + 8 ≤ _
        omega
      have hlr : (revD D).length + 8 ≤ 9223372036854775807 := hsz2
      go_wp2_with fail
      refine (builderString_walk w2.heap.size w2.heap.size (revD D) _ hB hne).mono ?_
      rintro e w3 ⟨rfl, hb3⟩
      go_wp2_with fail
      go_returns
      refine ⟨?_, below_step B2 (hbl.trans hb3)⟩
      exact congrArg (fun x => Ending.returned (.string x)) (ba_join (revD D) arpa)
end Go.Proofs.YtcgdjnmfeibnoaaDoor
/-! SixRefRev -/
namespace Go.Proofs.YtcgdjnmfeibnoaaDoor
open Go.RowKit Go.Proofs.YtcgdjnmfeibnoaaDoorW.PrintWords
set_option linter.unusedVariables false
set_option linter.unusedSimpArgs false
theorem slice_at (D : List UInt8) (m : Nat) (hm : m < D.length) (W : World) : (Instr.slice 9 (.string (BA D)) (some (.int .i64 (m : Int))) (some (.int .i64 ((m : Int) + 1))) none).run Tryd.prog W = .ok (.string (BA [D[m]'hm])) W := by
  have hs : (BA D).size = D.length := ba_size D
  rw [run_slice_string_if _ _ _ _ _ _ _ Tryd.underlying9, if_pos ⟨by omega, by rw [hs]; omega⟩, if_pos ⟨by omega, by omega⟩, extract_ba, ba_list]
  rw [show ((m : Int) + 1).toNat - (m : Int).toNat = 1 by omega, Int.toNat_natCast, List.drop_eq_getElem_cons hm]
  rfl
def RevRel3 (D : List UInt8) (w W1 : World) (v3 v : Value) (W : World) : Prop :=
  ∃ (k : Nat) (i : Int), k ≤ D.length ∧ v = .int .i64 i ∧ i = (k : Int) - 1 ∧ v3 = .string (BA (revD (D.drop k))) ∧ Below w.heap.size w W
set_option maxHeartbeats 4000000 in
set_option maxRecDepth 100000 in
theorem refReverse_walk (n0 n1 n2 n3 n4 n5 n6 n7 : Nat) (h0 : n0 ≤ 65535) (h1 : n1 ≤ 65535) (h2 : n2 ≤ 65535) (h3 : n3 ≤ 65535) (h4 : n4 ≤ 65535) (h5 : n5 ≤ 65535) (h6 : n6 ≤ 65535) (h7 : n7 ≤ 65535) (w : World) : Calls Tryd.prog 35 #[.agg #[.int .u16 (n0 : Int), .int .u16 (n1 : Int), .int .u16 (n2 : Int), .int .u16 (n3 : Int), .int .u16 (n4 : Int), .int .u16 (n5 : Int), .int .u16 (n6 : Int), .int .u16 (n7 : Int)]] w fun e w' => e = .returned (.string (BA (revD (joinC ([n0, n1, n2, n3, n4, n5, n6, n7].map fullL)) ++ arpa))) ∧ Below w.heap.size w w' := by
  have hF := fun w => refFull_walk n0 n1 n2 n3 n4 n5 n6 n7 h0 h1 h2 h3 h4 h5 h6 h7 w
  have hFl : (joinC ([n0, n1, n2, n3, n4, n5, n6, n7].map fullL)).length ≤ 100 := by
    have hj := joinC_len ([n0, n1, n2, n3, n4, n5, n6, n7].map fullL)
    have hl : lsum ([n0, n1, n2, n3, n4, n5, n6, n7].map fullL) = 32 := by simp [lsum, (fullL_pc h0).2.2, (fullL_pc h1).2.2, (fullL_pc h2).2.2, (fullL_pc h3).2.2, (fullL_pc h4).2.2, (fullL_pc h5).2.2, (fullL_pc h6).2.2, (fullL_pc h7).2.2]
    rw [hl] at hj
    simp only [List.length_map, List.length_cons, List.length_nil] at hj
    omega
  generalize joinC ([n0, n1, n2, n3, n4, n5, n6, n7].map fullL) = D at *
  have hk : (w.alloc (.cells #[.int .u16 (n0 : Int), .int .u16 (n1 : Int), .int .u16 (n2 : Int), .int .u16 (n3 : Int), .int .u16 (n4 : Int), .int .u16 (n5 : Int), .int .u16 (n6 : Int), .int .u16 (n7 : Int)] 30)).heap[w.heap.size]? = some (.cells #[.int .u16 (n0 : Int), .int .u16 (n1 : Int), .int .u16 (n2 : Int), .int .u16 (n3 : Int), .int .u16 (n4 : Int), .int .u16 (n5 : Int), .int .u16 (n6 : Int), .int .u16 (n7 : Int)] 30 (0, 0)) := blk_new _ _
  have B0 : Below w.heap.size w (w.alloc (.cells #[.int .u16 (n0 : Int), .int .u16 (n1 : Int), .int .u16 (n2 : Int), .int .u16 (n3 : Int), .int .u16 (n4 : Int), .int .u16 (n5 : Int), .int .u16 (n6 : Int), .int .u16 (n7 : Int)] 30)) := (Below.refl _ _).alloc (Nat.le_refl _) _
  have HF := Lib.hid hF
  have hsz : (BA D).size ≤ 100 := hFl
  have HL := Lib.hid (ba_size D)
  clear hF hFl h0 h1 h2 h3 h4 h5 h6 h7
  go_enter Tryd.func35, Tryd.ntmps35
  go_upto_region 1 with fail
  generalize w.alloc (.cells #[.int .u16 (n0 : Int), .int .u16 (n1 : Int), .int .u16 (n2 : Int), .int .u16 (n3 : Int), .int .u16 (n4 : Int), .int .u16 (n5 : Int), .int .u16 (n6 : Int), .int .u16 (n7 : Int)] 30) = W0 at *
  have c0 : W0.cell? ⟨w.heap.size, 0, none⟩ = some (.int .u16 (n0 : Int)) := (blk_cell hk 0).trans rfl
  have c1 : W0.cell? ⟨w.heap.size, 1, none⟩ = some (.int .u16 (n1 : Int)) := (blk_cell hk 1).trans rfl
  have c2 : W0.cell? ⟨w.heap.size, 2, none⟩ = some (.int .u16 (n2 : Int)) := (blk_cell hk 2).trans rfl
  have c3 : W0.cell? ⟨w.heap.size, 3, none⟩ = some (.int .u16 (n3 : Int)) := (blk_cell hk 3).trans rfl
  have c4 : W0.cell? ⟨w.heap.size, 4, none⟩ = some (.int .u16 (n4 : Int)) := (blk_cell hk 4).trans rfl
  have c5 : W0.cell? ⟨w.heap.size, 5, none⟩ = some (.int .u16 (n5 : Int)) := (blk_cell hk 5).trans rfl
  have c6 : W0.cell? ⟨w.heap.size, 6, none⟩ = some (.int .u16 (n6 : Int)) := (blk_cell hk 6).trans rfl
  have c7 : W0.cell? ⟨w.heap.size, 7, none⟩ = some (.int .u16 (n7 : Int)) := (blk_cell hk 7).trans rfl
  have hlt : w.heap.size < W0.heap.size := blk_lt hk
  clear hk
  go_wp2_with fail
  refine (HF.out _).mono ?_
  rintro e w1 ⟨rfl, hb1⟩
  have B1 := below_step B0 hb1
  clear hb1 c0 c1 c2 c3 c4 c5 c6 c7 hlt B0 HF
  generalize hS : BA D = S at *
  have HS := Lib.hid hS
  clear hS
  go_wp2_with fail
  go_loopw [3, 5] (fun v3 v W => RevRel3 D w w1 v3 v W) (fun _ v _ => (intOf v + 1).toNat)
  case atStart =>
    refine ⟨D.length, _, Nat.le_refl _, rfl, ?_, ?_, B1⟩
    · rw [HL.out]
    · rw [List.drop_length]
      rfl
  case round =>
    obtain ⟨k, i, hk, rfl, hi, rfl, hbl⟩ := hrel
    by_cases h0 : 0 ≤ i
    · obtain ⟨m, rfl⟩ := Int.eq_ofNat_of_zero_le h0
      obtain rfl : k = m + 1 := by omega
      have hix := index_at D m (by omega)
      have hsl := slice_at D m (by omega)
      rw [HS.out] at hix hsl
      have hrv : revD (D.drop m) = revD (D.drop (m + 1)) ++ if D[m] = 58 then [] else [D[m], 46] := by
        rw [List.drop_eq_getElem_cons (by omega), revD_cons]
      have hln := revD_len (D.drop (m + 1))
      rw [List.length_drop] at hln
      have HRV := Lib.hid hrv
      have hms : (m : Int) < (S.size : Int) := by rw [HL.out]; omega
      clear hi hrv h0
      generalize D[m] = c at *
      generalize revD (D.drop (m + 1)) = o at *
      have ho : (BA o).size ≤ 200 := by rw [ba_size]; rw [HL.out] at hsz; omega
      have HB1 := Lib.hid (ba_join [c] [46])
      have HB2 := Lib.hid (ba_join o [c, 46])
      by_cases hc : c = 58
      · have hc58 : ((c.toNat : Int) != 58) = false := by rw [hc]; rfl
        rw [if_pos hc, List.append_nil] at HRV
        clear hc
        go_wp2_with fail
        refine ⟨⟨m, (m : Int) - 1, by omega, rfl, rfl, by rw [HRV.out], hbl⟩, by show ((m : Int) - 1 + 1).toNat < ((m : Int) + 1).toNat; omega⟩
      · have hc58 : ((c.toNat : Int) != 58) = true := by
          have := (byte_beq c 58).trans (beq_eq_false_iff_ne.2 hc)
          show (!((c.toNat : Int) == ((58 : UInt8).toNat : Int))) = true
          rw [this]
          rfl
        rw [if_neg hc] at HRV
        have hs1 : (BA [c]).size + 1 ≤ 9223372036854775807 := by rw [ba_size, List.length_singleton]; decide
        have hs2 : (BA o).size + ((BA [c]).size + 1) ≤ 9223372036854775807 := by rw [ba_size [c]]; simp; omega
        clear hc
        go_wp2_with fail
        refine ⟨⟨m, (m : Int) - 1, by omega, rfl, rfl, ?_, hbl⟩, by show ((m : Int) - 1 + 1).toNat < ((m : Int) + 1).toNat; omega⟩
        rw [HRV.out, ← HB2.out]
        exact congrArg (fun x => Value.string (BA o ++ x)) HB1.out
    · obtain rfl : k = 0 := by omega
      have hln := revD_len D
      have hsz2 : (BA (revD (D.drop 0))).size + 8 ≤ 9223372036854775807 := by
        rw [HL.out] at hsz
        show (revD D).length + 8 ≤ _
        omega
      have HJ := Lib.hid (ba_join (revD D) arpa)
      rw [show D.drop 0 = D from rfl] at hsz2
      clear hln
      go_wp2_with fail
      go_ret
      refine ⟨?_, hbl⟩
      exact congrArg (fun x => Ending.returned (.string x)) HJ.out
end Go.Proofs.YtcgdjnmfeibnoaaDoor
/-! SixMixed -/
namespace Go.Proofs.YtcgdjnmfeibnoaaDoor
open Go.RowKit Go.Proofs.YtcgdjnmfeibnoaaDoorW.PrintWords Go.Proofs.YtcgdjnmfeibnoaaDoor.X Go.IntWalk
set_option linter.unusedVariables false
set_option linter.unusedSimpArgs false
theorem suffix_iff (l : List UInt8) (h : 2 ≤ l.length) : [58, 58] <:+ l ↔ l.drop (l.length - 2) = [58, 58] := by
  constructor
  · rintro ⟨t, rfl⟩
    simp
  · intro e
    refine ⟨l.take (l.length - 2), ?_⟩
    rw [← e]
    exact List.take_append_drop _ _
theorem suffix_walk (l : List UInt8) (hl : l.length ≤ 1000) (w : World) : Calls Tryd.prog 72 #[.string ⟨l.toArray⟩, .string ⟨#[58, 58]⟩] w fun e w' => e = .returned (.bool (decide ([58, 58] <:+ l))) ∧ Below w.heap.size w w' := by
  refine (strings_HasSuffix.calls ⟨l.toArray⟩ ⟨#[58, 58]⟩ _ w ?_).mono fun e w' ⟨h1, h2⟩ => ⟨h1, h2.below⟩
  have hsz : ((⟨l.toArray⟩ : ByteArray).size : Int) = l.length := rfl
  have hs2 : ((⟨#[58, 58]⟩ : ByteArray).size : Int) = 2 := rfl
  unfold strings_HasSuffix.f stringslite_HasSuffix.f
  rw [hsz, hs2]
  by_cases h : (l.length : Int) ≥ 2
  · rw [if_pos h, wrap64_in _ (by omega), if_pos (by omega), if_pos (by omega), Option.bind_some]
    congr 1
    rw [Bool.eq_iff_iff, beq_iff_eq, decide_eq_true_eq, suffix_iff l (by omega)]
    have e1 : ((l.length : Int) - 2).toNat = l.length - 2 := by omega
    rw [e1, extract_tail, toList_data, toList_data, ba_list]
  · rw [if_neg h, Option.bind_some]
    congr 1
    rw [eq_comm, decide_eq_false_iff_not]
    rintro ⟨t, rfl⟩
    simp at h
    omega
theorem lowN_walk (n0 n1 n2 n3 n4 n5 n6 n7 : Nat) (h6 : n6 ≤ 65535) (h7 : n7 ≤ 65535) (w : World) :
    Calls Tryd.prog 74 #[.agg #[.int .u16 (n0 : Int), .int .u16 (n1 : Int), .int .u16 (n2 : Int), .int .u16 (n3 : Int), .int .u16 (n4 : Int), .int .u16 (n5 : Int), .int .u16 (n6 : Int), .int .u16 (n7 : Int)]] w fun e w' => e = .returned (.int .u32 ((n6 : Int) * 65536 + n7)) ∧ Below w.heap.size w w' := by
  refine six_low.calls _ _ _ _ _ _ _ _ _ w ?_
  unfold six_low.f
  congr 1
  rw [Int.emod_eq_of_lt (by omega) (by omega), Int.emod_eq_of_lt (by omega) (by omega), Int.emod_eq_of_lt (by omega) (by omega)]
  have hor : (65536 * n6 ||| n7) = 65536 * n6 + n7 := by
    have := Nat.two_pow_add_eq_or_of_lt (i := 16) (show n7 < 2 ^ 16 by omega) n6
    rw [show (2 : Nat) ^ 16 = 65536 by decide] at this
    exact this.symm
  rw [show (n6 : Int) * 65536 = ((65536 * n6 : Nat) : Int) by omega, u32_or_nat (65536 * n6) n7 (by omega) (by omega), hor]
  omega
theorem textL_short {xs : List Nat} (hl : xs.length ≤ 8) (hn : xs ≠ []) (h : ∀ x ∈ xs, x ≤ 65535) : (textL xs).length ≤ 100 := by
  have hs : ∀ l : List Nat, (∀ x ∈ l, x ≤ 65535) → hsum l ≤ 4 * l.length := by
    intro l
    induction l with
    | nil => intro _; exact Nat.le_refl _
    | cons x l ih =>
      intro h
      have h1 := ih (fun y hy => h y (List.mem_cons_of_mem _ hy))
      have h2 := (hexL_pc (h x (by simp))).l4
      unfold hsum lsum at h1 ⊢
      simp only [List.map_cons, List.sum_cons, List.length_cons] at h1 ⊢
      omega
  have h1 := hs xs h
  rcases textL_len xs hn with ⟨e, _⟩ | ⟨n, _, _, e | e⟩ <;> omega
set_option maxHeartbeats 4000000 in
set_option maxRecDepth 100000 in
theorem mixed_walk (n0 n1 n2 n3 n4 n5 n6 n7 : Nat) (h0 : n0 ≤ 65535) (h1 : n1 ≤ 65535) (h2 : n2 ≤ 65535) (h3 : n3 ≤ 65535) (h4 : n4 ≤ 65535) (h5 : n5 ≤ 65535) (h6 : n6 ≤ 65535) (h7 : n7 ≤ 65535) (w : World) (hG : GI w) :
    Calls Tryd.prog 32 #[.agg #[.int .u16 (n0 : Int), .int .u16 (n1 : Int), .int .u16 (n2 : Int), .int .u16 (n3 : Int), .int .u16 (n4 : Int), .int .u16 (n5 : Int), .int .u16 (n6 : Int), .int .u16 (n7 : Int)]] w fun e w' => e = .returned (.string (BA (mixL [n0, n1, n2, n3, n4, n5] (printV ((n6 : Int) * 65536 + n7))))) ∧ Below w.heap.size w w' := by
  have hx : ∀ x ∈ [n0, n1, n2, n3, n4, n5], x ≤ 65535 := by
    intro x hx
    simp only [List.mem_cons, List.not_mem_nil, or_false] at hx
    omega
  have hsh := textL_short (xs := [n0, n1, n2, n3, n4, n5]) (by simp) (by simp) hx
  have HM := Lib.hid (show mixL [n0, n1, n2, n3, n4, n5] (printV ((n6 : Int) * 65536 + n7)) = (if [58, 58] <:+ textL [n0, n1, n2, n3, n4, n5] then textL [n0, n1, n2, n3, n4, n5] else textL [n0, n1, n2, n3, n4, n5] ++ [58]) ++ printV ((n6 : Int) * 65536 + n7) from rfl)
  have hk : (w.alloc (.cells #[.int .u16 (n0 : Int), .int .u16 (n1 : Int), .int .u16 (n2 : Int), .int .u16 (n3 : Int), .int .u16 (n4 : Int), .int .u16 (n5 : Int), .int .u16 (n6 : Int), .int .u16 (n7 : Int)] 24)).heap[w.heap.size]? = some (.cells #[.int .u16 (n0 : Int), .int .u16 (n1 : Int), .int .u16 (n2 : Int), .int .u16 (n3 : Int), .int .u16 (n4 : Int), .int .u16 (n5 : Int), .int .u16 (n6 : Int), .int .u16 (n7 : Int)] 24 (0, 0)) := blk_new _ _
  have hT := text_walk [n0, n1, n2, n3, n4, n5] w.heap.size 8 (w.alloc (.cells #[.int .u16 (n0 : Int), .int .u16 (n1 : Int), .int .u16 (n2 : Int), .int .u16 (n3 : Int), .int .u16 (n4 : Int), .int .u16 (n5 : Int), .int .u16 (n6 : Int), .int .u16 (n7 : Int)] 24)) (by simp) (by simp) (by simp) hx
    (by
      intro j hj
      rw [Lib.cell_of_heap hk]
      match j, hj with
      | 0, _ => rfl
      | 1, _ => rfl
      | 2, _ => rfl
      | 3, _ => rfl
      | 4, _ => rfl
      | 5, _ => rfl
      | j + 6, hj => exact absurd hj (by simp))
  have HT := Lib.hid hT
  have HK := Lib.hid hk
  have HG := Lib.hid hG
  clear hT hx hk hG
  go_enter Tryd.func32, Tryd.ntmps32
  go_wp2_with fail
  refine HT.out.mono ?_
  rintro e w1 ⟨rfl, hb1⟩
  have K1 := blk_below HK.out hb1
  have B1 := ((Below.refl w.heap.size w).alloc (Nat.le_refl _) (.cells #[.int .u16 (n0 : Int), .int .u16 (n1 : Int), .int .u16 (n2 : Int), .int .u16 (n3 : Int), .int .u16 (n4 : Int), .int .u16 (n5 : Int), .int .u16 (n6 : Int), .int .u16 (n7 : Int)] 24)).trans (hb1.mono (by simp))
  generalize textL [n0, n1, n2, n3, n4, n5] = T at *
  clear HT HK hb1
  go_wp2_with fail
  refine (suffix_walk T (by omega) _).mono ?_
  rintro e w2 ⟨rfl, hb2⟩
  have K2 := blk_below K1 hb2
  have B2 := below_step B1 hb2
  clear K1 B1 hb2
  have c0 : w2.cell? ⟨w.heap.size, 0, none⟩ = some (.int .u16 (n0 : Int)) := (blk_cell K2 0).trans rfl
  have c1 : w2.cell? ⟨w.heap.size, 1, none⟩ = some (.int .u16 (n1 : Int)) := (blk_cell K2 1).trans rfl
  have c2 : w2.cell? ⟨w.heap.size, 2, none⟩ = some (.int .u16 (n2 : Int)) := (blk_cell K2 2).trans rfl
  have c3 : w2.cell? ⟨w.heap.size, 3, none⟩ = some (.int .u16 (n3 : Int)) := (blk_cell K2 3).trans rfl
  have c4 : w2.cell? ⟨w.heap.size, 4, none⟩ = some (.int .u16 (n4 : Int)) := (blk_cell K2 4).trans rfl
  have c5 : w2.cell? ⟨w.heap.size, 5, none⟩ = some (.int .u16 (n5 : Int)) := (blk_cell K2 5).trans rfl
  have c6 : w2.cell? ⟨w.heap.size, 6, none⟩ = some (.int .u16 (n6 : Int)) := (blk_cell K2 6).trans rfl
  have c7 : w2.cell? ⟨w.heap.size, 7, none⟩ = some (.int .u16 (n7 : Int)) := (blk_cell K2 7).trans rfl
  clear K2
  have hr0 : (0 : Int) ≤ (n6 : Int) * 65536 + n7 := by omega
  have hr1 : (n6 : Int) * 65536 + n7 ≤ 4294967295 := by omega
  have hq : (printV ((n6 : Int) * 65536 + n7)).length ≤ 140737488355328 := by
    unfold printV oct4
    exact join4_len (by omega) (by omega) (by omega) (by omega) (by omega) (by omega) (by omega) (by omega)
  have hqs : T.length + (BA (printV ((n6 : Int) * 65536 + n7))).size ≤ 9223372036854775807 := by rw [ba_size]; omega
  have hqs1 : T.length + 1 + (BA (printV ((n6 : Int) * 65536 + n7))).size ≤ 9223372036854775807 := by rw [ba_size]; omega
  have HQ := Lib.hid hqs
  have HQ1 := Lib.hid hqs1
  clear hq hqs hqs1
  by_cases hsuf : [58, 58] <:+ T
  · rw [decide_eq_true hsuf]
    go_wp2_with fail
    refine (lowN_walk n0 n1 n2 n3 n4 n5 n6 n7 h6 h7 _).mono ?_
    rintro e w3 ⟨rfl, hb3⟩
    have B3 := below_step B2 hb3
    clear hb3
    go_wp2_with fail
    refine (fourPrint_walk _ hr0 hr1 _ (HG.out.keep B3)).mono ?_
    rintro e w4 ⟨rfl, hb4⟩
    have B4 := below_step B3 hb4
    clear hb4
    have hqs := HQ.out
    go_wp2_with fail
    go_ret
    refine ⟨?_, B4⟩
    rw [HM.out, if_pos hsuf]
    exact congrArg (fun x => Ending.returned (.string x)) (ba_app T (printV ((n6 : Int) * 65536 + n7)))
  · rw [decide_eq_false hsuf]
    go_wp2_with fail
    refine (lowN_walk n0 n1 n2 n3 n4 n5 n6 n7 h6 h7 _).mono ?_
    rintro e w3 ⟨rfl, hb3⟩
    have B3 := below_step B2 hb3
    clear hb3
    go_wp2_with fail
    refine (fourPrint_walk _ hr0 hr1 _ (HG.out.keep B3)).mono ?_
    rintro e w4 ⟨rfl, hb4⟩
    have B4 := below_step B3 hb4
    clear hb4
    have hqs := HQ1.out
    go_wp2_with fail
    go_ret
    refine ⟨?_, B4⟩
    rw [HM.out, if_neg hsuf]
    exact congrArg (fun x => Ending.returned (.string x)) ((congrArg (· ++ BA (printV ((n6 : Int) * 65536 + n7))) (ba_app T [58])).trans (ba_app (T ++ [58]) (printV ((n6 : Int) * 65536 + n7))))
end Go.Proofs.YtcgdjnmfeibnoaaDoor
/-! SixPrints -/
namespace Go.Proofs.YtcgdjnmfeibnoaaDoor
open Go.RowKit Go.Proofs.YtcgdjnmfeibnoaaDoorW.PrintWords
set_option linter.unusedVariables false
set_option linter.unusedSimpArgs false
theorem blk_newB (w : World) (o o' : Obj) : ((w.alloc o).alloc o').heap[w.heap.size + 1]? = some o' := by
  have := blk_new (w.alloc o) o'
  rwa [World.size_alloc] at this
set_option maxHeartbeats 4000000 in
set_option maxRecDepth 100000 in
theorem prints_walk (n0 n1 n2 n3 n4 n5 n6 n7 : Nat) (h0 : n0 ≤ 65535) (h1 : n1 ≤ 65535) (h2 : n2 ≤ 65535) (h3 : n3 ≤ 65535) (h4 : n4 ≤ 65535) (h5 : n5 ≤ 65535) (h6 : n6 ≤ 65535) (h7 : n7 ≤ 65535) (w : World) (hG : GW w) (hI : GI w) :
    Calls Tryd.prog 8 #[.agg #[.int .u16 (n0 : Int), .int .u16 (n1 : Int), .int .u16 (n2 : Int), .int .u16 (n3 : Int), .int .u16 (n4 : Int), .int .u16 (n5 : Int), .int .u16 (n6 : Int), .int .u16 (n7 : Int)]] w fun e w' => e = .returned (.bool true) ∧ Below w.heap.size w w' := by
  have hr : R8 (n0 : Int) n1 n2 n3 n4 n5 n6 n7 := ⟨by omega, by omega, by omega, by omega, by omega, by omega, by omega, by omega⟩
  have HR := Lib.hid (fun w => runAll_walk n0 n1 n2 n3 n4 n5 n6 n7 w)
  have HRr := Lib.hid (fun w => refRunAll_walk n0 n1 n2 n3 n4 n5 n6 n7 w)
  have HP := Lib.hid (fun w => print_walk n0 n1 n2 n3 n4 n5 n6 n7 hr w)
  have HPr := Lib.hid (fun w => refPrint_walk n0 n1 n2 n3 n4 n5 n6 n7 h0 h1 h2 h3 h4 h5 h6 h7 w)
  have HF := Lib.hid (fun w => full_walk n0 n1 n2 n3 n4 n5 n6 n7 h0 h1 h2 h3 h4 h5 h6 h7 w)
  have HFr := Lib.hid (fun w => refFull_walk n0 n1 n2 n3 n4 n5 n6 n7 h0 h1 h2 h3 h4 h5 h6 h7 w)
  have HM := Lib.hid (fun w hG => mixed_walk n0 n1 n2 n3 n4 n5 n6 n7 h0 h1 h2 h3 h4 h5 h6 h7 w hG)
  have HMr := Lib.hid (fun w => refMixed_walk n0 n1 n2 n3 n4 n5 n6 n7 h0 h1 h2 h3 h4 h5 h6 h7 w)
  have HV := Lib.hid (fun w hG => reverse_walk n0 n1 n2 n3 n4 n5 n6 n7 h0 h1 h2 h3 h4 h5 h6 h7 w hG)
  have HVr := Lib.hid (fun w => refReverse_walk n0 n1 n2 n3 n4 n5 n6 n7 h0 h1 h2 h3 h4 h5 h6 h7 w)
  have HK := Lib.hid (fun w => kind_walk n0 n1 n2 n3 n4 n5 n6 n7 hr w)
  have HKr := Lib.hid (fun w => refKind_walk n0 n1 n2 n3 n4 n5 n6 n7 hr w)
  rw [show printL (n0 : Int) n1 n2 n3 n4 n5 n6 n7 = textL [n0, n1, n2, n3, n4, n5, n6, n7] from rfl] at HP
  rw [show (⟨(textL [n0, n1, n2, n3, n4, n5, n6, n7]).toArray⟩ : ByteArray) = BA (textL [n0, n1, n2, n3, n4, n5, n6, n7]) from rfl] at HP
  generalize textL [n0, n1, n2, n3, n4, n5, n6, n7] = p0 at *
  generalize joinC ([n0, n1, n2, n3, n4, n5, n6, n7].map fullL) = p1 at *
  generalize mixL [n0, n1, n2, n3, n4, n5] (printV ((n6 : Int) * 65536 + n7)) = p2 at *
  generalize revD p1 ++ arpa = p3 at *
  generalize kindV (n0 : Int) n1 n2 n3 n4 n5 n6 n7 = kd at *
  generalize (runL [n0, n1, n2, n3, n4, n5, n6, n7]).1 = a at *
  generalize (runL [n0, n1, n2, n3, n4, n5, n6, n7]).2 = m at *
  clear h0 h1 h2 h3 h4 h5 h6 h7 hr
  go_enter Tryd.func8, Tryd.ntmps8
  have hk1 : ((w.alloc (.cells #[.int .u16 (n0 : Int), .int .u16 (n1 : Int), .int .u16 (n2 : Int), .int .u16 (n3 : Int), .int .u16 (n4 : Int), .int .u16 (n5 : Int), .int .u16 (n6 : Int), .int .u16 (n7 : Int)] 24)).alloc (.cells #[.int .u16 (n0 : Int), .int .u16 (n1 : Int), .int .u16 (n2 : Int), .int .u16 (n3 : Int), .int .u16 (n4 : Int), .int .u16 (n5 : Int), .int .u16 (n6 : Int), .int .u16 (n7 : Int)] 30)).heap[w.heap.size]? = some (.cells #[.int .u16 (n0 : Int), .int .u16 (n1 : Int), .int .u16 (n2 : Int), .int .u16 (n3 : Int), .int .u16 (n4 : Int), .int .u16 (n5 : Int), .int .u16 (n6 : Int), .int .u16 (n7 : Int)] 24 (0, 0)) := blk_alloc (blk_new _ _) _
  have hk2 : ((w.alloc (.cells #[.int .u16 (n0 : Int), .int .u16 (n1 : Int), .int .u16 (n2 : Int), .int .u16 (n3 : Int), .int .u16 (n4 : Int), .int .u16 (n5 : Int), .int .u16 (n6 : Int), .int .u16 (n7 : Int)] 24)).alloc (.cells #[.int .u16 (n0 : Int), .int .u16 (n1 : Int), .int .u16 (n2 : Int), .int .u16 (n3 : Int), .int .u16 (n4 : Int), .int .u16 (n5 : Int), .int .u16 (n6 : Int), .int .u16 (n7 : Int)] 30)).heap[w.heap.size + 1]? = some (.cells #[.int .u16 (n0 : Int), .int .u16 (n1 : Int), .int .u16 (n2 : Int), .int .u16 (n3 : Int), .int .u16 (n4 : Int), .int .u16 (n5 : Int), .int .u16 (n6 : Int), .int .u16 (n7 : Int)] 30 (0, 0)) := blk_newB _ _ _
  have B0 : Below w.heap.size w ((w.alloc (.cells #[.int .u16 (n0 : Int), .int .u16 (n1 : Int), .int .u16 (n2 : Int), .int .u16 (n3 : Int), .int .u16 (n4 : Int), .int .u16 (n5 : Int), .int .u16 (n6 : Int), .int .u16 (n7 : Int)] 24)).alloc (.cells #[.int .u16 (n0 : Int), .int .u16 (n1 : Int), .int .u16 (n2 : Int), .int .u16 (n3 : Int), .int .u16 (n4 : Int), .int .u16 (n5 : Int), .int .u16 (n6 : Int), .int .u16 (n7 : Int)] 30)) := ((Below.refl _ _).alloc (Nat.le_refl _) _).alloc (by simp) _
  go_upto_region 2 with fail
  generalize hW : (w.alloc (.cells #[.int .u16 (n0 : Int), .int .u16 (n1 : Int), .int .u16 (n2 : Int), .int .u16 (n3 : Int), .int .u16 (n4 : Int), .int .u16 (n5 : Int), .int .u16 (n6 : Int), .int .u16 (n7 : Int)] 24)).alloc (.cells #[.int .u16 (n0 : Int), .int .u16 (n1 : Int), .int .u16 (n2 : Int), .int .u16 (n3 : Int), .int .u16 (n4 : Int), .int .u16 (n5 : Int), .int .u16 (n6 : Int), .int .u16 (n7 : Int)] 30) = W0 at *
  clear hW
  have ca0 : W0.cell? ⟨w.heap.size, 0, none⟩ = some (.int .u16 (n0 : Int)) := (blk_cell hk1 0).trans rfl
  have ca1 : W0.cell? ⟨w.heap.size, 1, none⟩ = some (.int .u16 (n1 : Int)) := (blk_cell hk1 1).trans rfl
  have ca2 : W0.cell? ⟨w.heap.size, 2, none⟩ = some (.int .u16 (n2 : Int)) := (blk_cell hk1 2).trans rfl
  have ca3 : W0.cell? ⟨w.heap.size, 3, none⟩ = some (.int .u16 (n3 : Int)) := (blk_cell hk1 3).trans rfl
  have ca4 : W0.cell? ⟨w.heap.size, 4, none⟩ = some (.int .u16 (n4 : Int)) := (blk_cell hk1 4).trans rfl
  have ca5 : W0.cell? ⟨w.heap.size, 5, none⟩ = some (.int .u16 (n5 : Int)) := (blk_cell hk1 5).trans rfl
  have ca6 : W0.cell? ⟨w.heap.size, 6, none⟩ = some (.int .u16 (n6 : Int)) := (blk_cell hk1 6).trans rfl
  have ca7 : W0.cell? ⟨w.heap.size, 7, none⟩ = some (.int .u16 (n7 : Int)) := (blk_cell hk1 7).trans rfl
  have cb0 : W0.cell? ⟨w.heap.size + 1, 0, none⟩ = some (.int .u16 (n0 : Int)) := (blk_cell hk2 0).trans rfl
  have cb1 : W0.cell? ⟨w.heap.size + 1, 1, none⟩ = some (.int .u16 (n1 : Int)) := (blk_cell hk2 1).trans rfl
  have cb2 : W0.cell? ⟨w.heap.size + 1, 2, none⟩ = some (.int .u16 (n2 : Int)) := (blk_cell hk2 2).trans rfl
  have cb3 : W0.cell? ⟨w.heap.size + 1, 3, none⟩ = some (.int .u16 (n3 : Int)) := (blk_cell hk2 3).trans rfl
  have cb4 : W0.cell? ⟨w.heap.size + 1, 4, none⟩ = some (.int .u16 (n4 : Int)) := (blk_cell hk2 4).trans rfl
  have cb5 : W0.cell? ⟨w.heap.size + 1, 5, none⟩ = some (.int .u16 (n5 : Int)) := (blk_cell hk2 5).trans rfl
  have cb6 : W0.cell? ⟨w.heap.size + 1, 6, none⟩ = some (.int .u16 (n6 : Int)) := (blk_cell hk2 6).trans rfl
  have cb7 : W0.cell? ⟨w.heap.size + 1, 7, none⟩ = some (.int .u16 (n7 : Int)) := (blk_cell hk2 7).trans rfl
  have hla := blk_lt hk1
  have hlb := blk_lt hk2
  go_wp2_with fail
  refine (HR.out _).mono ?_
  rintro e w1 ⟨rfl, hb1⟩
  have B1 := below_step B0 hb1
  have hk1' := blk_below hk1 hb1
  have hk2' := blk_below hk2 hb1
  clear hb1 hk1 hk2 hla hlb B0 HR ca0 cb0 ca1 cb1 ca2 cb2 ca3 cb3 ca4 cb4 ca5 cb5 ca6 cb6 ca7 cb7
  have ca0 : w1.cell? ⟨w.heap.size, 0, none⟩ = some (.int .u16 (n0 : Int)) := (blk_cell hk1' 0).trans rfl
  have ca1 : w1.cell? ⟨w.heap.size, 1, none⟩ = some (.int .u16 (n1 : Int)) := (blk_cell hk1' 1).trans rfl
  have ca2 : w1.cell? ⟨w.heap.size, 2, none⟩ = some (.int .u16 (n2 : Int)) := (blk_cell hk1' 2).trans rfl
  have ca3 : w1.cell? ⟨w.heap.size, 3, none⟩ = some (.int .u16 (n3 : Int)) := (blk_cell hk1' 3).trans rfl
  have ca4 : w1.cell? ⟨w.heap.size, 4, none⟩ = some (.int .u16 (n4 : Int)) := (blk_cell hk1' 4).trans rfl
  have ca5 : w1.cell? ⟨w.heap.size, 5, none⟩ = some (.int .u16 (n5 : Int)) := (blk_cell hk1' 5).trans rfl
  have ca6 : w1.cell? ⟨w.heap.size, 6, none⟩ = some (.int .u16 (n6 : Int)) := (blk_cell hk1' 6).trans rfl
  have ca7 : w1.cell? ⟨w.heap.size, 7, none⟩ = some (.int .u16 (n7 : Int)) := (blk_cell hk1' 7).trans rfl
  have cb0 : w1.cell? ⟨w.heap.size + 1, 0, none⟩ = some (.int .u16 (n0 : Int)) := (blk_cell hk2' 0).trans rfl
  have cb1 : w1.cell? ⟨w.heap.size + 1, 1, none⟩ = some (.int .u16 (n1 : Int)) := (blk_cell hk2' 1).trans rfl
  have cb2 : w1.cell? ⟨w.heap.size + 1, 2, none⟩ = some (.int .u16 (n2 : Int)) := (blk_cell hk2' 2).trans rfl
  have cb3 : w1.cell? ⟨w.heap.size + 1, 3, none⟩ = some (.int .u16 (n3 : Int)) := (blk_cell hk2' 3).trans rfl
  have cb4 : w1.cell? ⟨w.heap.size + 1, 4, none⟩ = some (.int .u16 (n4 : Int)) := (blk_cell hk2' 4).trans rfl
  have cb5 : w1.cell? ⟨w.heap.size + 1, 5, none⟩ = some (.int .u16 (n5 : Int)) := (blk_cell hk2' 5).trans rfl
  have cb6 : w1.cell? ⟨w.heap.size + 1, 6, none⟩ = some (.int .u16 (n6 : Int)) := (blk_cell hk2' 6).trans rfl
  have cb7 : w1.cell? ⟨w.heap.size + 1, 7, none⟩ = some (.int .u16 (n7 : Int)) := (blk_cell hk2' 7).trans rfl
  have hla := blk_lt hk1'
  have hlb := blk_lt hk2'
  go_wp2_with fail
  refine (HRr.out _).mono ?_
  rintro e w2 ⟨rfl, hb2⟩
  have B2 := below_step B1 hb2
  have hk1 := blk_below hk1' hb2
  have hk2 := blk_below hk2' hb2
  clear hb2 hk1' hk2' hla hlb B1 HRr ca0 cb0 ca1 cb1 ca2 cb2 ca3 cb3 ca4 cb4 ca5 cb5 ca6 cb6 ca7 cb7
  have ca0 : w2.cell? ⟨w.heap.size, 0, none⟩ = some (.int .u16 (n0 : Int)) := (blk_cell hk1 0).trans rfl
  have ca1 : w2.cell? ⟨w.heap.size, 1, none⟩ = some (.int .u16 (n1 : Int)) := (blk_cell hk1 1).trans rfl
  have ca2 : w2.cell? ⟨w.heap.size, 2, none⟩ = some (.int .u16 (n2 : Int)) := (blk_cell hk1 2).trans rfl
  have ca3 : w2.cell? ⟨w.heap.size, 3, none⟩ = some (.int .u16 (n3 : Int)) := (blk_cell hk1 3).trans rfl
  have ca4 : w2.cell? ⟨w.heap.size, 4, none⟩ = some (.int .u16 (n4 : Int)) := (blk_cell hk1 4).trans rfl
  have ca5 : w2.cell? ⟨w.heap.size, 5, none⟩ = some (.int .u16 (n5 : Int)) := (blk_cell hk1 5).trans rfl
  have ca6 : w2.cell? ⟨w.heap.size, 6, none⟩ = some (.int .u16 (n6 : Int)) := (blk_cell hk1 6).trans rfl
  have ca7 : w2.cell? ⟨w.heap.size, 7, none⟩ = some (.int .u16 (n7 : Int)) := (blk_cell hk1 7).trans rfl
  have cb0 : w2.cell? ⟨w.heap.size + 1, 0, none⟩ = some (.int .u16 (n0 : Int)) := (blk_cell hk2 0).trans rfl
  have cb1 : w2.cell? ⟨w.heap.size + 1, 1, none⟩ = some (.int .u16 (n1 : Int)) := (blk_cell hk2 1).trans rfl
  have cb2 : w2.cell? ⟨w.heap.size + 1, 2, none⟩ = some (.int .u16 (n2 : Int)) := (blk_cell hk2 2).trans rfl
  have cb3 : w2.cell? ⟨w.heap.size + 1, 3, none⟩ = some (.int .u16 (n3 : Int)) := (blk_cell hk2 3).trans rfl
  have cb4 : w2.cell? ⟨w.heap.size + 1, 4, none⟩ = some (.int .u16 (n4 : Int)) := (blk_cell hk2 4).trans rfl
  have cb5 : w2.cell? ⟨w.heap.size + 1, 5, none⟩ = some (.int .u16 (n5 : Int)) := (blk_cell hk2 5).trans rfl
  have cb6 : w2.cell? ⟨w.heap.size + 1, 6, none⟩ = some (.int .u16 (n6 : Int)) := (blk_cell hk2 6).trans rfl
  have cb7 : w2.cell? ⟨w.heap.size + 1, 7, none⟩ = some (.int .u16 (n7 : Int)) := (blk_cell hk2 7).trans rfl
  have hla := blk_lt hk1
  have hlb := blk_lt hk2
  have HG2 := Lib.hid (hG.keep B2)
  have HI2 := Lib.hid (hI.keep B2)
  have HB := Lib.hid B2
  clear hk1 hk2 B2 hG hI
  go_upto_region 4 with fail
  refine wp_region_ext (by kernel_rfl) (by kernel_rfl) ?_
  repeat (first | go_big_quiet_step (first | (with_reducible exact ext_of (awake_walk _)) | (with_reducible exact ext_of (HP.out _)) | (with_reducible exact ext_of (HPr.out _)) | (with_reducible exact ext_of (HF.out _)) | (with_reducible exact ext_of (HFr.out _)) | (with_reducible exact ext_of (HM.out _ (HI2.out.keep (Ext.below _)))) | (with_reducible exact ext_of (HMr.out _)) | (with_reducible exact ext_of (HV.out _ (HG2.out.keep (Ext.below _)))) | (with_reducible exact ext_of (HVr.out _)) | (with_reducible exact ext_of (HK.out _)) | (with_reducible exact ext_of (HKr.out _))) | (rw [beq_self_eq_true]))
  refine wpQuiet_nil ?_
  rintro w9 ⟨⟨_, hb⟩, rfl⟩
  go_wp2_with fail
  go_returns
  exact ⟨rfl, below_step HB.out hb⟩
end Go.Proofs.YtcgdjnmfeibnoaaDoor
/-! Frame -/
namespace Go.Proofs.YtcgdjnmfeibnoaaDoor
open Go.RowKit Go.WideShapes Go.ChangeShapes Go.ChangeAt
set_option linter.unusedVariables false
set_option linter.unusedSimpArgs false
section
variable {H : Type} {enc : TypeId × Value → H} {P : Program}
theorem law_below {f : Func} {s : ChangeSpec} {apart fresh handsOn again : Bool} {W W' : World} {args : Array Value} {v : Value} {ds gs : List (DataW H)} {before pa pv : List MemPlace}
    (hW : DataW.Whole enc P f.params.toList s.vars apart W args.toList ds gs before)
    (hres : ∀ (b : Nat) (sp : Nat → Bool) (hd : Bool), DataW.TrodAll enc P W' b sp hd f.resultTypes.toList (v.resultList f.resultTypes.size) (s.fn H (ds ++ gs)).results [])
    (hargs : ∀ sp : Nat → Bool, (∀ p ∈ before, sp p.block = true) → DataW.TrodAll enc P W' 0 sp true f.params.toList args.toList (s.fn H (ds ++ gs)).args pa)
    (hvars : ∀ sp : Nat → Bool, (∀ p ∈ before, sp p.block = true) → DataW.TrodVars enc P W' sp s.vars (s.fn H (ds ++ gs)).vars pv)
    (hps : before = pa ++ pv) (hb : Below W.heap.size W W')
    (hok : ∀ (j : Nat) (t : TypeId) (r : Value), f.resultTypes[j]? = some t → (v.resultList f.resultTypes.size)[j]? = some r → Value.okWide P W' .any 0 t r) :
    s.post enc P f apart fresh handsOn again W args v W' := by
  have hlt : ∀ p ∈ before, p.block < W.heap.size := fun p hp => hW.lt p hp
  have hold : ∀ p ∈ before, (fun b => decide (b < W.heap.size)) p.block = true := fun p hp => by simpa using hlt p hp
  refine ⟨ds, gs, before, [], pa, pv, hW, hres _ _ _, hargs _ hold, hvars _ hold, World.keptBut_mono (fun p hp => ⟨hp, ?_⟩) (hb.frame (· ∈ before)), fun _ => ?_⟩
  · rw [hps, List.mem_append] at hp
    exact Or.inr hp
  · obtain ⟨_, _, _, _, _, hz, hn⟩ := hW
    refine ⟨hok, _, _, ([] ++ pa) ++ pv, ⟨[] ++ pa, pv, trodAll_append (hargs _ (fun _ _ => rfl)) (hres _ _ _), hvars _ (fun _ _ => rfl), rfl, ?_, ?_⟩, ?_⟩
    · intro b off hp
      have hin : MemPlace.cell b off ∈ before := by rw [hps]; simpa using hp
      rw [hb.frozen (hlt _ hin)]
      exact hz b off hin
    · intro ha
      have := hn ha
      rw [hps] at this
      simpa using this
    · intro p hp _
      rw [hps]
      simpa using hp
/-- All arguments read as they did, where all stays that was there. -/
theorem args_stay (hl : laidOutB P = true) {W W' : World} (hB : Below W.heap.size W W') {sp : Nat → Bool} :
    ∀ (ts : List TypeId) (vs : List Value) (ds : List (DataW H)) (ps : List MemPlace), (∀ t ∈ ts, P.readableRec t = true ∧ t < P.types.size) → DataW.TrodAll enc P W 0 (fun _ => true) true ts vs ds ps →
      (∀ p ∈ ps, p.block < W.heap.size) → (∀ p ∈ ps, sp p.block = true) → DataW.TrodAll enc P W' 0 sp true ts vs ds ps
  | [], vs, ds, ps, _, h, _, _ => by
    obtain ⟨rfl, rfl, rfl⟩ := trodAll_nil h
    exact trodAll_mk0
  | t :: ts, vs, ds, ps, hr, h, hlt, hs => by
    obtain ⟨v, vs1, d, ds1, a, b, rfl, rfl, rfl, h1, h2⟩ := trodAll_cons h
    have hlt' := hlt
    exact trodAll_cons_mk (WideElems.Trod_stays hl (hr t (by simp)).1 (hr t (by simp)).2 h1 (fun x hx => hB.same (hlt x (by simp [hx]))) (fun x hx => hs x (by simp [hx])))
      (args_stay hl hB ts vs1 ds1 b (fun t ht => hr t (by simp [ht])) h2 (fun p hp => hlt p (by simp [hp])) (fun p hp => hs p (by simp [hp])))
/-- THE STEP OF A LAW's ROW. -/
theorem law_post {f : Func} {s : ChangeSpec} {tb : TypeId} {W W' : World} {args : Array Value} {ds : List (DataW H)} {before : List MemPlace} (hv : s.vars = []) (hfn : s.fn H ds = { results := [.lit (.bool true)], args := ds })
    (hres : f.resultTypes = #[tb]) (hb : P.underlying tb = some .bool) (hl : laidOutB P = true) (hr : ∀ t ∈ f.params.toList, P.readableRec t = true ∧ t < P.types.size)
    (hW : DataW.Whole enc P f.params.toList s.vars false W args.toList ds [] before) (hB : Below W.heap.size W W') : s.post enc P f false true false false W args (.bool true) W' := by
  have hW' := hW
  obtain ⟨p, q, hA, hV, hpq, hfz, hnd⟩ := hW
  have hA : DataW.TrodAll enc P W 0 (fun _ => true) true f.params.toList args.toList ds p := hA
  rw [hv] at hV
  obtain ⟨_, rfl⟩ := trodVars_none hV
  have hlt : ∀ x ∈ before, x.block < W.heap.size := fun x hx => hW'.lt x hx
  subst hpq
  refine law_below (pa := p) (pv := []) hW' ?_ ?_ ?_ (by simp) hB ?_
  · intro b sp hd
    rw [List.append_nil, hfn, hres]
    exact trodAll_cons_mk (shut_bool hb true) trodAll_mk0
  · intro sp hs
    rw [List.append_nil, hfn]
    exact args_stay hl hB _ _ _ _ hr hA (fun x hx => hlt x (by simp [hx])) (fun x hx => hs x (by simp [hx]))
  · intro sp hs
    rw [List.append_nil, hfn, hv]
    rfl
  · exact ok_one hres rfl (okWide_bool_mk hb true)
end
end Go.Proofs.YtcgdjnmfeibnoaaDoor
/-! SixOpen -/
namespace Go.Proofs.YtcgdjnmfeibnoaaDoor
open Go.RowKit Go.WideShapes
set_option linter.unusedVariables false
set_option linter.unusedSimpArgs false
theorem six_cells : Tryd.prog.cellsOf 24 = 8 := by kernel_rfl
theorem six_types : Tryd.prog.cellTypes Tryd.prog.depth 24 = some (List.replicate 8 22) := by kernel_rfl
set_option maxRecDepth 100000 in
theorem u16_open {w : World} {base : Nat} {v : Value} (h : Cell.okWide Tryd.prog w .any base 22 v) : ∃ x : Int, v = .int .u16 x ∧ 0 ≤ x ∧ x ≤ 65535 := by
  unfold Cell.okWide at h
  rw [Tryd.underlying22] at h
  cases v <;> simp [Cell.ok, Tryd.underlying22] at h
  rename_i k n
  obtain ⟨rfl, h1, h2⟩ := h
  exact ⟨n, rfl, by simpa [IntKind.min, IntKind.signed] using h1, by simpa [IntKind.max, IntKind.signed, IntKind.bits] using h2⟩
set_option maxRecDepth 100000 in
theorem six_open {w : World} {base : Nat} {v : Value} (h : Value.okWide Tryd.prog w .any base 24 v) :
    ∃ x0 x1 x2 x3 x4 x5 x6 x7 : Int, v = A8 x0 x1 x2 x3 x4 x5 x6 x7 ∧ R8 x0 x1 x2 x3 x4 x5 x6 x7 := by
  unfold Value.okWide at h
  rw [Tryd.underlying24] at h
  obtain ⟨cs, rfl, hsz, ts, hts, _, hc⟩ := h
  rw [six_cells] at hsz
  rw [six_types] at hts
  obtain rfl := (Option.some.inj hts).symm
  have key : ∀ i, (hi : i < 8) → ∃ x : Int, cs[i]? = some (.int .u16 x) ∧ 0 ≤ x ∧ x ≤ 65535 := by
    intro i hi
    obtain ⟨u, hu, hok⟩ := hc i cs[i] (Array.getElem?_eq_getElem (by omega))
    obtain rfl : u = 22 := List.eq_of_mem_replicate (List.mem_of_getElem? hu)
    obtain ⟨x, hx, h0, h1⟩ := u16_open hok
    exact ⟨x, by rw [Array.getElem?_eq_getElem (by omega), hx], h0, h1⟩
  obtain ⟨x0, e0, a0, b0⟩ := key 0 (by omega)
  obtain ⟨x1, e1, a1, b1⟩ := key 1 (by omega)
  obtain ⟨x2, e2, a2, b2⟩ := key 2 (by omega)
  obtain ⟨x3, e3, a3, b3⟩ := key 3 (by omega)
  obtain ⟨x4, e4, a4, b4⟩ := key 4 (by omega)
  obtain ⟨x5, e5, a5, b5⟩ := key 5 (by omega)
  obtain ⟨x6, e6, a6, b6⟩ := key 6 (by omega)
  obtain ⟨x7, e7, a7, b7⟩ := key 7 (by omega)
  refine ⟨x0, x1, x2, x3, x4, x5, x6, x7, ?_, ⟨⟨a0, b0⟩, ⟨a1, b1⟩, ⟨a2, b2⟩, ⟨a3, b3⟩, ⟨a4, b4⟩, ⟨a5, b5⟩, ⟨a6, b6⟩, ⟨a7, b7⟩⟩⟩
  congr 1
  apply Array.ext_getElem?
  intro i
  match i with
  | 0 => rw [e0]; rfl
  | 1 => rw [e1]; rfl
  | 2 => rw [e2]; rfl
  | 3 => rw [e3]; rfl
  | 4 => rw [e4]; rfl
  | 5 => rw [e5]; rfl
  | 6 => rw [e6]; rfl
  | 7 => rw [e7]; rfl
  | i + 8 => rw [Array.getElem?_eq_none (by omega)]; rfl
end Go.Proofs.YtcgdjnmfeibnoaaDoor
/-! SixPrintsAll -/
namespace Go.Proofs.YtcgdjnmfeibnoaaDoor
open Go.RowKit Go.Proofs.YtcgdjnmfeibnoaaDoorW.PrintWords
set_option linter.unusedVariables false
theorem prints_all (x0 x1 x2 x3 x4 x5 x6 x7 : Int) (h : R8 x0 x1 x2 x3 x4 x5 x6 x7) (w : World) (hG : GW w) (hI : GI w) :
    Calls Tryd.prog 8 #[A8 x0 x1 x2 x3 x4 x5 x6 x7] w fun e w' => e = .returned (.bool true) ∧ Below w.heap.size w w' := by
  obtain ⟨⟨a0, b0⟩, ⟨a1, b1⟩, ⟨a2, b2⟩, ⟨a3, b3⟩, ⟨a4, b4⟩, ⟨a5, b5⟩, ⟨a6, b6⟩, ⟨a7, b7⟩⟩ := h
  obtain ⟨n0, rfl⟩ := Int.eq_ofNat_of_zero_le a0
  obtain ⟨n1, rfl⟩ := Int.eq_ofNat_of_zero_le a1
  obtain ⟨n2, rfl⟩ := Int.eq_ofNat_of_zero_le a2
  obtain ⟨n3, rfl⟩ := Int.eq_ofNat_of_zero_le a3
  obtain ⟨n4, rfl⟩ := Int.eq_ofNat_of_zero_le a4
  obtain ⟨n5, rfl⟩ := Int.eq_ofNat_of_zero_le a5
  obtain ⟨n6, rfl⟩ := Int.eq_ofNat_of_zero_le a6
  obtain ⟨n7, rfl⟩ := Int.eq_ofNat_of_zero_le a7
  exact prints_walk n0 n1 n2 n3 n4 n5 n6 n7 (by omega) (by omega) (by omega) (by omega) (by omega) (by omega) (by omega) (by omega) w hG hI
end Go.Proofs.YtcgdjnmfeibnoaaDoor
/-! SixPrintsCard -/
namespace Go.Proofs.YtcgdjnmfeibnoaaDoor.fnSixPrints
open Go.ChangeShapes Go.WideShapes Go.ChangeAt Go.RowKit Go.Proofs.YtcgdjnmfeibnoaaDoor
set_option linter.unusedVariables false
theorem own : ownKnob Tryd.prog.godebug = none := by kernel_rfl
theorem laidOut : laidOutB Tryd.prog = true := by kernel_rfl
theorem pow10_of {W : World} (hL : laidMetH Tryd.prog Rows.sixPrintsRow.laid W) : Lib.TabIs Tryd.prog W "internal/strconv.uint64pow10" .u64 Lib.pow10Tab := by
  have h1 := laidMetH.filter (fun x => x.1 == "internal/strconv.uint64pow10") hL
  rw [show Rows.sixPrintsRow.laid.filter (fun x => x.1 == "internal/strconv.uint64pow10") = [("internal/strconv.uint64pow10", Lib.tabData .u64 Lib.pow10Tab)] by kernel_rfl] at h1
  exact Lib.tabIs_of_head (g := 4) (n := 20) (rest := []) (by kernel_rfl) (by kernel_rfl) Tryd.underlying212 Tryd.underlying72 (by kernel_rfl) (by kernel_rfl) h1
theorem gw_of {W : World} (h : W.ShapedOpen Tryd.prog) (hL : laidMetH Tryd.prog Rows.sixPrintsRow.laid W) : GW W where
  maxLen := Tryd.laysM219.s1_3 W h
theorem gi_of {W : World} (hL : laidMetH Tryd.prog Rows.sixPrintsRow.laid W) : GI W where
  pow10 := pow10_of hL
set_option maxRecDepth 100000 in
theorem contract (H : Type) (enc : TypeId × Value → H) (W : World) (base : Nat) (args : Array Value) (ds gs : List (DataW H)) (before : List MemPlace)
    (hval : ∀ (j : Nat) t v, Tryd.f8.params[j]? = some t → args[j]? = some v → Value.okWide Tryd.prog W .any base t v)
    (hW : DataW.Whole enc Tryd.prog Tryd.f8.params.toList Rows.sixPrintsSpec.vars false W args.toList ds gs before) (hL : laidMetH Tryd.prog Rows.sixPrintsRow.laid W) (hsh : W.ShapedOpen Tryd.prog) :
    Calls Tryd.prog 8 args W fun e W' => ∃ v, e = .returned v ∧ Rows.sixPrintsSpec.post enc Tryd.prog Tryd.f8 false true false false W args v W' := by
  have hW' := hW
  obtain ⟨p, q, hA0, hV, rfl, hfz, hnd⟩ := hW
  have hA : DataW.TrodAll enc Tryd.prog W 0 (fun _ => true) true Tryd.f8.params.toList args.toList ds p := hA0
  rw [Tryd.params8] at hA hval
  obtain ⟨v0, vs0, d0, ds0, p0, q0, hargs, rfl, rfl, h0, r0⟩ := trodAll_cons hA
  obtain ⟨rfl, rfl, rfl⟩ := trodAll_nil r0
  obtain rfl : args = #[v0] := by cases args; simp_all
  obtain ⟨rfl, rfl⟩ := trodVars_none hV
  obtain ⟨x00, x01, x02, x03, x04, x05, x06, x07, rfl, r0⟩ := six_open (hval 0 24 v0 rfl rfl)
  clear hA0
  have hG := gw_of hsh hL
  have hI := gi_of hL
  refine (prints_all x00 x01 x02 x03 x04 x05 x06 x07 r0 W hG hI).mono fun e W' ⟨he, hg⟩ => ?_
  subst he
  exact ⟨_, rfl, law_post (s := Rows.sixPrintsSpec) (f := Tryd.f8) rfl rfl (tb := 4) rfl Tryd.underlying4 laidOut (by rw [Tryd.params8]; intro t ht; simp at ht; subst ht; exact ⟨by kernel_rfl, of_decide_eq_true (by kernel_rfl)⟩) hW' hg⟩
def accepts : List Nat := [128, 191, 160, 191, 128, 159, 144, 191, 128, 143, 0, 0, 0, 0, 0, 0, 0, 0, 0, 0, 0, 0, 0, 0, 0, 0, 0, 0, 0, 0, 0, 0]
/-- A world for the witness: the settled one, the tables holding what their initialisers lay. -/
noncomputable def laidWorld (os : Os) : World := { World.holding Tryd.prog os ⟨#[], #[], []⟩ with heap := ((((((World.holding Tryd.prog os ⟨#[], #[], []⟩).heap.modify 3 fun | .cells _ t frozen => .cells (accepts.map fun (z : Nat) => Value.int .u8 z).toArray t frozen | o => o).modify 2 fun | .cells _ t frozen => .cells (Go.Pinned.utf8FirstZ.map fun (z : Nat) => Value.int .u8 z).toArray t frozen | o => o).modify 5 fun | .cells _ t frozen => .cells (([0, 1, 28, 2, 29, 14, 24, 3, 30, 22, 20, 15, 25, 17, 4, 8, 31, 27, 13, 23, 21, 19, 16, 7, 26, 12, 18, 6, 11, 5, 10, 9] : List Nat).map fun (z : Nat) => Value.int .u8 z).toArray t frozen | o => o).modify 0 fun | .cells _ t frozen => .cells ((Lib.deBruijn64tab : List Nat).map fun (z : Nat) => Value.int .u8 z).toArray t frozen | o => o).modify 4 fun | .cells _ t frozen => .cells (([1, 10, 100, 1000, 10000, 100000, 1000000, 10000000, 100000000, 1000000000, 10000000000, 100000000000, 1000000000000, 10000000000000, 100000000000000, 1000000000000000, 10000000000000000, 100000000000000000, 1000000000000000000, 10000000000000000000] : List Nat).map fun (z : Nat) => Value.int .u64 z).toArray t frozen | o => o) }
theorem laid_met (os : Os) : laidMet Tryd.prog Rows.sixPrintsRow.laid ((laidWorld os).forCall (fun _ _ => 0) ⟨#[], #[.agg #[.int .u16 0, .int .u16 0, .int .u16 0, .int .u16 0, .int .u16 0, .int .u16 0, .int .u16 0, .int .u16 0]], []⟩).memory :=
  laidMet_of_run' 8 (by kernel_rfl) (by kernel_rfl)
theorem reads (os : Os) {H : Type} (enc : TypeId × Value → H) : ∃ places, DataW.whole enc Tryd.prog ((laidWorld os).forCall (fun _ _ => 0) ⟨#[], #[.agg #[.int .u16 0, .int .u16 0, .int .u16 0, .int .u16 0, .int .u16 0, .int .u16 0, .int .u16 0, .int .u16 0]], []⟩).memory Tryd.f8.params.toList Rows.sixPrintsSpec.vars false (#[.agg #[.int .u16 0, .int .u16 0, .int .u16 0, .int .u16 0, .int .u16 0, .int .u16 0, .int .u16 0, .int .u16 0]] : Array Value).toList 8 = some ([.agg [.lit (.int .u16 0), .lit (.int .u16 0), .lit (.int .u16 0), .lit (.int .u16 0), .lit (.int .u16 0), .lit (.int .u16 0), .lit (.int .u16 0), .lit (.int .u16 0)]], [], places) :=
  ⟨[], by kernel_rfl⟩
set_option maxRecDepth 100000 in
theorem lifted (os : Os) (started : os.Started) (H : Type) (enc : TypeId × Value → H) (F : Stop.Interp) :
    ReturnsInHanded {} Tryd.checked os 8 .any ((OpenSpec.ofChange Rows.sixPrintsSpec).preRow enc Tryd.prog Tryd.f8 Rows.sixPrintsRow.domain false Rows.sixPrintsRow.laid) (((OpenSpec.ofChange Rows.sixPrintsSpec).at F).post enc Tryd.prog Tryd.f8 false true false false) := by
  obtain ⟨places, hx⟩ := reads os enc
  refine returnsInHanded_of_row (C := Tryd.checked) (s := OpenSpec.ofChange Rows.sixPrintsSpec) own started (by kernel_rfl) Tryd.func8
    (witness_row_at (enc := enc) (C := Tryd.checked) false (laidWorld os) #[.agg #[.int .u16 0, .int .u16 0, .int .u16 0, .int .u16 0, .int .u16 0, .int .u16 0, .int .u16 0, .int .u16 0]] rfl (by kernel_rfl) (by kernel_rfl) (by kernel_rfl)
      (OpenSpec.preRow_of_cond 8 hx (by kernel_rfl) (fun k hk => by cases hk) (by kernel_rfl) (laid_met os))) ?_
  intro W base args ds gs before hval hW _ _ _ hL hsh _
  exact contract H enc W base args ds gs before hval hW hL hsh
theorem said : Rows.SixPrintsSaid :=
  OpenClaim.holds_of_cond 8 Tryd.f8 rfl rfl rfl rfl rfl rfl rfl ⟨rfl, rfl, rfl, rfl, rfl⟩ rfl rfl rfl rfl rfl (by kernel_rfl) Tryd.func8 (by kernel_rfl)
    (of_decide_eq_true (by kernel_rfl)) (by unfold Func.isWrapper; first | (rw [if_pos (by decide +kernel)]; kernel_rfl) | (rw [if_neg (by decide +kernel)]; exact ⟨rfl, rfl⟩))
    (fun os started H enc _ F => by rw [OpenClaim.pre_eq_preRow]; exact lifted os started H enc F)
/-- No parameter wants a stand-in; the program's own looks are off. -/
theorem plain (f : FuncId) (fn : Func) (hf : Tryd.pinned.checked.prog.funcNamed "postern/posternlaw21.SixPrints" = some f) (hfn : Tryd.pinned.checked.prog.funcs[f]? = some fn) :
    false = Tryd.pinned.checked.prog.looks [] ∧ ∀ (j : Nat) t, fn.params[j]? = some t → Tryd.pinned.checked.prog.wantsStandIn t = false := by
  obtain rfl : f = 8 := Option.some.inj ((show Tryd.prog.funcNamed "postern/posternlaw21.SixPrints" = some 8 by kernel_rfl).symm.trans hf) |>.symm
  obtain rfl : fn = Tryd.f8 := (Option.some.inj (Tryd.func8.symm.trans hfn)).symm
  refine ⟨by kernel_rfl, fun j t ht => ?_⟩
  rw [Tryd.params8] at ht
  have hm := Array.mem_of_getElem? ht
  simp at hm
  subst hm
  exact (show Tryd.prog.wantsStandIn 24 = false by kernel_rfl)
theorem card : Rows.SixPrintsCardSaid :=
  Claim7.holds_tied_plain_at .later [] _ _ _ _ said (fun _ h => by cases h) (by kernel_rfl) (fun _ h => by cases h) sixPrints_row_tie rfl ⟨rfl, rfl⟩ (by kernel_rfl) rfl plain (by kernel_rfl)
#print axioms card
end Go.Proofs.YtcgdjnmfeibnoaaDoor.fnSixPrints
