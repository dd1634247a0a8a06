/- What octet.Number answers: the number of digits to a base, or the first place that is no digit. -/
import Derived.Test.YtllhdekhgbbibaaDoorOct
import Derived.Laws.Externs
import Derived.Outline
namespace Go.Proofs.YtllhdekhgbbibaaDoor
open Go.RowKit Go.Proofs.YtllhdekhgbbibaaDoorW.PrintWords
set_option linter.unusedVariables false
set_option linter.unusedSimpArgs false

/-- What is read of digits to a base: n so far, at place i. -/
def numL (base : Int) : List UInt8 → Int → Int → Int × Int × Int
  | [], n, _ => if 18446744073709551616 ≤ n then (0, 0, 13) else (n, 0, 0)
  | c :: l, n, i => if digV (c.toNat : Int) base < 0 then (0, i, 12) else numL base l (n * base + digV (c.toNat : Int) base) (i + 1)
def numV (l : List UInt8) (base : Int) : Int × Int × Int := if base < 2 ∨ 36 < base then (0, 0, 11) else if l = [] then (0, 0, 12) else numL base l 0 0

def hiM (x y : Int) : Int := x * y / 18446744073709551616
def loM (x y : Int) : Int := x * y % 18446744073709551616
def sumA (x y : Int) : Int := (x + y) % 18446744073709551616
def carA (x y : Int) : Int := (x + y) / 18446744073709551616
theorem mul64_walk (x y : Int) (hx0 : 0 ≤ x) (hx : x < 18446744073709551616) (hy0 : 0 ≤ y) (hy : y < 18446744073709551616) (w : World) :
    Calls Tryd.prog 34 #[.int .u64 x, .int .u64 y] w fun e w' => e = .returned (.tuple #[.int .u64 (hiM x y), .int .u64 (loM x y)]) ∧ w = w' := by
  obtain ⟨a, rfl⟩ := Int.eq_ofNat_of_zero_le hx0
  obtain ⟨b, rfl⟩ := Int.eq_ofNat_of_zero_le hy0
  refine (Tryd.bits_Mul64 a b (by omega) (by omega) w).mono ?_
  rintro e w' ⟨rfl, rfl⟩
  exact ⟨by unfold hiM loM; simp, rfl⟩
theorem add64_0 (x y : Int) (hx : 0 ≤ x) (hy : 0 ≤ y) (w : World) : (callFunc 35 #[.int .u64 x, .int .u64 y, .int .u64 0]).run Tryd.prog w =
    .ok (.value (.tuple #[.int .u64 (sumA x y), .int .u64 (carA x y)])) w := by
  rw [run_callFunc_extern Tryd.func35 (by kernel_rfl) (by kernel_rfl) (by kernel_rfl) (e := add64Entry) (by kernel_rfl), run_add64 x y 0 hx hy (Int.le_refl 0) (by decide)]
  unfold sumA carA
  simp
theorem add64_at (x y : Int) (hx : 0 ≤ x) (hy : 0 ≤ y) : ∀ w : World, (callFunc 35 #[.int .u64 x, .int .u64 y, .int .u64 0]).run Tryd.prog w =
    .ok (.value (.tuple #[.int .u64 (sumA x y), .int .u64 (carA x y)])) w := add64_0 x y hx hy
/-- What a round does, in numbers. -/
theorem num_step {N base d : Int} (h0 : 0 ≤ N) (hb : 2 ≤ base) (hb' : base ≤ 36) (hd : 0 ≤ d) (hd' : d < base) :
    0 ≤ hiM (N % 18446744073709551616) base ∧ hiM (N % 18446744073709551616) base ≤ 36 ∧ 0 ≤ loM (N % 18446744073709551616) base ∧ loM (N % 18446744073709551616) base < 18446744073709551616 ∧
    0 ≤ carA (loM (N % 18446744073709551616) base) d ∧ carA (loM (N % 18446744073709551616) base) d ≤ 1 ∧ sumA (loM (N % 18446744073709551616) base) d = (N * base + d) % 18446744073709551616 ∧ 0 ≤ N * base + d ∧
    (18446744073709551616 ≤ N → 18446744073709551616 ≤ N * base + d) ∧ (N < 18446744073709551616 → (0 < hiM (N % 18446744073709551616) base + carA (loM (N % 18446744073709551616) base) d ↔ 18446744073709551616 ≤ N * base + d)) := by
  have hNb : N ≤ N * base := by have := Int.mul_le_mul_of_nonneg_left (show (1 : Int) ≤ base by omega) h0; omega
  have hm : N % 18446744073709551616 * base % 18446744073709551616 = N * base % 18446744073709551616 := by rw [Int.mul_emod, Int.emod_emod, ← Int.mul_emod]
  have h1 : 0 ≤ N % 18446744073709551616 * base := Int.mul_nonneg (by omega) (by omega)
  have h2 : N % 18446744073709551616 * base ≤ 18446744073709551615 * 36 := by
    have a : N % 18446744073709551616 * base ≤ 18446744073709551615 * base := Int.mul_le_mul_of_nonneg_right (by omega) (by omega)
    omega
  unfold hiM loM carA sumA
  have h3 : N < 18446744073709551616 → N % 18446744073709551616 * base = N * base := fun h => by rw [Int.emod_eq_of_lt h0 h]
  generalize N % 18446744073709551616 * base = p at *
  generalize N * base = q at *
  refine ⟨by omega, by omega, by omega, by omega, by omega, by omega, by omega, by omega, fun h => by omega, fun h => ?_⟩
  have := h3 h
  subst this
  constructor <;> intro h <;> omega
theorem digV_lt {b base : Int} (h : 2 ≤ base) : digV b base < base := by
  unfold digV
  repeat' split
  all_goals omega
theorem numL_neg {base : Int} {c : UInt8} {l : List UInt8} {n i : Int} (h : digV (c.toNat : Int) base < 0) : numL base (c :: l) n i = (0, i, 12) := by rw [numL, if_pos h]
theorem numL_pos {base : Int} {c : UInt8} {l : List UInt8} {n i : Int} (h : ¬ digV (c.toNat : Int) base < 0) : numL base (c :: l) n i = numL base l (n * base + digV (c.toNat : Int) base) (i + 1) := by rw [numL, if_neg h]
theorem drop_at (s : ByteArray) (k : Nat) (h : k < s.size) : s.data.toList.drop k = s[k] :: s.data.toList.drop (k + 1) := by
  rw [List.drop_eq_getElem_cons (by simpa using h)]
  rfl
theorem ret_tup3 {k : IntKind} {a b c a' b' c' : Int} (h : (a, b, c) = (a', b', c')) : Ending.returned (.tuple #[.int k a, .int .i64 b, .int .i64 c]) = .returned (.tuple #[.int k a', .int .i64 b', .int .i64 c']) := by
  injection h with h1 h2
  injection h2 with h2 h3
  rw [h1, h2, h3]
/-- A post that the walk does not look into. -/
def Num3 (r : Int × Int × Int) (w : World) (e : Ending) (w' : World) : Prop := e = .returned (.tuple #[.int .u64 r.1, .int .i64 r.2.1, .int .i64 r.2.2]) ∧ w = w'
theorem num3_mk {r : Int × Int × Int} {w : World} {a b c : Int} (h : r = (a, b, c)) : Num3 r w (.returned (.tuple #[.int .u64 a, .int .i64 b, .int .i64 c])) w := by
  subst h
  exact ⟨rfl, rfl⟩

set_option maxHeartbeats 4000000 in
set_option maxRecDepth 100000 in
theorem number_walk (s : ByteArray) (base : Int) (hs : s.size ≤ 9223372036854775807) (w : World) : Calls Tryd.prog 25 #[.string s, .int .i64 base] w (Num3 (numV s.data.toList base) w) := by
  by_cases hb : base < 2 ∨ 36 < base
  · have hv : numV s.data.toList base = (0, 0, 11) := if_pos hb
    have HV := Aside0.mk hv
    clear hv
    rcases hb with hb | hb
    · go_enter Tryd.func25, Tryd.ntmps25
      go_wp2_with fail
      all_goals go_ret3
      all_goals exact num3_mk HV.out
    · have hb2 : ¬ base < 2 := by omega
      go_enter Tryd.func25, Tryd.ntmps25
      go_wp2_with fail
      all_goals go_ret3
      all_goals exact num3_mk HV.out
  · have h2 : 2 ≤ base := by omega
    have h3 : base ≤ 36 := by omega
    by_cases hnil : s.data.toList = []
    · have hv : numV s.data.toList base = (0, 0, 12) := by rw [numV, if_neg hb, if_pos hnil]
      have HV := Aside0.mk hv
      clear hv hb
      have he : s.toList.isEmpty = true := by rw [ByteArray.toList_eq]; simp [hnil]
      go_enter Tryd.func25, Tryd.ntmps25
      go_wp2_with fail
      all_goals go_tidy
      all_goals go_ret3
      all_goals exact num3_mk HV.out
    · have hv : numV s.data.toList base = numL base s.data.toList 0 0 := by rw [numV, if_neg hb, if_neg hnil]
      have HV := Aside0.mk hv
      clear hv hb
      have he : s.toList.isEmpty = false := by rw [ByteArray.toList_eq]; simpa using hnil
      go_enter Tryd.func25, Tryd.ntmps25
      go_wp2_with fail
      go_loop [7, 8, 27] (fun n g i => ∃ (k : Nat) (N : Int), k ≤ s.size ∧ 0 ≤ N ∧ n = .int .u64 (N % 18446744073709551616) ∧ g = .bool (decide (18446744073709551616 ≤ N)) ∧ i = .int .i64 k ∧ Aside0 (numL base s.data.toList 0 0 = numL base (s.data.toList.drop k) N k)) (fun _ _ i => s.size - (intOf i).toNat)
      case atStart => exact ⟨0, 0, Nat.zero_le _, Int.le_refl 0, rfl, rfl, rfl, ⟨rfl⟩⟩
      case round =>
        obtain ⟨k, N, hk, hN, rfl, rfl, rfl, HL⟩ := hrel
        by_cases hlt : k < s.size
        · obtain ⟨d, hd⟩ : ∃ d, d = digV (s[k].toNat : Int) base := ⟨_, rfl⟩
          have hD := fun w => digit_walk (s[k].toNat : Int) base (by omega) (by have := s[k].toNat_lt; omega) w
          have hdlt : d < base := hd ▸ digV_lt h2
          rw [← hd] at hD
          have hdrop := drop_at s k hlt
          have HD := Aside0.mk hdrop
          have HE := Aside0.mk hd
          have HDW := Aside0.mk hD
          clear hdrop hd hD
          by_cases hneg : d < 0
          · go_wp2_with (go_at_call 33; refine (HDW.out _).mono ?_; rintro e w' ⟨rfl, rfl⟩)
            all_goals go_tidy
            all_goals go_ret3
            all_goals exact num3_mk (by rw [HV.out, HL.out, HD.out]; exact numL_neg (by rw [← HE.out]; exact hneg))
          · have hd0 : 0 ≤ d := by omega
            obtain ⟨s1, s2, s3, s4, s5, s6, s7, s8, s9, s10⟩ := num_step hN h2 h3 hd0 hdlt
            have S9 := Aside0.mk s9
            have S10 := Aside0.mk s10
            clear s9 s10
            have hnb : N % 18446744073709551616 < 18446744073709551616 := by omega
            have hnb0 : 0 ≤ N % 18446744073709551616 := by omega
            go_wp2_with (first | (go_at_call 33; refine (HDW.out _).mono ?_; rintro e w' ⟨rfl, rfl⟩) | (go_at_call 34; refine (mul64_walk _ _ (by omega) (by omega) (by omega) (by omega) _).mono ?_; rintro e w' ⟨rfl, rfl⟩) | simp only [add64_at _ d s3 hd0])
            all_goals go_tidy
            all_goals refine ⟨⟨k + 1, N * base + d, by omega, s8, by first | rfl | rw [s7], ?_, by go_num, ⟨by rw [HL.out, HD.out, numL_pos (by rw [← HE.out]; exact hneg), ← HE.out]; rfl⟩⟩, by simp [intOf]; omega⟩
            · rw [decide_eq_false (show ¬ 18446744073709551616 ≤ N by omega), Bool.false_or]
              congr 1
              rw [decide_eq_decide]
              exact S10.out (by omega)
            · rw [decide_eq_true (S9.out (by omega))]
        · obtain rfl : k = s.size := by omega
          have hL : numL base s.data.toList 0 0 = numL base [] N s.size := by rw [HL.out, List.drop_of_length_le (by simp)]
          by_cases hbig : 18446744073709551616 ≤ N
          · have hf : numV s.data.toList base = (0, 0, 13) := by rw [HV.out, hL, numL, if_pos hbig]
            have HF := Aside0.mk hf
            clear hL hf
            go_wp2_with fail
            all_goals go_tidy
            all_goals go_ret3
            all_goals exact num3_mk HF.out
          · have hf : numV s.data.toList base = (N % 18446744073709551616, 0, 0) := by rw [HV.out, hL, numL, if_neg hbig, Int.emod_eq_of_lt hN (by omega)]
            have HF := Aside0.mk hf
            clear hL hf
            go_wp2_with fail
            all_goals go_tidy
            all_goals go_ret3
            all_goals exact num3_mk HF.out
end Go.Proofs.YtllhdekhgbbibaaDoor
