/- The document's Print, plainly. -/
import Derived.Test.YtgnahagnmodpdaaDoorFourBits
namespace Go.Proofs.YtgnahagnmodpdaaDoor
open Go.RowKit Go.Proofs.YtgnahagnmodpdaaDoorW.PrintWords Go.Proofs.YtgnahagnmodpdaaDoor.X Go.IntWalk
set_option linter.unusedVariables false
set_option linter.unusedSimpArgs false

theorem str_one (x : Int) (h0 : 0 ≤ x) (h1 : x < 10) : strOfNums [(wrap64 (48 + x)) % 256] = BA [dgt x.toNat] := by
  unfold strOfNums BA dgt
  rw [wrap64_in _ (by omega)]
  simp only [List.map_cons, List.map_nil]
  rw [show ((48 + x) % 256).toNat = 48 + x.toNat by omega]
theorem ba_append (a b : List UInt8) : BA a ++ BA b = BA (a ++ b) := ba_ext (by simp [BA])
theorem rp_j1 (n v : Int) (i : Nat) (out : List UInt8) (ho : out.length ≤ 100) (hi : i ≤ 3) (v0 : 0 ≤ v) (v1 : v ≤ 255) (r : ByteArray) (h : Ev (fun k => posternref20_Print.l0 k n (BA (out ++ dec3 v.toNat)) ((i + 1 : Nat) : Int)) r) :
    Ev (fun k => posternref20_Print.j1 k n (BA out) (i : Int) v) r := by
  refine Ev.step (fun k => ?_) h
  have d1 : Int.tdiv v 100 = v / 100 := Int.tdiv_eq_ediv_of_nonneg v0
  have d2 : Int.tdiv v 10 = v / 10 := Int.tdiv_eq_ediv_of_nonneg v0
  have d3 : Int.tmod v 10 = v % 10 := Int.tmod_eq_emod_of_nonneg v0
  have d4 : Int.tmod (v / 10) 10 = v / 10 % 10 := Int.tmod_eq_emod_of_nonneg (by omega)
  have hd : dec3 v.toNat = (if 100 ≤ v.toNat then [dgt (v.toNat / 100)] else []) ++ (if 10 ≤ v.toNat then [dgt (v.toNat / 10 % 10)] else []) ++ [dgt (v.toNat % 10)] := rfl
  simp only [posternref20_Print.j1, Option.bind_some]
  rw [d1, d2, d3, wrap64_in (v / 100) (by omega), wrap64_in (v / 10) (by omega), d4, str_one (v / 100) (by omega) (by omega), str_one (v / 10 % 10) (by omega) (by omega), str_one (v % 10) (by omega) (by omega)]
  rw [show (v / 100).toNat = v.toNat / 100 by omega, show (v / 10 % 10).toNat = v.toNat / 10 % 10 by omega, show (v % 10).toNat = v.toNat % 10 by omega, wrap64_in ((i : Int) + 1) (by omega), show (i : Int) + 1 = ((i + 1 : Nat) : Int) by omega]
  simp only [ba_append, ba_size, List.length_append, List.length_cons, List.length_nil]
  by_cases h100 : v ≥ 100
  · rw [if_pos h100, if_pos (by omega), if_pos (by omega), if_pos (by omega), if_pos (by omega)]
    rw [hd, if_pos (by omega), if_pos (by omega)]
    simp only [List.append_assoc]
  · rw [if_neg h100]
    by_cases h10 : v ≥ 10
    · rw [if_pos h10, if_pos (by omega), if_pos (by omega)]
      rw [hd, if_neg (by omega), if_pos (by omega)]
      simp only [List.append_assoc, List.nil_append]
    · rw [if_neg h10, if_pos (by omega)]
      rw [hd, if_neg (by omega), if_neg (by omega)]
      simp only [List.nil_append]
theorem rp_byte (n : Int) (h0 : 0 ≤ n) (h1 : n ≤ 4294967295) : (shr .u32 n (IntKind.u64.wrap (wrap64 (24 - wrap64 (8 * 0)))) = n / 16777216) ∧ (shr .u32 n (IntKind.u64.wrap (wrap64 (24 - wrap64 (8 * 1)))) = n / 65536) ∧ (shr .u32 n (IntKind.u64.wrap (wrap64 (24 - wrap64 (8 * 2)))) = n / 256) ∧ (shr .u32 n (IntKind.u64.wrap (wrap64 (24 - wrap64 (8 * 3)))) = n) := by
  have e0 : IntKind.u64.wrap (wrap64 (24 - wrap64 (8 * 0))) = 24 := by decide +kernel
  have e1 : IntKind.u64.wrap (wrap64 (24 - wrap64 (8 * 1))) = 16 := by decide +kernel
  have e2 : IntKind.u64.wrap (wrap64 (24 - wrap64 (8 * 2))) = 8 := by decide +kernel
  have e3 : IntKind.u64.wrap (wrap64 (24 - wrap64 (8 * 3))) = 0 := by decide +kernel
  rw [e0, e1, e2, e3]
  refine ⟨?_, ?_, ?_, ?_⟩
  · show n / 2 ^ 24 = _
    rfl
  · show n / 2 ^ 16 = _
    rfl
  · show n / 2 ^ 8 = _
    rfl
  · show n / 2 ^ 0 = _
    simp
theorem and_255 (x : Int) (h0 : 0 ≤ x) (h1 : x ≤ 4294967295) : wrap64 (Go.bits .and .u32 x 255) = x % 256 := by
  obtain ⟨N, rfl⟩ := Int.eq_ofNat_of_zero_le h0
  rw [show (255 : Int) = ((255 : Nat) : Int) from rfl, u32_and_nat _ _ (by omega) (by decide), nat_and_255, wrap64_in _ (by omega)]
  omega
theorem rp_end (n : Int) (out : List UInt8) : Ev (fun k => posternref20_Print.l0 k n (BA out) ((3 + 1 : Nat) : Int)) (BA out) := by
  refine Ev.step (f := fun k => some (BA out)) (fun k => ?_) (Ev.now _)
  simp only [posternref20_Print.l0]
  rw [if_neg (by decide)]
theorem rp_step (n b : Int) (i : Nat) (hi : i ≤ 3) (out : List UInt8) (ho : out.length ≤ 99) (r : ByteArray) (b0 : 0 ≤ b) (b1 : b ≤ 4294967295) (hb : shr .u32 n (IntKind.u64.wrap (wrap64 (24 - wrap64 (8 * (i : Int))))) = b)
    (h : Ev (fun k => posternref20_Print.l0 k n (BA ((if i = 0 then out else out ++ [46]) ++ dec3 (b % 256).toNat)) ((i + 1 : Nat) : Int)) r) : Ev (fun k => posternref20_Print.l0 k n (BA out) (i : Int)) r := by
  have hl : (if i = 0 then out else out ++ [46]).length ≤ 100 := by split <;> first | omega | (simp; omega)
  refine Ev.step (fun k => ?_) (rp_j1 n (b % 256) i _ hl hi (by omega) (by omega) r h)
  have hw : ∀ j : Fin 4, 0 ≤ IntKind.u64.wrap (wrap64 (24 - wrap64 (8 * (j.val : Int)))) := by decide +kernel
  simp only [posternref20_Print.l0]
  rw [if_pos (by omega), if_pos (hw ⟨i, by omega⟩), hb, and_255 b b0 b1]
  by_cases h0 : i = 0
  · rw [if_neg (by omega), if_pos h0]
  · rw [if_pos (by omega), if_neg h0, if_pos (by rw [ba_size]; omega), ← ba_append]
    rfl
theorem ref_print (n : Int) (h0 : 0 ≤ n) (h1 : n ≤ 4294967295) : Ev (fun k => posternref20_Print.f k n) (BA (printV n)) := by
  obtain ⟨s0, s1, s2, s3⟩ := rp_byte n h0 h1
  have e0 := dec3_len (n / 16777216 % 256).toNat
  have e1 := dec3_len (n / 65536 % 256).toNat
  have e2 := dec3_len (n / 256 % 256).toNat
  have e : printV n = (((dec3 (n / 16777216 % 256).toNat ++ [46] ++ dec3 (n / 65536 % 256).toNat) ++ [46] ++ dec3 (n / 256 % 256).toNat) ++ [46] ++ dec3 (n % 256).toNat) := by
    unfold printV oct4
    simp only [List.map_cons, List.map_nil, join4]
    rw [itoa_small (by omega) (by omega), itoa_small (by omega) (by omega), itoa_small (by omega) (by omega), itoa_small (by omega) (by omega), show n / 16777216 % 256 = n / 16777216 by omega]
    simp
  rw [e]
  refine Ev.congr (f := fun k => posternref20_Print.l0 k n (BA []) ((0 : Nat) : Int)) (fun k => rfl) ?_
  refine rp_step n (n / 16777216) 0 (by decide) [] (by decide) _ (by omega) (by omega) s0 ?_
  refine rp_step n (n / 65536) 1 (by decide) _ (by simp; omega) _ (by omega) (by omega) s1 ?_
  refine rp_step n (n / 256) 2 (by decide) _ (by simp; omega) _ (by omega) (by omega) s2 ?_
  refine rp_step n n 3 (by decide) _ (by simp; omega) _ (by omega) (by omega) s3 ?_
  exact rp_end n _
end Go.Proofs.YtgnahagnmodpdaaDoor
