/- What the document's Mask answers. -/
import Derived.Test.YtgnahagnmodpdaaDoorGiven
import Derived.Test.YtgnahagnmodpdaaDoorX8
import Derived.Outline
import Derived.Deep.QuietTactic
import Derived.BigQuiet
namespace Go.Proofs.YtgnahagnmodpdaaDoor
open Go.RowKit Go.Proofs.YtgnahagnmodpdaaDoorW.PrintWords Go.Proofs.YtgnahagnmodpdaaDoor.X Go.IntWalk
set_option linter.unusedVariables false
set_option linter.unusedSimpArgs false

/-- How many addresses a prefix of so many bits has. -/
def sizeV (b : Int) : Int := 2 ^ (32 - b).toNat
theorem sizeV_succ {b : Int} (h : b < 32) : sizeV b = 2 * sizeV (b + 1) := by
  unfold sizeV
  rw [show (32 - b).toNat = (32 - (b + 1)).toNat + 1 by omega, Int.pow_succ]
  omega
theorem sizeV_bd {b : Int} (h0 : 0 ≤ b) (h1 : b ≤ 32) : 1 ≤ sizeV b ∧ sizeV b ≤ 4294967296 := by
  unfold sizeV
  have h : ∀ k : Fin 33, 1 ≤ (2 : Int) ^ k.val ∧ (2 : Int) ^ k.val ≤ 4294967296 := by decide
  exact h ⟨(32 - b).toNat, by omega⟩
theorem size_loop : ∀ (m : Nat) (i n : Int), (32 - i).toNat = m → 0 ≤ i → i ≤ 32 → 0 ≤ n → n * sizeV i ≤ 4294967296 → Ev (fun k => posternref20_size.l0 k n i) (n * sizeV i)
  | 0, i, n, hm, h0, h1, hn, hb => by
    obtain rfl : i = 32 := by omega
    refine Ev.step (f := fun k => some n) (fun k => ?_) ?_
    · simp only [posternref20_size.l0]
      rw [if_neg (by omega)]
    · rw [show sizeV 32 = 1 by decide, Int.mul_one]
      exact Ev.now _
  | m + 1, i, n, hm, h0, h1, hn, hb => by
    have hs := sizeV_succ (show i < 32 by omega)
    have hbd := sizeV_bd (b := i + 1) (by omega) (by omega)
    have e : n * sizeV i = n * 2 * sizeV (i + 1) := by rw [hs, Int.mul_assoc]
    have hn2 : n * 2 ≤ 4294967296 := by
      have := Int.mul_le_mul_of_nonneg_left hbd.1 (show 0 ≤ n * 2 by omega)
      omega
    rw [e] at hb ⊢
    refine Ev.step (f := fun k => posternref20_size.l0 k (n * 2) (i + 1)) (fun k => ?_) (size_loop m (i + 1) (n * 2) (by omega) (by omega) (by omega) (by omega) hb)
    simp only [posternref20_size.l0]
    rw [if_pos (by omega), wrap64_in (i + 1) (by omega)]
    congr 1
    simp [IntKind.wrap, IntKind.signed, IntKind.bits]
    omega
theorem size_ev {b : Int} (h0 : 0 ≤ b) (h1 : b ≤ 32) : Ev (fun k => posternref20_size.f k b) (sizeV b) := by
  have hbd := sizeV_bd h0 h1
  have := size_loop _ b 1 rfl h0 h1 (by decide) (by rw [Int.one_mul]; exact hbd.2)
  rw [Int.one_mul] at this
  exact Ev.congr (fun k => rfl) this
theorem size_calls (b : Int) (h0 : 0 ≤ b) (h1 : b ≤ 32) (w : World) : Calls Tryd.prog 55 #[.int .i64 b] w fun e w' => e = .returned (.int .u64 (sizeV b)) ∧ ∃ n, w' = w.drewN n := by
  obtain ⟨k, h⟩ := (size_ev h0 h1).rounds
  exact (posternref20_size.calls k b _ w h).mono fun e w' ⟨he, hd⟩ => ⟨he, hd.out⟩
/-- The first bits of an address. -/
def maskV (n b : Int) : Int × Int := if 0 ≤ b ∧ b ≤ 32 then (n / sizeV b * sizeV b, 0) else (0, 204)
set_option maxHeartbeats 1000000 in
set_option maxRecDepth 100000 in
theorem refMask_walk (n b : Int) (hn0 : 0 ≤ n) (hn1 : n ≤ 4294967295) (w : World) : Calls Tryd.prog 35 #[.int .u32 n, .int .i64 b] w fun e w' => e = .returned (.tuple #[.int .u32 (maskV n b).1, .int .i64 (maskV n b).2]) ∧ Drawn0 w w' := by
  by_cases hb : 0 ≤ b ∧ b ≤ 32
  · rw [show maskV n b = (n / sizeV b * sizeV b, 0) from if_pos hb]
    obtain ⟨h0, h1⟩ := hb
    have hs := size_calls b h0 h1
    have hbd := sizeV_bd h0 h1
    obtain ⟨z, hz⟩ : ∃ z, z = sizeV b := ⟨_, rfl⟩
    rw [← hz] at hs hbd ⊢
    obtain ⟨z0, z1⟩ := hbd
    have HS := Aside0.mk hs
    clear hs hz
    go_enter Tryd.func35, Tryd.ntmps35
    go_wp2_with fail
    go_quiet ((go_at_call 55; exact Calls.quiet_of (HS.out _)))
    all_goals go_wp2
    go_ret2
    have hq0 : 0 ≤ n / z * z := Int.mul_nonneg (Int.ediv_nonneg hn0 (by omega)) (by omega)
    have hq1 : n / z * z ≤ n := Int.ediv_mul_le n (by omega)
    have e : IntKind.u64.wrap (n / z * z) % 4294967296 = n / z * z := by simp [IntKind.wrap, IntKind.signed, IntKind.bits]; omega
    rw [e]
    exact ⟨rfl, ⟨nq, rfl⟩⟩
  · rw [show maskV n b = (0, 204) from if_neg hb]
    by_cases h0 : b < 0
    · clear hb
      go_enter Tryd.func35, Tryd.ntmps35
      go_wp2_with fail
      go_ret2
      exact ⟨rfl, Drawn0.refl _⟩
    · have h1 : 32 < b := by omega
      clear hb
      go_enter Tryd.func35, Tryd.ntmps35
      go_wp2_with fail
      go_ret2
      exact ⟨rfl, Drawn0.refl _⟩
def posternref20_Mask.f (a0 a1 : Int) : Option (Int × Int) := if 0 ≤ a0 ∧ a0 ≤ 4294967295 then some (maskV a0 a1) else none
theorem posternref20_Mask.calls (a0 a1 : Int) (r1 r2 : Int) (w : World) (h : posternref20_Mask.f a0 a1 = some (r1, r2)) :
    Calls Tryd.prog 35 #[.int .u32 a0, .int .i64 a1] w fun e w' => e = .returned (.tuple #[.int .u32 r1, .int .i64 r2]) ∧ Drawn0 w w' := by
  unfold posternref20_Mask.f at h
  by_cases hs : 0 ≤ a0 ∧ a0 ≤ 4294967295
  · rw [if_pos hs] at h
    have h := Option.some.inj h
    have hw := refMask_walk a0 a1 hs.1 hs.2 w
    rw [h] at hw
    exact hw
  · rw [if_neg hs] at h
    cases h
end Go.Proofs.YtgnahagnmodpdaaDoor
