/- Arguments that come in as structs of whole numbers. -/
import Derived.Test.YtgnahagnmodpdaaDoorFrame
namespace Go.Proofs.YtgnahagnmodpdaaDoor
open Go.RowKit Go.WideShapes
set_option linter.unusedVariables false
set_option linter.unusedSimpArgs false

set_option maxRecDepth 100000 in
theorem i64_open {w : World} {base : Nat} {v : Value} (h : Cell.okWide Tryd.prog w .any base 3 v) : ∃ x : Int, v = .int .i64 x ∧ -9223372036854775808 ≤ x ∧ x ≤ 9223372036854775807 := by
  unfold Cell.okWide at h
  rw [Tryd.underlying3] at h
  cases v <;> simp [Cell.ok, Tryd.underlying3] at h
  rename_i k n
  obtain ⟨rfl, h1, h2⟩ := h
  exact ⟨n, rfl, by simpa [IntKind.min, IntKind.signed, IntKind.bits] using h1, by simpa [IntKind.max, IntKind.signed, IntKind.bits] using h2⟩
set_option maxRecDepth 100000 in
theorem u32_open {w : World} {base : Nat} {v : Value} (h : Cell.okWide Tryd.prog w .any base 22 v) : ∃ x : Int, v = .int .u32 x ∧ 0 ≤ x ∧ x ≤ 4294967295 := by
  unfold Cell.okWide at h
  rw [Tryd.underlying22] at h
  cases v <;> simp [Cell.ok, Tryd.underlying22] at h
  rename_i k n
  obtain ⟨rfl, h1, h2⟩ := h
  exact ⟨n, rfl, by simpa [IntKind.min, IntKind.signed] using h1, by simpa [IntKind.max, IntKind.signed, IntKind.bits] using h2⟩
theorem block_cells : Tryd.prog.cellsOf 50 = 2 := by kernel_rfl
theorem block_types : Tryd.prog.cellTypes Tryd.prog.depth 50 = some [22, 3] := by kernel_rfl
set_option maxRecDepth 100000 in
theorem block_open {w : World} {base : Nat} {v : Value} (h : Value.okWide Tryd.prog w .any base 50 v) :
    ∃ f b : Int, v = .agg #[.int .u32 f, .int .i64 b] ∧ (0 ≤ f ∧ f ≤ 4294967295) ∧ -9223372036854775808 ≤ b ∧ b ≤ 9223372036854775807 := by
  unfold Value.okWide at h
  rw [Tryd.underlying50] at h
  obtain ⟨cs, rfl, hsz, ts, hts, _, hc⟩ := h
  rw [block_cells] at hsz
  rw [block_types] at hts
  obtain rfl := (Option.some.inj hts).symm
  obtain ⟨u0, hu0, ok0⟩ := hc 0 cs[0] (Array.getElem?_eq_getElem (by omega))
  obtain ⟨u1, hu1, ok1⟩ := hc 1 cs[1] (Array.getElem?_eq_getElem (by omega))
  obtain rfl := Option.some.inj hu0
  obtain rfl := Option.some.inj hu1
  obtain ⟨f, ef, rf⟩ := u32_open ok0
  obtain ⟨b, eb, rb⟩ := i64_open ok1
  refine ⟨f, b, ?_, rf, rb⟩
  congr 1
  apply Array.ext_getElem?
  intro i
  match i with
  | 0 => rw [Array.getElem?_eq_getElem (by omega), ef]; rfl
  | 1 => rw [Array.getElem?_eq_getElem (by omega), eb]; rfl
  | i + 2 => rw [Array.getElem?_eq_none (by omega)]; rfl
theorem way_cells : Tryd.prog.cellsOf 25 = 9 := by kernel_rfl
theorem way_types : Tryd.prog.cellTypes Tryd.prog.depth 25 = some (List.replicate 9 3) := by kernel_rfl
set_option maxRecDepth 100000 in
theorem way_open {w : World} {base : Nat} {v : Value} (h : Value.okWide Tryd.prog w .any base 25 v) :
    ∃ p x0 x1 x2 x3 z0 z1 z2 z3 : Int, v = .agg #[.int .i64 p, .int .i64 x0, .int .i64 x1, .int .i64 x2, .int .i64 x3, .int .i64 z0, .int .i64 z1, .int .i64 z2, .int .i64 z3] ∧ (-9223372036854775808 ≤ z0 ∧ z0 ≤ 9223372036854775807) ∧ (-9223372036854775808 ≤ z1 ∧ z1 ≤ 9223372036854775807) ∧ (-9223372036854775808 ≤ z2 ∧ z2 ≤ 9223372036854775807) ∧ (-9223372036854775808 ≤ z3 ∧ z3 ≤ 9223372036854775807) := by
  unfold Value.okWide at h
  rw [Tryd.underlying25] at h
  obtain ⟨cs, rfl, hsz, ts, hts, _, hc⟩ := h
  rw [way_cells] at hsz
  rw [way_types] at hts
  obtain rfl := (Option.some.inj hts).symm
  have key : ∀ i, (hi : i < 9) → ∃ x : Int, cs[i]? = some (.int .i64 x) ∧ -9223372036854775808 ≤ x ∧ x ≤ 9223372036854775807 := by
    intro i hi
    obtain ⟨u, hu, hok⟩ := hc i cs[i] (Array.getElem?_eq_getElem (by omega))
    obtain rfl : u = 3 := List.eq_of_mem_replicate (List.mem_of_getElem? hu)
    obtain ⟨x, hx, h0, h1⟩ := i64_open hok
    exact ⟨x, by rw [Array.getElem?_eq_getElem (by omega), hx], h0, h1⟩
  obtain ⟨x0, e0, r0⟩ := key 0 (by omega)
  obtain ⟨x1, e1, r1⟩ := key 1 (by omega)
  obtain ⟨x2, e2, r2⟩ := key 2 (by omega)
  obtain ⟨x3, e3, r3⟩ := key 3 (by omega)
  obtain ⟨x4, e4, r4⟩ := key 4 (by omega)
  obtain ⟨x5, e5, r5⟩ := key 5 (by omega)
  obtain ⟨x6, e6, r6⟩ := key 6 (by omega)
  obtain ⟨x7, e7, r7⟩ := key 7 (by omega)
  obtain ⟨x8, e8, r8⟩ := key 8 (by omega)
  refine ⟨x0, x1, x2, x3, x4, x5, x6, x7, x8, ?_, r5, r6, r7, r8⟩
  congr 1
  apply Array.ext_getElem?
  intro i
  match i with
  | 0 => rw [e0]; rfl
  | 1 => rw [e1]; rfl
  | 2 => rw [e2]; rfl
  | 3 => rw [e3]; rfl
  | 4 => rw [e4]; rfl
  | 5 => rw [e5]; rfl
  | 6 => rw [e6]; rfl
  | 7 => rw [e7]; rfl
  | 8 => rw [e8]; rfl
  | i + 9 => rw [Array.getElem?_eq_none (by omega)]; rfl
end Go.Proofs.YtgnahagnmodpdaaDoor
