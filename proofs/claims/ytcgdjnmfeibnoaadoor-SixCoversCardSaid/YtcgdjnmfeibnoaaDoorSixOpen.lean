/- An address that comes in: eight pieces of 16 bits. -/
import Derived.Test.YtcgdjnmfeibnoaaDoorSixV
import Derived.Test.YtcgdjnmfeibnoaaDoorFrame
namespace Go.Proofs.YtcgdjnmfeibnoaaDoor
open Go.RowKit Go.WideShapes
set_option linter.unusedVariables false
set_option linter.unusedSimpArgs false

theorem six_cells : Tryd.prog.cellsOf 24 = 8 := by kernel_rfl
theorem six_types : Tryd.prog.cellTypes Tryd.prog.depth 24 = some (List.replicate 8 22) := by kernel_rfl

set_option maxRecDepth 100000 in
theorem u16_open {w : World} {base : Nat} {v : Value} (h : Cell.okWide Tryd.prog w .any base 22 v) : ∃ x : Int, v = .int .u16 x ∧ 0 ≤ x ∧ x ≤ 65535 := by
  unfold Cell.okWide at h
  rw [Tryd.underlying22] at h
  cases v <;> simp [Cell.ok, Tryd.underlying22] at h
  rename_i k n
  obtain ⟨rfl, h1, h2⟩ := h
  exact ⟨n, rfl, by simpa [IntKind.min, IntKind.signed] using h1, by simpa [IntKind.max, IntKind.signed, IntKind.bits] using h2⟩

set_option maxRecDepth 100000 in
theorem six_open {w : World} {base : Nat} {v : Value} (h : Value.okWide Tryd.prog w .any base 24 v) :
    ∃ x0 x1 x2 x3 x4 x5 x6 x7 : Int, v = A8 x0 x1 x2 x3 x4 x5 x6 x7 ∧ R8 x0 x1 x2 x3 x4 x5 x6 x7 := by
  unfold Value.okWide at h
  rw [Tryd.underlying24] at h
  obtain ⟨cs, rfl, hsz, ts, hts, _, hc⟩ := h
  rw [six_cells] at hsz
  rw [six_types] at hts
  obtain rfl := (Option.some.inj hts).symm
  have key : ∀ i, (hi : i < 8) → ∃ x : Int, cs[i]? = some (.int .u16 x) ∧ 0 ≤ x ∧ x ≤ 65535 := by
    intro i hi
    obtain ⟨u, hu, hok⟩ := hc i cs[i] (Array.getElem?_eq_getElem (by omega))
    obtain rfl : u = 22 := List.eq_of_mem_replicate (List.mem_of_getElem? hu)
    obtain ⟨x, hx, h0, h1⟩ := u16_open hok
    exact ⟨x, by rw [Array.getElem?_eq_getElem (by omega), hx], h0, h1⟩
  obtain ⟨x0, e0, a0, b0⟩ := key 0 (by omega)
  obtain ⟨x1, e1, a1, b1⟩ := key 1 (by omega)
  obtain ⟨x2, e2, a2, b2⟩ := key 2 (by omega)
  obtain ⟨x3, e3, a3, b3⟩ := key 3 (by omega)
  obtain ⟨x4, e4, a4, b4⟩ := key 4 (by omega)
  obtain ⟨x5, e5, a5, b5⟩ := key 5 (by omega)
  obtain ⟨x6, e6, a6, b6⟩ := key 6 (by omega)
  obtain ⟨x7, e7, a7, b7⟩ := key 7 (by omega)
  refine ⟨x0, x1, x2, x3, x4, x5, x6, x7, ?_, ⟨⟨a0, b0⟩, ⟨a1, b1⟩, ⟨a2, b2⟩, ⟨a3, b3⟩, ⟨a4, b4⟩, ⟨a5, b5⟩, ⟨a6, b6⟩, ⟨a7, b7⟩⟩⟩
  congr 1
  apply Array.ext_getElem?
  intro i
  match i with
  | 0 => rw [e0]; rfl
  | 1 => rw [e1]; rfl
  | 2 => rw [e2]; rfl
  | 3 => rw [e3]; rfl
  | 4 => rw [e4]; rfl
  | 5 => rw [e5]; rfl
  | 6 => rw [e6]; rfl
  | 7 => rw [e7]; rfl
  | i + 8 => rw [Array.getElem?_eq_none (by omega)]; rfl
end Go.Proofs.YtcgdjnmfeibnoaaDoor
