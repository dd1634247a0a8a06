/- The number that an address of eight pieces is; what its pieces are bounded by. -/
import Derived.Test.YtcgdjnmfeibnoaaDoorExt
import Derived.ChangeKeysEq
import Derived.WalkKit
import Derived.ProofKit
import Derived.Handy
import Derived.BigQuiet
import Derived.Deep.QuietTactic
import Derived.WalkLawsBesides
import Derived.WalkSpells
namespace Go.Proofs.YtcgdjnmfeibnoaaDoor
open Go.RowKit
set_option linter.unusedVariables false
set_option linter.unusedSimpArgs false

abbrev A8 (x0 x1 x2 x3 x4 x5 x6 x7 : Int) : Value := .agg #[.int .u16 x0, .int .u16 x1, .int .u16 x2, .int .u16 x3, .int .u16 x4, .int .u16 x5, .int .u16 x6, .int .u16 x7]
/-- The number that eight pieces are. -/
def V8 (x0 x1 x2 x3 x4 x5 x6 x7 : Int) : Int := ((((((x0 * 65536 + x1) * 65536 + x2) * 65536 + x3) * 65536 + x4) * 65536 + x5) * 65536 + x6) * 65536 + x7
/-- Each piece is of 16 bits. -/
structure R8 (x0 x1 x2 x3 x4 x5 x6 x7 : Int) : Prop where
  h0 : 0 ≤ x0 ∧ x0 ≤ 65535
  h1 : 0 ≤ x1 ∧ x1 ≤ 65535
  h2 : 0 ≤ x2 ∧ x2 ≤ 65535
  h3 : 0 ≤ x3 ∧ x3 ≤ 65535
  h4 : 0 ≤ x4 ∧ x4 ≤ 65535
  h5 : 0 ≤ x5 ∧ x5 ≤ 65535
  h6 : 0 ≤ x6 ∧ x6 ≤ 65535
  h7 : 0 ≤ x7 ∧ x7 ≤ 65535


/-- -1, 0, 1: which of two numbers is less. -/
def cmpI (x y : Int) : Int := if x < y then -1 else if y < x then 1 else 0
theorem cmpI_lt {x y : Int} (h : x < y) : cmpI x y = -1 := by unfold cmpI; rw [if_pos h]
theorem cmpI_gt {x y : Int} (h : y < x) : cmpI x y = 1 := by unfold cmpI; rw [if_neg (by omega), if_pos h]
theorem cmpI_eq {x y : Int} (h : x = y) : cmpI x y = 0 := by unfold cmpI; rw [if_neg (by omega), if_neg (by omega)]
theorem cmpI_zero {x y : Int} : cmpI x y = 0 ↔ x = y := by
  unfold cmpI
  constructor
  · intro h
    split at h
    · omega
    · split at h <;> omega
  · intro h
    rw [if_neg (by omega), if_neg (by omega)]

theorem ret_int {k : IntKind} {a b : Int} (h : a = b) : Ending.returned (.int k a) = .returned (.int k b) := by rw [h]
theorem ret_bool {a b : Bool} (h : a = b) : Ending.returned (.bool a) = .returned (.bool b) := by rw [h]

/-- The cells of eight pieces. -/
abbrev C8 (w : World) (b : Nat) (x0 x1 x2 x3 x4 x5 x6 x7 : Int) : Prop :=
  w.cell? ⟨b, 0, none⟩ = some (.int .u16 x0) ∧ w.cell? ⟨b, 1, none⟩ = some (.int .u16 x1) ∧ w.cell? ⟨b, 2, none⟩ = some (.int .u16 x2) ∧ w.cell? ⟨b, 3, none⟩ = some (.int .u16 x3) ∧
  w.cell? ⟨b, 4, none⟩ = some (.int .u16 x4) ∧ w.cell? ⟨b, 5, none⟩ = some (.int .u16 x5) ∧ w.cell? ⟨b, 6, none⟩ = some (.int .u16 x6) ∧ w.cell? ⟨b, 7, none⟩ = some (.int .u16 x7)

theorem C8_keep {w W : World} {b : Nat} {x0 x1 x2 x3 x4 x5 x6 x7 : Int} (h : C8 w b x0 x1 x2 x3 x4 x5 x6 x7) (hb : b < w.heap.size) (hB : Below w.heap.size w W) : C8 W b x0 x1 x2 x3 x4 x5 x6 x7 := by
  obtain ⟨h0, h1, h2, h3, h4, h5, h6, h7⟩ := h
  exact ⟨(hB.cell (p := ⟨b, 0, none⟩) hb).trans h0, (hB.cell (p := ⟨b, 1, none⟩) hb).trans h1, (hB.cell (p := ⟨b, 2, none⟩) hb).trans h2, (hB.cell (p := ⟨b, 3, none⟩) hb).trans h3,
    (hB.cell (p := ⟨b, 4, none⟩) hb).trans h4, (hB.cell (p := ⟨b, 5, none⟩) hb).trans h5, (hB.cell (p := ⟨b, 6, none⟩) hb).trans h6, (hB.cell (p := ⟨b, 7, none⟩) hb).trans h7⟩
/-- What goes on from a world goes on from the one ahead of it. -/
theorem chain {w W W' : World} (h : Below w.heap.size w W) (k : Below W.heap.size W W') : Below w.heap.size w W' := h.trans (k.mono h.size)
theorem chain_alloc {w W W' : World} {o : Obj} (h : Below w.heap.size w W) (k : Below (W.alloc o).heap.size (W.alloc o) W') : Below w.heap.size w W' := chain (h.alloc h.size o) k

theorem run_part8 {P : Program} {E : TypeId} (hE : P.underlying E = some (.int .u16)) (cs : Array Value) (k : Nat) (v : Value) (h : cs[k]? = some v) (w : World) : (part E cs k).run P w = .ok v w := by
  simp [part, isAgg, run_underlying hE, h]
/-- Two arrays of eight pieces: '=='. -/
theorem run_eq8 {P : Program} {T E : TypeId} {i : TypeInfo} (hT : P.underlying T = some (.array 8 E)) (hi : P.info? E = some i) (hE : P.underlying E = some (.int .u16)) (hc : P.cellsOf E = 1)
    (x0 x1 x2 x3 x4 x5 x6 x7 y0 y1 y2 y3 y4 y5 y6 y7 : Int) (w : World) :
    (Op.equalIn 10000 T (A8 x0 x1 x2 x3 x4 x5 x6 x7) (A8 y0 y1 y2 y3 y4 y5 y6 y7)).run P w = .ok (x0 == y0 && (x1 == y1 && (x2 == y2 && (x3 == y3 && (x4 == y4 && (x5 == y5 && (x6 == y6 && x7 == y7))))))) w := by
  rw [run_equalIn_array w 9999 _ _ hT hi, hc, show List.range 8 = [0, 1, 2, 3, 4, 5, 6, 7] from rfl]
  have he : ∀ a b : Int, (Op.equalIn 9999 E (.int .u16 a) (.int .u16 b)).run P w = .ok (a == b) w := fun a b => run_equalIn_int w 9998 E .u16 .u16 a b hE
  have st : ∀ (xs ys : Array Value) (k : Nat) (ks : List Nat) (a b : Int) (r : Bool), xs[k]? = some (.int .u16 a) → ys[k]? = some (.int .u16 b) → (Op.eqItems 9999 E 1 xs ys ks).run P w = .ok r w →
      (Op.eqItems 9999 E 1 xs ys (k :: ks)).run P w = .ok (a == b && r) w := by
    intro xs ys k ks a b r h1 h2 h3
    simp only [Op.eqItems, Sem.run_bind, Nat.mul_one]
    rw [run_part8 hE _ k _ h1, Result.andThen_ok, run_part8 hE _ k _ h2, Result.andThen_ok, he, Result.andThen_ok]
    cases a == b
    · simp
    · simpa using h3
  have h8 : (Op.eqItems 9999 E 1 #[.int .u16 x0, .int .u16 x1, .int .u16 x2, .int .u16 x3, .int .u16 x4, .int .u16 x5, .int .u16 x6, .int .u16 x7] #[.int .u16 y0, .int .u16 y1, .int .u16 y2, .int .u16 y3, .int .u16 y4, .int .u16 y5, .int .u16 y6, .int .u16 y7] []).run P w = .ok true w := rfl
  have h7 := st _ _ 7 [] x7 y7 _ rfl rfl h8
  have h6 := st _ _ 6 [7] x6 y6 _ rfl rfl h7
  have h5 := st _ _ 5 [6, 7] x5 y5 _ rfl rfl h6
  have h4 := st _ _ 4 [5, 6, 7] x4 y4 _ rfl rfl h5
  have h3 := st _ _ 3 [4, 5, 6, 7] x3 y3 _ rfl rfl h4
  have h2 := st _ _ 2 [3, 4, 5, 6, 7] x2 y2 _ rfl rfl h3
  have h1 := st _ _ 1 [2, 3, 4, 5, 6, 7] x1 y1 _ rfl rfl h2
  have h0 := st _ _ 0 [1, 2, 3, 4, 5, 6, 7] x0 y0 _ rfl rfl h1
  rw [Bool.and_true] at h0
  exact h0
theorem V8_inj {x0 x1 x2 x3 x4 x5 x6 x7 y0 y1 y2 y3 y4 y5 y6 y7 : Int} (h : R8 x0 x1 x2 x3 x4 x5 x6 x7) (k : R8 y0 y1 y2 y3 y4 y5 y6 y7) (e : V8 x0 x1 x2 x3 x4 x5 x6 x7 = V8 y0 y1 y2 y3 y4 y5 y6 y7) :
    x0 = y0 ∧ x1 = y1 ∧ x2 = y2 ∧ x3 = y3 ∧ x4 = y4 ∧ x5 = y5 ∧ x6 = y6 ∧ x7 = y7 := by
  obtain ⟨⟨_, _⟩, ⟨_, _⟩, ⟨_, _⟩, ⟨_, _⟩, ⟨_, _⟩, ⟨_, _⟩, ⟨_, _⟩, ⟨_, _⟩⟩ := h
  obtain ⟨⟨_, _⟩, ⟨_, _⟩, ⟨_, _⟩, ⟨_, _⟩, ⟨_, _⟩, ⟨_, _⟩, ⟨_, _⟩, ⟨_, _⟩⟩ := k
  unfold V8 at e
  omega
/-- Two addresses of the same pieces are the same number. -/
theorem eq8_dec {x0 x1 x2 x3 x4 x5 x6 x7 y0 y1 y2 y3 y4 y5 y6 y7 : Int} (h : R8 x0 x1 x2 x3 x4 x5 x6 x7) (k : R8 y0 y1 y2 y3 y4 y5 y6 y7) :
    (x0 == y0 && (x1 == y1 && (x2 == y2 && (x3 == y3 && (x4 == y4 && (x5 == y5 && (x6 == y6 && x7 == y7))))))) = decide (V8 x0 x1 x2 x3 x4 x5 x6 x7 = V8 y0 y1 y2 y3 y4 y5 y6 y7) := by
  obtain ⟨⟨_, _⟩, ⟨_, _⟩, ⟨_, _⟩, ⟨_, _⟩, ⟨_, _⟩, ⟨_, _⟩, ⟨_, _⟩, ⟨_, _⟩⟩ := h
  obtain ⟨⟨_, _⟩, ⟨_, _⟩, ⟨_, _⟩, ⟨_, _⟩, ⟨_, _⟩, ⟨_, _⟩, ⟨_, _⟩, ⟨_, _⟩⟩ := k
  rw [Bool.eq_iff_iff]
  simp only [Bool.and_eq_true, beq_iff_eq, decide_eq_true_eq]
  unfold V8
  omega
@[go_sem] theorem eq8_six (x0 x1 x2 x3 x4 x5 x6 x7 y0 y1 y2 y3 y4 y5 y6 y7 : Int) (w : World) :
    (Op.equalIn 10000 24 (A8 x0 x1 x2 x3 x4 x5 x6 x7) (A8 y0 y1 y2 y3 y4 y5 y6 y7)).run Tryd.prog w = .ok (x0 == y0 && (x1 == y1 && (x2 == y2 && (x3 == y3 && (x4 == y4 && (x5 == y5 && (x6 == y6 && x7 == y7))))))) w := by
  obtain ⟨i, hi, _⟩ := info_parts (show (Tryd.prog.info? 22).map (fun i => (i.zero, i.size, i.bytes)) = some (some (.int .u16 0), 1, 2) by kernel_rfl)
  exact run_eq8 Tryd.underlying24 hi Tryd.underlying22 (by kernel_rfl) ..
@[go_sem] theorem eq8_ref (x0 x1 x2 x3 x4 x5 x6 x7 y0 y1 y2 y3 y4 y5 y6 y7 : Int) (w : World) :
    (Op.equalIn 10000 30 (A8 x0 x1 x2 x3 x4 x5 x6 x7) (A8 y0 y1 y2 y3 y4 y5 y6 y7)).run Tryd.prog w = .ok (x0 == y0 && (x1 == y1 && (x2 == y2 && (x3 == y3 && (x4 == y4 && (x5 == y5 && (x6 == y6 && x7 == y7))))))) w := by
  obtain ⟨i, hi, _⟩ := info_parts (show (Tryd.prog.info? 22).map (fun i => (i.zero, i.size, i.bytes)) = some (some (.int .u16 0), 1, 2) by kernel_rfl)
  exact run_eq8 Tryd.underlying30 hi Tryd.underlying22 (by kernel_rfl) ..
end Go.Proofs.YtcgdjnmfeibnoaaDoor
