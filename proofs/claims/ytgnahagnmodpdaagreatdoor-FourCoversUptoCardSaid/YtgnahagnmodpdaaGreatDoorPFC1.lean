/- Several texts in one (wip/gen/pack.py): FourParse App Dec FourPrint X3 RefIs RefCover RefJoin RefJoinF FourAwake X4. -/
import Derived.Outline
import Derived.Test.YtgnahagnmodpdaaGreatDoorPFC0
import Derived.Lib.Builder
import Derived.Lib.ItoaNum
import Derived.Lib.Join
import Derived.Deep.CutBlock
/-! FourParse -/
namespace Go.Proofs.YtgnahagnmodpdaaGreatDoor
open Go.RowKit Go.Proofs.YtgnahagnmodpdaaGreatDoorW.PrintWords Go.Proofs.YtgnahagnmodpdaaGreatDoor.X
set_option linter.unusedVariables false
set_option linter.unusedSimpArgs false
/-- The first part that is no number. -/
def firstErr : List (List UInt8) → Int → Option Int
  | [], _ => none
  | p :: ps, i => if (numberV p).2.2 = 0 then firstErr ps (i + 1) else some i
/-- The first number but the last one that is above 255. -/
def firstBig : List Int → Int → Option Int
  | [], _ => none
  | [_], _ => none
  | x :: y :: r, i => if 255 < x then some i else firstBig (y :: r) (i + 1)
def sumFrom : List Int → Nat → Int
  | [], _ => 0
  | [x], _ => x
  | x :: y :: r, i => sumFrom (y :: r) (i + 1) + x * 256 ^ (3 - i)
/-- The address of parts. -/
def parseP (P : List (List UInt8)) : Int × Int × Int := if 4 < P.length then (0, 4, 201) else
  match firstErr P 0 with
  | some i => (0, i, 200)
  | none =>
    match firstBig (P.map fun p => (numberV p).1) 0 with
    | some i => (0, i, 202)
    | none => if 256 ^ (5 - P.length) ≤ ((P.map fun p => (numberV p).1).getLastD 0) then (0, P.length - 1, 202) else (sumFrom (P.map fun p => (numberV p).1) 0, 0, 0)
def parseV (l : List UInt8) : Int × Int × Int := parseP (partsV l)
def ParseP (r : Int × Int × Int) (w : World) (e : Ending) (w' : World) : Prop := e = .returned (.tuple #[.int .u32 r.1, .int .i64 r.2.1, .int .i64 r.2.2]) ∧ Below w.heap.size w w'
theorem parseP_mk {r : Int × Int × Int} {w w' : World} {a b c : Int} (h : r = (a, b, c)) (hb : Below w.heap.size w w') : ParseP r w (.returned (.tuple #[.int .u32 a, .int .i64 b, .int .i64 c])) w' := by
  subst h
  exact ⟨rfl, hb⟩
theorem strs_at {w : World} {base : Nat} {e : Nat} {ok : Nat → Prop} {v : Value} {xs : List ByteArray} (h : Kd.R Kd.string e w base ok v xs) (hn : 0 < xs.length) :
    ∃ g c, v = .slice (some ⟨g, 0, none⟩) xs.length c ∧ g < w.heap.size ∧ ∀ i, i < xs.length → w.cell? ⟨g, i, none⟩ = some (.string (xs.getD i ByteArray.empty)) := by
  obtain ⟨inner, ho⟩ := Kd.R_own h
  rcases ho.2 with ⟨_, h0⟩ | ⟨g, c, cur, rfl, _, hg, _⟩
  · omega
  · have hc : ∀ i, i < xs.length → w.cell? ⟨g, i, none⟩ = some (.string (xs.getD i ByteArray.empty)) := fun i hi => by
      have := (Kd.R_cell (enc := Value.string) (h1 := fun _ => rfl) ByteArray.empty h (i : Int) (by omega) (by omega)).1
      simpa [rdOf] using this
    exact ⟨g, c, rfl, World.block_lt_of_cell? w _ (hc 0 hn), hc⟩
theorem not255 {x : Int} (h : x ≤ 255) : (255 < x) = False := eq_false (by omega)
set_option maxHeartbeats 8000000 in
set_option maxRecDepth 100000 in
theorem parse_walk1 (s : ByteArray) (hs : s.size ≤ 4294967280) (p0 : List UInt8) (hP : partsV s.data.toList = [p0]) (w : World) (hG : GW w) :
    Calls Tryz.prog 10 #[.string s] w (ParseP (parseP [p0]) w) := by
  have hpf := parts_f s hs
  have hlen : ∀ q ∈ [p0], (BA q).size ≤ 9223372036854775806 := fun q hq => by rw [ba_size]; have := partsV_part s.data.toList q (hP ▸ hq); have := size_len s; omega
  rw [hP] at hpf
  have n0 := number_calls (BA p0) (hlen p0 (by simp))
  obtain ⟨⟨x0, y0, e0⟩, hv0⟩ : ∃ r, numberV p0 = r := ⟨_, rfl⟩
  have hx0 := numberV_le p0
  have hq0 := numberV_err p0
  rw [hv0] at hq0
  have Q0 : Aside0 (e0 = 0 ∨ e0 = 200) := ⟨hq0⟩
  clear hq0
  rw [ba_list] at n0
  rw [hv0] at n0 hx0
  obtain ⟨l0, u0⟩ := hx0
  simp only at l0 u0
  have N0 := Aside0.mk n0
  have V0 := Aside0.mk hv0
  clear n0 hv0
  have HP := Aside0.mk hpf
  have HG := Aside0.mk hG
  clear hpf hG hlen hP
  go_enter Tryz.func10, Tryz.ntmps10
  go_wp2_with fail
  refine (four_parts.calls s _ _ HG.out HP.out).mono ?_
  rintro e w1 ⟨v, rfl, hR, hb1⟩
  have B1 := below_step (Below.refl _ _) hb1
  obtain ⟨g, c, rfl, lg, hC⟩ := strs_at hR (by simp)
  simp only [List.map_cons, List.map_nil, List.length_cons, List.length_nil, Nat.zero_add, Nat.reduceAdd] at hC ⊢
  clear hR hb1 HG HP
  obtain ⟨b, hbd⟩ : ∃ b, b = w1.heap.size := ⟨_, rfl⟩
  have lad : g < b := by rw [hbd]; exact lg
  have s0 : (w1.alloc (.cells #[.int .u64 0, .int .u64 0, .int .u64 0, .int .u64 0] 57)).cell? ⟨g, 0, none⟩ = some (.string (BA p0)) := (Below.cell (p := ⟨g, 0, none⟩) (below_alloc (Below.refl _ _) _) lg).trans (hC 0 (by decide))
  have a0 : (w1.alloc (.cells #[.int .u64 0, .int .u64 0, .int .u64 0, .int .u64 0] 57)).cell? ⟨b, 0, none⟩ = some (.int .u64 0) := by rw [hbd]; go_simp
  have a1 : (w1.alloc (.cells #[.int .u64 0, .int .u64 0, .int .u64 0, .int .u64 0] 57)).cell? ⟨b, 1, none⟩ = some (.int .u64 0) := by rw [hbd]; go_simp
  have a2 : (w1.alloc (.cells #[.int .u64 0, .int .u64 0, .int .u64 0, .int .u64 0] 57)).cell? ⟨b, 2, none⟩ = some (.int .u64 0) := by rw [hbd]; go_simp
  have a3 : (w1.alloc (.cells #[.int .u64 0, .int .u64 0, .int .u64 0, .int .u64 0] 57)).cell? ⟨b, 3, none⟩ = some (.int .u64 0) := by rw [hbd]; go_simp
  have z : ∀ j, (w1.alloc (.cells #[.int .u64 0, .int .u64 0, .int .u64 0, .int .u64 0] 57)).frozen? ⟨b, j, none⟩ = false := fun j => by rw [hbd]; go_simp
  have lb : b < (w1.alloc (.cells #[.int .u64 0, .int .u64 0, .int .u64 0, .int .u64 0] 57)).heap.size := by rw [hbd]; simp
  have lw : w.heap.size ≤ b := by rw [hbd]; exact B1.size
  have BB := below_alloc B1 (.cells #[.int .u64 0, .int .u64 0, .int .u64 0, .int .u64 0] 57)
  go_wp2_with fail
  rw [← hbd]
  obtain ⟨W, hW⟩ : ∃ W, W = w1.alloc (.cells #[.int .u64 0, .int .u64 0, .int .u64 0, .int .u64 0] 57) := ⟨_, rfl⟩
  rw [← hW] at s0 a0 a1 a2 a3 z lb BB ⊢
  clear hW hbd hC B1
  refine wp_loop_rounds 2 ?_
  rw [rounds_succ]
  go_wp2_with fail
  refine (N0.out _).mono ?_
  rintro e v0 ⟨rfl, hv0⟩
  replace a0 := (hv0.cell (p := ⟨b, 0, none⟩) lb).trans a0
  replace a1 := (hv0.cell (p := ⟨b, 1, none⟩) lb).trans a1
  replace a2 := (hv0.cell (p := ⟨b, 2, none⟩) lb).trans a2
  replace a3 := (hv0.cell (p := ⟨b, 3, none⟩) lb).trans a3
  replace z : ∀ j, v0.frozen? ⟨b, j, none⟩ = false := fun j => (hv0.frozen (p := ⟨b, j, none⟩) lb).trans (z j)
  replace BB := below_step BB hv0
  replace lb := Nat.lt_of_lt_of_le lb hv0.size
  clear hv0 s0
  rcases Q0.out with q | q <;> subst q
  case inr => go_wp2_with fail; go_ret3; exact parseP_mk (by simp [parseP, firstErr, V0.out]) BB
  have zz := z 0
  go_wp2_with fail
  clear zz
  replace a0 : (v0.setCell ⟨b, 0, none⟩ (.int .u64 x0)).cell? ⟨b, 0, none⟩ = some (.int .u64 x0) := by go_simp
  replace a1 : (v0.setCell ⟨b, 0, none⟩ (.int .u64 x0)).cell? ⟨b, 1, none⟩ = some (.int .u64 0) := by go_simp
  replace a2 : (v0.setCell ⟨b, 0, none⟩ (.int .u64 x0)).cell? ⟨b, 2, none⟩ = some (.int .u64 0) := by go_simp
  replace a3 : (v0.setCell ⟨b, 0, none⟩ (.int .u64 x0)).cell? ⟨b, 3, none⟩ = some (.int .u64 0) := by go_simp
  replace z : ∀ j, (v0.setCell ⟨b, 0, none⟩ (.int .u64 x0)).frozen? ⟨b, j, none⟩ = false := fun j => by rw [World.frozen?_setCell]; exact z j
  replace lb : b < (v0.setCell ⟨b, 0, none⟩ (.int .u64 x0)).heap.size := by simpa using lb
  replace BB := below_set (j := 0) (v := .int .u64 x0) BB lw
  rw [rounds_succ]
  go_wp2_with fail
  refine wp_loop_rounds 1 ?_
  rw [rounds_succ]
  by_cases hl : 4294967296 ≤ x0
  · go_wp2_with fail
    go_ret3
    exact parseP_mk (by simp [parseP, firstErr, firstBig, sumFrom, V0.out, hl]) BB
  go_wp2_with fail
  refine wp_loop_rounds 1 ?_
  rw [rounds_succ]
  go_wp2_with fail
  go_ret3
  refine parseP_mk ?_ BB
  simp [parseP, firstErr, firstBig, sumFrom, V0.out, hl]
  all_goals (rw [if_neg (by omega)]; congr 1; omega)
set_option maxHeartbeats 8000000 in
set_option maxRecDepth 100000 in
theorem parse_walk2 (s : ByteArray) (hs : s.size ≤ 4294967280) (p0 : List UInt8) (p1 : List UInt8) (hP : partsV s.data.toList = [p0, p1]) (w : World) (hG : GW w) :
    Calls Tryz.prog 10 #[.string s] w (ParseP (parseP [p0, p1]) w) := by
  have hpf := parts_f s hs
  have hlen : ∀ q ∈ [p0, p1], (BA q).size ≤ 9223372036854775806 := fun q hq => by rw [ba_size]; have := partsV_part s.data.toList q (hP ▸ hq); have := size_len s; omega
  rw [hP] at hpf
  have n0 := number_calls (BA p0) (hlen p0 (by simp))
  obtain ⟨⟨x0, y0, e0⟩, hv0⟩ : ∃ r, numberV p0 = r := ⟨_, rfl⟩
  have hx0 := numberV_le p0
  have hq0 := numberV_err p0
  rw [hv0] at hq0
  have Q0 : Aside0 (e0 = 0 ∨ e0 = 200) := ⟨hq0⟩
  clear hq0
  rw [ba_list] at n0
  rw [hv0] at n0 hx0
  obtain ⟨l0, u0⟩ := hx0
  simp only at l0 u0
  have N0 := Aside0.mk n0
  have V0 := Aside0.mk hv0
  clear n0 hv0
  have n1 := number_calls (BA p1) (hlen p1 (by simp))
  obtain ⟨⟨x1, y1, e1⟩, hv1⟩ : ∃ r, numberV p1 = r := ⟨_, rfl⟩
  have hx1 := numberV_le p1
  have hq1 := numberV_err p1
  rw [hv1] at hq1
  have Q1 : Aside0 (e1 = 0 ∨ e1 = 200) := ⟨hq1⟩
  clear hq1
  rw [ba_list] at n1
  rw [hv1] at n1 hx1
  obtain ⟨l1, u1⟩ := hx1
  simp only at l1 u1
  have N1 := Aside0.mk n1
  have V1 := Aside0.mk hv1
  clear n1 hv1
  have HP := Aside0.mk hpf
  have HG := Aside0.mk hG
  clear hpf hG hlen hP
  go_enter Tryz.func10, Tryz.ntmps10
  go_wp2_with fail
  refine (four_parts.calls s _ _ HG.out HP.out).mono ?_
  rintro e w1 ⟨v, rfl, hR, hb1⟩
  have B1 := below_step (Below.refl _ _) hb1
  obtain ⟨g, c, rfl, lg, hC⟩ := strs_at hR (by simp)
  simp only [List.map_cons, List.map_nil, List.length_cons, List.length_nil, Nat.zero_add, Nat.reduceAdd] at hC ⊢
  clear hR hb1 HG HP
  obtain ⟨b, hbd⟩ : ∃ b, b = w1.heap.size := ⟨_, rfl⟩
  have lad : g < b := by rw [hbd]; exact lg
  have s0 : (w1.alloc (.cells #[.int .u64 0, .int .u64 0, .int .u64 0, .int .u64 0] 57)).cell? ⟨g, 0, none⟩ = some (.string (BA p0)) := (Below.cell (p := ⟨g, 0, none⟩) (below_alloc (Below.refl _ _) _) lg).trans (hC 0 (by decide))
  have s1 : (w1.alloc (.cells #[.int .u64 0, .int .u64 0, .int .u64 0, .int .u64 0] 57)).cell? ⟨g, 1, none⟩ = some (.string (BA p1)) := (Below.cell (p := ⟨g, 1, none⟩) (below_alloc (Below.refl _ _) _) lg).trans (hC 1 (by decide))
  have a0 : (w1.alloc (.cells #[.int .u64 0, .int .u64 0, .int .u64 0, .int .u64 0] 57)).cell? ⟨b, 0, none⟩ = some (.int .u64 0) := by rw [hbd]; go_simp
  have a1 : (w1.alloc (.cells #[.int .u64 0, .int .u64 0, .int .u64 0, .int .u64 0] 57)).cell? ⟨b, 1, none⟩ = some (.int .u64 0) := by rw [hbd]; go_simp
  have a2 : (w1.alloc (.cells #[.int .u64 0, .int .u64 0, .int .u64 0, .int .u64 0] 57)).cell? ⟨b, 2, none⟩ = some (.int .u64 0) := by rw [hbd]; go_simp
  have a3 : (w1.alloc (.cells #[.int .u64 0, .int .u64 0, .int .u64 0, .int .u64 0] 57)).cell? ⟨b, 3, none⟩ = some (.int .u64 0) := by rw [hbd]; go_simp
  have z : ∀ j, (w1.alloc (.cells #[.int .u64 0, .int .u64 0, .int .u64 0, .int .u64 0] 57)).frozen? ⟨b, j, none⟩ = false := fun j => by rw [hbd]; go_simp
  have lb : b < (w1.alloc (.cells #[.int .u64 0, .int .u64 0, .int .u64 0, .int .u64 0] 57)).heap.size := by rw [hbd]; simp
  have lw : w.heap.size ≤ b := by rw [hbd]; exact B1.size
  have BB := below_alloc B1 (.cells #[.int .u64 0, .int .u64 0, .int .u64 0, .int .u64 0] 57)
  go_wp2_with fail
  rw [← hbd]
  obtain ⟨W, hW⟩ : ∃ W, W = w1.alloc (.cells #[.int .u64 0, .int .u64 0, .int .u64 0, .int .u64 0] 57) := ⟨_, rfl⟩
  rw [← hW] at s0 s1 a0 a1 a2 a3 z lb BB ⊢
  clear hW hbd hC B1
  refine wp_loop_rounds 3 ?_
  rw [rounds_succ]
  go_wp2_with fail
  refine (N0.out _).mono ?_
  rintro e v0 ⟨rfl, hv0⟩
  replace a0 := (hv0.cell (p := ⟨b, 0, none⟩) lb).trans a0
  replace a1 := (hv0.cell (p := ⟨b, 1, none⟩) lb).trans a1
  replace a2 := (hv0.cell (p := ⟨b, 2, none⟩) lb).trans a2
  replace a3 := (hv0.cell (p := ⟨b, 3, none⟩) lb).trans a3
  replace z : ∀ j, v0.frozen? ⟨b, j, none⟩ = false := fun j => (hv0.frozen (p := ⟨b, j, none⟩) lb).trans (z j)
  replace BB := below_step BB hv0
  replace s1 := (hv0.cell (p := ⟨g, 1, none⟩) (Nat.lt_trans lad lb)).trans s1
  replace lb := Nat.lt_of_lt_of_le lb hv0.size
  clear hv0 s0
  rcases Q0.out with q | q <;> subst q
  case inr => go_wp2_with fail; go_ret3; exact parseP_mk (by simp [parseP, firstErr, V0.out, V1.out]) BB
  have zz := z 0
  go_wp2_with fail
  clear zz
  replace a0 : (v0.setCell ⟨b, 0, none⟩ (.int .u64 x0)).cell? ⟨b, 0, none⟩ = some (.int .u64 x0) := by go_simp
  replace a1 : (v0.setCell ⟨b, 0, none⟩ (.int .u64 x0)).cell? ⟨b, 1, none⟩ = some (.int .u64 0) := by go_simp
  replace a2 : (v0.setCell ⟨b, 0, none⟩ (.int .u64 x0)).cell? ⟨b, 2, none⟩ = some (.int .u64 0) := by go_simp
  replace a3 : (v0.setCell ⟨b, 0, none⟩ (.int .u64 x0)).cell? ⟨b, 3, none⟩ = some (.int .u64 0) := by go_simp
  replace z : ∀ j, (v0.setCell ⟨b, 0, none⟩ (.int .u64 x0)).frozen? ⟨b, j, none⟩ = false := fun j => by rw [World.frozen?_setCell]; exact z j
  replace lb : b < (v0.setCell ⟨b, 0, none⟩ (.int .u64 x0)).heap.size := by simpa using lb
  replace BB := below_set (j := 0) (v := .int .u64 x0) BB lw
  replace s1 : (v0.setCell ⟨b, 0, none⟩ (.int .u64 x0)).cell? ⟨g, 1, none⟩ = some (.string (BA p1)) := (World.cell?_setCell_other _ _ _ _ (fun e => absurd (congrArg Addr.block e) (Nat.ne_of_gt lad))).trans s1
  rw [rounds_succ]
  go_wp2_with fail
  refine (N1.out _).mono ?_
  rintro e v1 ⟨rfl, hv1⟩
  replace a0 := (hv1.cell (p := ⟨b, 0, none⟩) lb).trans a0
  replace a1 := (hv1.cell (p := ⟨b, 1, none⟩) lb).trans a1
  replace a2 := (hv1.cell (p := ⟨b, 2, none⟩) lb).trans a2
  replace a3 := (hv1.cell (p := ⟨b, 3, none⟩) lb).trans a3
  replace z : ∀ j, v1.frozen? ⟨b, j, none⟩ = false := fun j => (hv1.frozen (p := ⟨b, j, none⟩) lb).trans (z j)
  replace BB := below_step BB hv1
  replace lb := Nat.lt_of_lt_of_le lb hv1.size
  clear hv1 s1
  rcases Q1.out with q | q <;> subst q
  case inr => go_wp2_with fail; go_ret3; exact parseP_mk (by simp [parseP, firstErr, V0.out, V1.out]) BB
  have zz := z 1
  go_wp2_with fail
  clear zz
  replace a0 : (v1.setCell ⟨b, 1, none⟩ (.int .u64 x1)).cell? ⟨b, 0, none⟩ = some (.int .u64 x0) := by go_simp
  replace a1 : (v1.setCell ⟨b, 1, none⟩ (.int .u64 x1)).cell? ⟨b, 1, none⟩ = some (.int .u64 x1) := by go_simp
  replace a2 : (v1.setCell ⟨b, 1, none⟩ (.int .u64 x1)).cell? ⟨b, 2, none⟩ = some (.int .u64 0) := by go_simp
  replace a3 : (v1.setCell ⟨b, 1, none⟩ (.int .u64 x1)).cell? ⟨b, 3, none⟩ = some (.int .u64 0) := by go_simp
  replace z : ∀ j, (v1.setCell ⟨b, 1, none⟩ (.int .u64 x1)).frozen? ⟨b, j, none⟩ = false := fun j => by rw [World.frozen?_setCell]; exact z j
  replace lb : b < (v1.setCell ⟨b, 1, none⟩ (.int .u64 x1)).heap.size := by simpa using lb
  replace BB := below_set (j := 1) (v := .int .u64 x1) BB lw
  rw [rounds_succ]
  go_wp2_with fail
  refine wp_loop_rounds 2 ?_
  rw [rounds_succ]
  by_cases hx0 : 255 < x0
  · go_wp2_with fail
    go_ret3
    exact parseP_mk (by simp [parseP, firstErr, firstBig, sumFrom, V0.out, V1.out, hx0]) BB
  have t0 : x0 ≤ 255 := by omega
  clear hx0
  go_wp2_with fail
  rw [rounds_succ]
  by_cases hl : 16777216 ≤ x1
  · go_wp2_with fail
    go_ret3
    exact parseP_mk (by simp [parseP, firstErr, firstBig, sumFrom, V0.out, V1.out, not255 t0, hl]) BB
  go_wp2_with fail
  refine wp_loop_rounds 2 ?_
  rw [rounds_succ]
  go_wp2_with fail
  rw [rounds_succ]
  go_wp2_with fail
  go_ret3
  refine parseP_mk ?_ BB
  simp [parseP, firstErr, firstBig, sumFrom, V0.out, V1.out, not255 t0, hl]
  all_goals (rw [if_neg (by omega)]; congr 1; omega)
set_option maxHeartbeats 8000000 in
set_option maxRecDepth 100000 in
theorem parse_walk3 (s : ByteArray) (hs : s.size ≤ 4294967280) (p0 : List UInt8) (p1 : List UInt8) (p2 : List UInt8) (hP : partsV s.data.toList = [p0, p1, p2]) (w : World) (hG : GW w) :
    Calls Tryz.prog 10 #[.string s] w (ParseP (parseP [p0, p1, p2]) w) := by
  have hpf := parts_f s hs
  have hlen : ∀ q ∈ [p0, p1, p2], (BA q).size ≤ 9223372036854775806 := fun q hq => by rw [ba_size]; have := partsV_part s.data.toList q (hP ▸ hq); have := size_len s; omega
  rw [hP] at hpf
  have n0 := number_calls (BA p0) (hlen p0 (by simp))
  obtain ⟨⟨x0, y0, e0⟩, hv0⟩ : ∃ r, numberV p0 = r := ⟨_, rfl⟩
  have hx0 := numberV_le p0
  have hq0 := numberV_err p0
  rw [hv0] at hq0
  have Q0 : Aside0 (e0 = 0 ∨ e0 = 200) := ⟨hq0⟩
  clear hq0
  rw [ba_list] at n0
  rw [hv0] at n0 hx0
  obtain ⟨l0, u0⟩ := hx0
  simp only at l0 u0
  have N0 := Aside0.mk n0
  have V0 := Aside0.mk hv0
  clear n0 hv0
  have n1 := number_calls (BA p1) (hlen p1 (by simp))
  obtain ⟨⟨x1, y1, e1⟩, hv1⟩ : ∃ r, numberV p1 = r := ⟨_, rfl⟩
  have hx1 := numberV_le p1
  have hq1 := numberV_err p1
  rw [hv1] at hq1
  have Q1 : Aside0 (e1 = 0 ∨ e1 = 200) := ⟨hq1⟩
  clear hq1
  rw [ba_list] at n1
  rw [hv1] at n1 hx1
  obtain ⟨l1, u1⟩ := hx1
  simp only at l1 u1
  have N1 := Aside0.mk n1
  have V1 := Aside0.mk hv1
  clear n1 hv1
  have n2 := number_calls (BA p2) (hlen p2 (by simp))
  obtain ⟨⟨x2, y2, e2⟩, hv2⟩ : ∃ r, numberV p2 = r := ⟨_, rfl⟩
  have hx2 := numberV_le p2
  have hq2 := numberV_err p2
  rw [hv2] at hq2
  have Q2 : Aside0 (e2 = 0 ∨ e2 = 200) := ⟨hq2⟩
  clear hq2
  rw [ba_list] at n2
  rw [hv2] at n2 hx2
  obtain ⟨l2, u2⟩ := hx2
  simp only at l2 u2
  have N2 := Aside0.mk n2
  have V2 := Aside0.mk hv2
  clear n2 hv2
  have HP := Aside0.mk hpf
  have HG := Aside0.mk hG
  clear hpf hG hlen hP
  go_enter Tryz.func10, Tryz.ntmps10
  go_wp2_with fail
  refine (four_parts.calls s _ _ HG.out HP.out).mono ?_
  rintro e w1 ⟨v, rfl, hR, hb1⟩
  have B1 := below_step (Below.refl _ _) hb1
  obtain ⟨g, c, rfl, lg, hC⟩ := strs_at hR (by simp)
  simp only [List.map_cons, List.map_nil, List.length_cons, List.length_nil, Nat.zero_add, Nat.reduceAdd] at hC ⊢
  clear hR hb1 HG HP
  obtain ⟨b, hbd⟩ : ∃ b, b = w1.heap.size := ⟨_, rfl⟩
  have lad : g < b := by rw [hbd]; exact lg
  have s0 : (w1.alloc (.cells #[.int .u64 0, .int .u64 0, .int .u64 0, .int .u64 0] 57)).cell? ⟨g, 0, none⟩ = some (.string (BA p0)) := (Below.cell (p := ⟨g, 0, none⟩) (below_alloc (Below.refl _ _) _) lg).trans (hC 0 (by decide))
  have s1 : (w1.alloc (.cells #[.int .u64 0, .int .u64 0, .int .u64 0, .int .u64 0] 57)).cell? ⟨g, 1, none⟩ = some (.string (BA p1)) := (Below.cell (p := ⟨g, 1, none⟩) (below_alloc (Below.refl _ _) _) lg).trans (hC 1 (by decide))
  have s2 : (w1.alloc (.cells #[.int .u64 0, .int .u64 0, .int .u64 0, .int .u64 0] 57)).cell? ⟨g, 2, none⟩ = some (.string (BA p2)) := (Below.cell (p := ⟨g, 2, none⟩) (below_alloc (Below.refl _ _) _) lg).trans (hC 2 (by decide))
  have a0 : (w1.alloc (.cells #[.int .u64 0, .int .u64 0, .int .u64 0, .int .u64 0] 57)).cell? ⟨b, 0, none⟩ = some (.int .u64 0) := by rw [hbd]; go_simp
  have a1 : (w1.alloc (.cells #[.int .u64 0, .int .u64 0, .int .u64 0, .int .u64 0] 57)).cell? ⟨b, 1, none⟩ = some (.int .u64 0) := by rw [hbd]; go_simp
  have a2 : (w1.alloc (.cells #[.int .u64 0, .int .u64 0, .int .u64 0, .int .u64 0] 57)).cell? ⟨b, 2, none⟩ = some (.int .u64 0) := by rw [hbd]; go_simp
  have a3 : (w1.alloc (.cells #[.int .u64 0, .int .u64 0, .int .u64 0, .int .u64 0] 57)).cell? ⟨b, 3, none⟩ = some (.int .u64 0) := by rw [hbd]; go_simp
  have z : ∀ j, (w1.alloc (.cells #[.int .u64 0, .int .u64 0, .int .u64 0, .int .u64 0] 57)).frozen? ⟨b, j, none⟩ = false := fun j => by rw [hbd]; go_simp
  have lb : b < (w1.alloc (.cells #[.int .u64 0, .int .u64 0, .int .u64 0, .int .u64 0] 57)).heap.size := by rw [hbd]; simp
  have lw : w.heap.size ≤ b := by rw [hbd]; exact B1.size
  have BB := below_alloc B1 (.cells #[.int .u64 0, .int .u64 0, .int .u64 0, .int .u64 0] 57)
  go_wp2_with fail
  rw [← hbd]
  obtain ⟨W, hW⟩ : ∃ W, W = w1.alloc (.cells #[.int .u64 0, .int .u64 0, .int .u64 0, .int .u64 0] 57) := ⟨_, rfl⟩
  rw [← hW] at s0 s1 s2 a0 a1 a2 a3 z lb BB ⊢
  clear hW hbd hC B1
  refine wp_loop_rounds 4 ?_
  rw [rounds_succ]
  go_wp2_with fail
  refine (N0.out _).mono ?_
  rintro e v0 ⟨rfl, hv0⟩
  replace a0 := (hv0.cell (p := ⟨b, 0, none⟩) lb).trans a0
  replace a1 := (hv0.cell (p := ⟨b, 1, none⟩) lb).trans a1
  replace a2 := (hv0.cell (p := ⟨b, 2, none⟩) lb).trans a2
  replace a3 := (hv0.cell (p := ⟨b, 3, none⟩) lb).trans a3
  replace z : ∀ j, v0.frozen? ⟨b, j, none⟩ = false := fun j => (hv0.frozen (p := ⟨b, j, none⟩) lb).trans (z j)
  replace BB := below_step BB hv0
  replace s1 := (hv0.cell (p := ⟨g, 1, none⟩) (Nat.lt_trans lad lb)).trans s1
  replace s2 := (hv0.cell (p := ⟨g, 2, none⟩) (Nat.lt_trans lad lb)).trans s2
  replace lb := Nat.lt_of_lt_of_le lb hv0.size
  clear hv0 s0
  rcases Q0.out with q | q <;> subst q
  case inr => go_wp2_with fail; go_ret3; exact parseP_mk (by simp [parseP, firstErr, V0.out, V1.out, V2.out]) BB
  have zz := z 0
  go_wp2_with fail
  clear zz
  replace a0 : (v0.setCell ⟨b, 0, none⟩ (.int .u64 x0)).cell? ⟨b, 0, none⟩ = some (.int .u64 x0) := by go_simp
  replace a1 : (v0.setCell ⟨b, 0, none⟩ (.int .u64 x0)).cell? ⟨b, 1, none⟩ = some (.int .u64 0) := by go_simp
  replace a2 : (v0.setCell ⟨b, 0, none⟩ (.int .u64 x0)).cell? ⟨b, 2, none⟩ = some (.int .u64 0) := by go_simp
  replace a3 : (v0.setCell ⟨b, 0, none⟩ (.int .u64 x0)).cell? ⟨b, 3, none⟩ = some (.int .u64 0) := by go_simp
  replace z : ∀ j, (v0.setCell ⟨b, 0, none⟩ (.int .u64 x0)).frozen? ⟨b, j, none⟩ = false := fun j => by rw [World.frozen?_setCell]; exact z j
  replace lb : b < (v0.setCell ⟨b, 0, none⟩ (.int .u64 x0)).heap.size := by simpa using lb
  replace BB := below_set (j := 0) (v := .int .u64 x0) BB lw
  replace s1 : (v0.setCell ⟨b, 0, none⟩ (.int .u64 x0)).cell? ⟨g, 1, none⟩ = some (.string (BA p1)) := (World.cell?_setCell_other _ _ _ _ (fun e => absurd (congrArg Addr.block e) (Nat.ne_of_gt lad))).trans s1
  replace s2 : (v0.setCell ⟨b, 0, none⟩ (.int .u64 x0)).cell? ⟨g, 2, none⟩ = some (.string (BA p2)) := (World.cell?_setCell_other _ _ _ _ (fun e => absurd (congrArg Addr.block e) (Nat.ne_of_gt lad))).trans s2
  rw [rounds_succ]
  go_wp2_with fail
  refine (N1.out _).mono ?_
  rintro e v1 ⟨rfl, hv1⟩
  replace a0 := (hv1.cell (p := ⟨b, 0, none⟩) lb).trans a0
  replace a1 := (hv1.cell (p := ⟨b, 1, none⟩) lb).trans a1
  replace a2 := (hv1.cell (p := ⟨b, 2, none⟩) lb).trans a2
  replace a3 := (hv1.cell (p := ⟨b, 3, none⟩) lb).trans a3
  replace z : ∀ j, v1.frozen? ⟨b, j, none⟩ = false := fun j => (hv1.frozen (p := ⟨b, j, none⟩) lb).trans (z j)
  replace BB := below_step BB hv1
  replace s2 := (hv1.cell (p := ⟨g, 2, none⟩) (Nat.lt_trans lad lb)).trans s2
  replace lb := Nat.lt_of_lt_of_le lb hv1.size
  clear hv1 s1
  rcases Q1.out with q | q <;> subst q
  case inr => go_wp2_with fail; go_ret3; exact parseP_mk (by simp [parseP, firstErr, V0.out, V1.out, V2.out]) BB
  have zz := z 1
  go_wp2_with fail
  clear zz
  replace a0 : (v1.setCell ⟨b, 1, none⟩ (.int .u64 x1)).cell? ⟨b, 0, none⟩ = some (.int .u64 x0) := by go_simp
  replace a1 : (v1.setCell ⟨b, 1, none⟩ (.int .u64 x1)).cell? ⟨b, 1, none⟩ = some (.int .u64 x1) := by go_simp
  replace a2 : (v1.setCell ⟨b, 1, none⟩ (.int .u64 x1)).cell? ⟨b, 2, none⟩ = some (.int .u64 0) := by go_simp
  replace a3 : (v1.setCell ⟨b, 1, none⟩ (.int .u64 x1)).cell? ⟨b, 3, none⟩ = some (.int .u64 0) := by go_simp
  replace z : ∀ j, (v1.setCell ⟨b, 1, none⟩ (.int .u64 x1)).frozen? ⟨b, j, none⟩ = false := fun j => by rw [World.frozen?_setCell]; exact z j
  replace lb : b < (v1.setCell ⟨b, 1, none⟩ (.int .u64 x1)).heap.size := by simpa using lb
  replace BB := below_set (j := 1) (v := .int .u64 x1) BB lw
  replace s2 : (v1.setCell ⟨b, 1, none⟩ (.int .u64 x1)).cell? ⟨g, 2, none⟩ = some (.string (BA p2)) := (World.cell?_setCell_other _ _ _ _ (fun e => absurd (congrArg Addr.block e) (Nat.ne_of_gt lad))).trans s2
  rw [rounds_succ]
  go_wp2_with fail
  refine (N2.out _).mono ?_
  rintro e v2 ⟨rfl, hv2⟩
  replace a0 := (hv2.cell (p := ⟨b, 0, none⟩) lb).trans a0
  replace a1 := (hv2.cell (p := ⟨b, 1, none⟩) lb).trans a1
  replace a2 := (hv2.cell (p := ⟨b, 2, none⟩) lb).trans a2
  replace a3 := (hv2.cell (p := ⟨b, 3, none⟩) lb).trans a3
  replace z : ∀ j, v2.frozen? ⟨b, j, none⟩ = false := fun j => (hv2.frozen (p := ⟨b, j, none⟩) lb).trans (z j)
  replace BB := below_step BB hv2
  replace lb := Nat.lt_of_lt_of_le lb hv2.size
  clear hv2 s2
  rcases Q2.out with q | q <;> subst q
  case inr => go_wp2_with fail; go_ret3; exact parseP_mk (by simp [parseP, firstErr, V0.out, V1.out, V2.out]) BB
  have zz := z 2
  go_wp2_with fail
  clear zz
  replace a0 : (v2.setCell ⟨b, 2, none⟩ (.int .u64 x2)).cell? ⟨b, 0, none⟩ = some (.int .u64 x0) := by go_simp
  replace a1 : (v2.setCell ⟨b, 2, none⟩ (.int .u64 x2)).cell? ⟨b, 1, none⟩ = some (.int .u64 x1) := by go_simp
  replace a2 : (v2.setCell ⟨b, 2, none⟩ (.int .u64 x2)).cell? ⟨b, 2, none⟩ = some (.int .u64 x2) := by go_simp
  replace a3 : (v2.setCell ⟨b, 2, none⟩ (.int .u64 x2)).cell? ⟨b, 3, none⟩ = some (.int .u64 0) := by go_simp
  replace z : ∀ j, (v2.setCell ⟨b, 2, none⟩ (.int .u64 x2)).frozen? ⟨b, j, none⟩ = false := fun j => by rw [World.frozen?_setCell]; exact z j
  replace lb : b < (v2.setCell ⟨b, 2, none⟩ (.int .u64 x2)).heap.size := by simpa using lb
  replace BB := below_set (j := 2) (v := .int .u64 x2) BB lw
  rw [rounds_succ]
  go_wp2_with fail
  refine wp_loop_rounds 3 ?_
  rw [rounds_succ]
  by_cases hx0 : 255 < x0
  · go_wp2_with fail
    go_ret3
    exact parseP_mk (by simp [parseP, firstErr, firstBig, sumFrom, V0.out, V1.out, V2.out, hx0]) BB
  have t0 : x0 ≤ 255 := by omega
  clear hx0
  go_wp2_with fail
  rw [rounds_succ]
  by_cases hx1 : 255 < x1
  · go_wp2_with fail
    go_ret3
    exact parseP_mk (by simp [parseP, firstErr, firstBig, sumFrom, V0.out, V1.out, V2.out, not255 t0, hx1]) BB
  have t1 : x1 ≤ 255 := by omega
  clear hx1
  go_wp2_with fail
  rw [rounds_succ]
  by_cases hl : 65536 ≤ x2
  · go_wp2_with fail
    go_ret3
    exact parseP_mk (by simp [parseP, firstErr, firstBig, sumFrom, V0.out, V1.out, V2.out, not255 t0, not255 t1, hl]) BB
  go_wp2_with fail
  refine wp_loop_rounds 3 ?_
  rw [rounds_succ]
  go_wp2_with fail
  rw [rounds_succ]
  go_wp2_with fail
  rw [rounds_succ]
  go_wp2_with fail
  go_ret3
  refine parseP_mk ?_ BB
  simp [parseP, firstErr, firstBig, sumFrom, V0.out, V1.out, V2.out, not255 t0, not255 t1, hl]
  all_goals (rw [if_neg (by omega)]; congr 1; omega)
set_option maxHeartbeats 8000000 in
set_option maxRecDepth 100000 in
theorem parse_walk4 (s : ByteArray) (hs : s.size ≤ 4294967280) (p0 : List UInt8) (p1 : List UInt8) (p2 : List UInt8) (p3 : List UInt8) (hP : partsV s.data.toList = [p0, p1, p2, p3]) (w : World) (hG : GW w) :
    Calls Tryz.prog 10 #[.string s] w (ParseP (parseP [p0, p1, p2, p3]) w) := by
  have hpf := parts_f s hs
  have hlen : ∀ q ∈ [p0, p1, p2, p3], (BA q).size ≤ 9223372036854775806 := fun q hq => by rw [ba_size]; have := partsV_part s.data.toList q (hP ▸ hq); have := size_len s; omega
  rw [hP] at hpf
  have n0 := number_calls (BA p0) (hlen p0 (by simp))
  obtain ⟨⟨x0, y0, e0⟩, hv0⟩ : ∃ r, numberV p0 = r := ⟨_, rfl⟩
  have hx0 := numberV_le p0
  have hq0 := numberV_err p0
  rw [hv0] at hq0
  have Q0 : Aside0 (e0 = 0 ∨ e0 = 200) := ⟨hq0⟩
  clear hq0
  rw [ba_list] at n0
  rw [hv0] at n0 hx0
  obtain ⟨l0, u0⟩ := hx0
  simp only at l0 u0
  have N0 := Aside0.mk n0
  have V0 := Aside0.mk hv0
  clear n0 hv0
  have n1 := number_calls (BA p1) (hlen p1 (by simp))
  obtain ⟨⟨x1, y1, e1⟩, hv1⟩ : ∃ r, numberV p1 = r := ⟨_, rfl⟩
  have hx1 := numberV_le p1
  have hq1 := numberV_err p1
  rw [hv1] at hq1
  have Q1 : Aside0 (e1 = 0 ∨ e1 = 200) := ⟨hq1⟩
  clear hq1
  rw [ba_list] at n1
  rw [hv1] at n1 hx1
  obtain ⟨l1, u1⟩ := hx1
  simp only at l1 u1
  have N1 := Aside0.mk n1
  have V1 := Aside0.mk hv1
  clear n1 hv1
  have n2 := number_calls (BA p2) (hlen p2 (by simp))
  obtain ⟨⟨x2, y2, e2⟩, hv2⟩ : ∃ r, numberV p2 = r := ⟨_, rfl⟩
  have hx2 := numberV_le p2
  have hq2 := numberV_err p2
  rw [hv2] at hq2
  have Q2 : Aside0 (e2 = 0 ∨ e2 = 200) := ⟨hq2⟩
  clear hq2
  rw [ba_list] at n2
  rw [hv2] at n2 hx2
  obtain ⟨l2, u2⟩ := hx2
  simp only at l2 u2
  have N2 := Aside0.mk n2
  have V2 := Aside0.mk hv2
  clear n2 hv2
  have n3 := number_calls (BA p3) (hlen p3 (by simp))
  obtain ⟨⟨x3, y3, e3⟩, hv3⟩ : ∃ r, numberV p3 = r := ⟨_, rfl⟩
  have hx3 := numberV_le p3
  have hq3 := numberV_err p3
  rw [hv3] at hq3
  have Q3 : Aside0 (e3 = 0 ∨ e3 = 200) := ⟨hq3⟩
  clear hq3
  rw [ba_list] at n3
  rw [hv3] at n3 hx3
  obtain ⟨l3, u3⟩ := hx3
  simp only at l3 u3
  have N3 := Aside0.mk n3
  have V3 := Aside0.mk hv3
  clear n3 hv3
  have HP := Aside0.mk hpf
  have HG := Aside0.mk hG
  clear hpf hG hlen hP
  go_enter Tryz.func10, Tryz.ntmps10
  go_wp2_with fail
  refine (four_parts.calls s _ _ HG.out HP.out).mono ?_
  rintro e w1 ⟨v, rfl, hR, hb1⟩
  have B1 := below_step (Below.refl _ _) hb1
  obtain ⟨g, c, rfl, lg, hC⟩ := strs_at hR (by simp)
  simp only [List.map_cons, List.map_nil, List.length_cons, List.length_nil, Nat.zero_add, Nat.reduceAdd] at hC ⊢
  clear hR hb1 HG HP
  obtain ⟨b, hbd⟩ : ∃ b, b = w1.heap.size := ⟨_, rfl⟩
  have lad : g < b := by rw [hbd]; exact lg
  have s0 : (w1.alloc (.cells #[.int .u64 0, .int .u64 0, .int .u64 0, .int .u64 0] 57)).cell? ⟨g, 0, none⟩ = some (.string (BA p0)) := (Below.cell (p := ⟨g, 0, none⟩) (below_alloc (Below.refl _ _) _) lg).trans (hC 0 (by decide))
  have s1 : (w1.alloc (.cells #[.int .u64 0, .int .u64 0, .int .u64 0, .int .u64 0] 57)).cell? ⟨g, 1, none⟩ = some (.string (BA p1)) := (Below.cell (p := ⟨g, 1, none⟩) (below_alloc (Below.refl _ _) _) lg).trans (hC 1 (by decide))
  have s2 : (w1.alloc (.cells #[.int .u64 0, .int .u64 0, .int .u64 0, .int .u64 0] 57)).cell? ⟨g, 2, none⟩ = some (.string (BA p2)) := (Below.cell (p := ⟨g, 2, none⟩) (below_alloc (Below.refl _ _) _) lg).trans (hC 2 (by decide))
  have s3 : (w1.alloc (.cells #[.int .u64 0, .int .u64 0, .int .u64 0, .int .u64 0] 57)).cell? ⟨g, 3, none⟩ = some (.string (BA p3)) := (Below.cell (p := ⟨g, 3, none⟩) (below_alloc (Below.refl _ _) _) lg).trans (hC 3 (by decide))
  have a0 : (w1.alloc (.cells #[.int .u64 0, .int .u64 0, .int .u64 0, .int .u64 0] 57)).cell? ⟨b, 0, none⟩ = some (.int .u64 0) := by rw [hbd]; go_simp
  have a1 : (w1.alloc (.cells #[.int .u64 0, .int .u64 0, .int .u64 0, .int .u64 0] 57)).cell? ⟨b, 1, none⟩ = some (.int .u64 0) := by rw [hbd]; go_simp
  have a2 : (w1.alloc (.cells #[.int .u64 0, .int .u64 0, .int .u64 0, .int .u64 0] 57)).cell? ⟨b, 2, none⟩ = some (.int .u64 0) := by rw [hbd]; go_simp
  have a3 : (w1.alloc (.cells #[.int .u64 0, .int .u64 0, .int .u64 0, .int .u64 0] 57)).cell? ⟨b, 3, none⟩ = some (.int .u64 0) := by rw [hbd]; go_simp
  have z : ∀ j, (w1.alloc (.cells #[.int .u64 0, .int .u64 0, .int .u64 0, .int .u64 0] 57)).frozen? ⟨b, j, none⟩ = false := fun j => by rw [hbd]; go_simp
  have lb : b < (w1.alloc (.cells #[.int .u64 0, .int .u64 0, .int .u64 0, .int .u64 0] 57)).heap.size := by rw [hbd]; simp
  have lw : w.heap.size ≤ b := by rw [hbd]; exact B1.size
  have BB := below_alloc B1 (.cells #[.int .u64 0, .int .u64 0, .int .u64 0, .int .u64 0] 57)
  go_wp2_with fail
  rw [← hbd]
  obtain ⟨W, hW⟩ : ∃ W, W = w1.alloc (.cells #[.int .u64 0, .int .u64 0, .int .u64 0, .int .u64 0] 57) := ⟨_, rfl⟩
  rw [← hW] at s0 s1 s2 s3 a0 a1 a2 a3 z lb BB ⊢
  clear hW hbd hC B1
  refine wp_loop_rounds 5 ?_
  rw [rounds_succ]
  go_wp2_with fail
  refine (N0.out _).mono ?_
  rintro e v0 ⟨rfl, hv0⟩
  replace a0 := (hv0.cell (p := ⟨b, 0, none⟩) lb).trans a0
  replace a1 := (hv0.cell (p := ⟨b, 1, none⟩) lb).trans a1
  replace a2 := (hv0.cell (p := ⟨b, 2, none⟩) lb).trans a2
  replace a3 := (hv0.cell (p := ⟨b, 3, none⟩) lb).trans a3
  replace z : ∀ j, v0.frozen? ⟨b, j, none⟩ = false := fun j => (hv0.frozen (p := ⟨b, j, none⟩) lb).trans (z j)
  replace BB := below_step BB hv0
  replace s1 := (hv0.cell (p := ⟨g, 1, none⟩) (Nat.lt_trans lad lb)).trans s1
  replace s2 := (hv0.cell (p := ⟨g, 2, none⟩) (Nat.lt_trans lad lb)).trans s2
  replace s3 := (hv0.cell (p := ⟨g, 3, none⟩) (Nat.lt_trans lad lb)).trans s3
  replace lb := Nat.lt_of_lt_of_le lb hv0.size
  clear hv0 s0
  rcases Q0.out with q | q <;> subst q
  case inr => go_wp2_with fail; go_ret3; exact parseP_mk (by simp [parseP, firstErr, V0.out, V1.out, V2.out, V3.out]) BB
  have zz := z 0
  go_wp2_with fail
  clear zz
  replace a0 : (v0.setCell ⟨b, 0, none⟩ (.int .u64 x0)).cell? ⟨b, 0, none⟩ = some (.int .u64 x0) := by go_simp
  replace a1 : (v0.setCell ⟨b, 0, none⟩ (.int .u64 x0)).cell? ⟨b, 1, none⟩ = some (.int .u64 0) := by go_simp
  replace a2 : (v0.setCell ⟨b, 0, none⟩ (.int .u64 x0)).cell? ⟨b, 2, none⟩ = some (.int .u64 0) := by go_simp
  replace a3 : (v0.setCell ⟨b, 0, none⟩ (.int .u64 x0)).cell? ⟨b, 3, none⟩ = some (.int .u64 0) := by go_simp
  replace z : ∀ j, (v0.setCell ⟨b, 0, none⟩ (.int .u64 x0)).frozen? ⟨b, j, none⟩ = false := fun j => by rw [World.frozen?_setCell]; exact z j
  replace lb : b < (v0.setCell ⟨b, 0, none⟩ (.int .u64 x0)).heap.size := by simpa using lb
  replace BB := below_set (j := 0) (v := .int .u64 x0) BB lw
  replace s1 : (v0.setCell ⟨b, 0, none⟩ (.int .u64 x0)).cell? ⟨g, 1, none⟩ = some (.string (BA p1)) := (World.cell?_setCell_other _ _ _ _ (fun e => absurd (congrArg Addr.block e) (Nat.ne_of_gt lad))).trans s1
  replace s2 : (v0.setCell ⟨b, 0, none⟩ (.int .u64 x0)).cell? ⟨g, 2, none⟩ = some (.string (BA p2)) := (World.cell?_setCell_other _ _ _ _ (fun e => absurd (congrArg Addr.block e) (Nat.ne_of_gt lad))).trans s2
  replace s3 : (v0.setCell ⟨b, 0, none⟩ (.int .u64 x0)).cell? ⟨g, 3, none⟩ = some (.string (BA p3)) := (World.cell?_setCell_other _ _ _ _ (fun e => absurd (congrArg Addr.block e) (Nat.ne_of_gt lad))).trans s3
  rw [rounds_succ]
  go_wp2_with fail
  refine (N1.out _).mono ?_
  rintro e v1 ⟨rfl, hv1⟩
  replace a0 := (hv1.cell (p := ⟨b, 0, none⟩) lb).trans a0
  replace a1 := (hv1.cell (p := ⟨b, 1, none⟩) lb).trans a1
  replace a2 := (hv1.cell (p := ⟨b, 2, none⟩) lb).trans a2
  replace a3 := (hv1.cell (p := ⟨b, 3, none⟩) lb).trans a3
  replace z : ∀ j, v1.frozen? ⟨b, j, none⟩ = false := fun j => (hv1.frozen (p := ⟨b, j, none⟩) lb).trans (z j)
  replace BB := below_step BB hv1
  replace s2 := (hv1.cell (p := ⟨g, 2, none⟩) (Nat.lt_trans lad lb)).trans s2
  replace s3 := (hv1.cell (p := ⟨g, 3, none⟩) (Nat.lt_trans lad lb)).trans s3
  replace lb := Nat.lt_of_lt_of_le lb hv1.size
  clear hv1 s1
  rcases Q1.out with q | q <;> subst q
  case inr => go_wp2_with fail; go_ret3; exact parseP_mk (by simp [parseP, firstErr, V0.out, V1.out, V2.out, V3.out]) BB
  have zz := z 1
  go_wp2_with fail
  clear zz
  replace a0 : (v1.setCell ⟨b, 1, none⟩ (.int .u64 x1)).cell? ⟨b, 0, none⟩ = some (.int .u64 x0) := by go_simp
  replace a1 : (v1.setCell ⟨b, 1, none⟩ (.int .u64 x1)).cell? ⟨b, 1, none⟩ = some (.int .u64 x1) := by go_simp
  replace a2 : (v1.setCell ⟨b, 1, none⟩ (.int .u64 x1)).cell? ⟨b, 2, none⟩ = some (.int .u64 0) := by go_simp
  replace a3 : (v1.setCell ⟨b, 1, none⟩ (.int .u64 x1)).cell? ⟨b, 3, none⟩ = some (.int .u64 0) := by go_simp
  replace z : ∀ j, (v1.setCell ⟨b, 1, none⟩ (.int .u64 x1)).frozen? ⟨b, j, none⟩ = false := fun j => by rw [World.frozen?_setCell]; exact z j
  replace lb : b < (v1.setCell ⟨b, 1, none⟩ (.int .u64 x1)).heap.size := by simpa using lb
  replace BB := below_set (j := 1) (v := .int .u64 x1) BB lw
  replace s2 : (v1.setCell ⟨b, 1, none⟩ (.int .u64 x1)).cell? ⟨g, 2, none⟩ = some (.string (BA p2)) := (World.cell?_setCell_other _ _ _ _ (fun e => absurd (congrArg Addr.block e) (Nat.ne_of_gt lad))).trans s2
  replace s3 : (v1.setCell ⟨b, 1, none⟩ (.int .u64 x1)).cell? ⟨g, 3, none⟩ = some (.string (BA p3)) := (World.cell?_setCell_other _ _ _ _ (fun e => absurd (congrArg Addr.block e) (Nat.ne_of_gt lad))).trans s3
  rw [rounds_succ]
  go_wp2_with fail
  refine (N2.out _).mono ?_
  rintro e v2 ⟨rfl, hv2⟩
  replace a0 := (hv2.cell (p := ⟨b, 0, none⟩) lb).trans a0
  replace a1 := (hv2.cell (p := ⟨b, 1, none⟩) lb).trans a1
  replace a2 := (hv2.cell (p := ⟨b, 2, none⟩) lb).trans a2
  replace a3 := (hv2.cell (p := ⟨b, 3, none⟩) lb).trans a3
  replace z : ∀ j, v2.frozen? ⟨b, j, none⟩ = false := fun j => (hv2.frozen (p := ⟨b, j, none⟩) lb).trans (z j)
  replace BB := below_step BB hv2
  replace s3 := (hv2.cell (p := ⟨g, 3, none⟩) (Nat.lt_trans lad lb)).trans s3
  replace lb := Nat.lt_of_lt_of_le lb hv2.size
  clear hv2 s2
  rcases Q2.out with q | q <;> subst q
  case inr => go_wp2_with fail; go_ret3; exact parseP_mk (by simp [parseP, firstErr, V0.out, V1.out, V2.out, V3.out]) BB
  have zz := z 2
  go_wp2_with fail
  clear zz
  replace a0 : (v2.setCell ⟨b, 2, none⟩ (.int .u64 x2)).cell? ⟨b, 0, none⟩ = some (.int .u64 x0) := by go_simp
  replace a1 : (v2.setCell ⟨b, 2, none⟩ (.int .u64 x2)).cell? ⟨b, 1, none⟩ = some (.int .u64 x1) := by go_simp
  replace a2 : (v2.setCell ⟨b, 2, none⟩ (.int .u64 x2)).cell? ⟨b, 2, none⟩ = some (.int .u64 x2) := by go_simp
  replace a3 : (v2.setCell ⟨b, 2, none⟩ (.int .u64 x2)).cell? ⟨b, 3, none⟩ = some (.int .u64 0) := by go_simp
  replace z : ∀ j, (v2.setCell ⟨b, 2, none⟩ (.int .u64 x2)).frozen? ⟨b, j, none⟩ = false := fun j => by rw [World.frozen?_setCell]; exact z j
  replace lb : b < (v2.setCell ⟨b, 2, none⟩ (.int .u64 x2)).heap.size := by simpa using lb
  replace BB := below_set (j := 2) (v := .int .u64 x2) BB lw
  replace s3 : (v2.setCell ⟨b, 2, none⟩ (.int .u64 x2)).cell? ⟨g, 3, none⟩ = some (.string (BA p3)) := (World.cell?_setCell_other _ _ _ _ (fun e => absurd (congrArg Addr.block e) (Nat.ne_of_gt lad))).trans s3
  rw [rounds_succ]
  go_wp2_with fail
  refine (N3.out _).mono ?_
  rintro e v3 ⟨rfl, hv3⟩
  replace a0 := (hv3.cell (p := ⟨b, 0, none⟩) lb).trans a0
  replace a1 := (hv3.cell (p := ⟨b, 1, none⟩) lb).trans a1
  replace a2 := (hv3.cell (p := ⟨b, 2, none⟩) lb).trans a2
  replace a3 := (hv3.cell (p := ⟨b, 3, none⟩) lb).trans a3
  replace z : ∀ j, v3.frozen? ⟨b, j, none⟩ = false := fun j => (hv3.frozen (p := ⟨b, j, none⟩) lb).trans (z j)
  replace BB := below_step BB hv3
  replace lb := Nat.lt_of_lt_of_le lb hv3.size
  clear hv3 s3
  rcases Q3.out with q | q <;> subst q
  case inr => go_wp2_with fail; go_ret3; exact parseP_mk (by simp [parseP, firstErr, V0.out, V1.out, V2.out, V3.out]) BB
  have zz := z 3
  go_wp2_with fail
  clear zz
  replace a0 : (v3.setCell ⟨b, 3, none⟩ (.int .u64 x3)).cell? ⟨b, 0, none⟩ = some (.int .u64 x0) := by go_simp
  replace a1 : (v3.setCell ⟨b, 3, none⟩ (.int .u64 x3)).cell? ⟨b, 1, none⟩ = some (.int .u64 x1) := by go_simp
  replace a2 : (v3.setCell ⟨b, 3, none⟩ (.int .u64 x3)).cell? ⟨b, 2, none⟩ = some (.int .u64 x2) := by go_simp
  replace a3 : (v3.setCell ⟨b, 3, none⟩ (.int .u64 x3)).cell? ⟨b, 3, none⟩ = some (.int .u64 x3) := by go_simp
  replace z : ∀ j, (v3.setCell ⟨b, 3, none⟩ (.int .u64 x3)).frozen? ⟨b, j, none⟩ = false := fun j => by rw [World.frozen?_setCell]; exact z j
  replace lb : b < (v3.setCell ⟨b, 3, none⟩ (.int .u64 x3)).heap.size := by simpa using lb
  replace BB := below_set (j := 3) (v := .int .u64 x3) BB lw
  rw [rounds_succ]
  go_wp2_with fail
  refine wp_loop_rounds 4 ?_
  rw [rounds_succ]
  by_cases hx0 : 255 < x0
  · go_wp2_with fail
    go_ret3
    exact parseP_mk (by simp [parseP, firstErr, firstBig, sumFrom, V0.out, V1.out, V2.out, V3.out, hx0]) BB
  have t0 : x0 ≤ 255 := by omega
  clear hx0
  go_wp2_with fail
  rw [rounds_succ]
  by_cases hx1 : 255 < x1
  · go_wp2_with fail
    go_ret3
    exact parseP_mk (by simp [parseP, firstErr, firstBig, sumFrom, V0.out, V1.out, V2.out, V3.out, not255 t0, hx1]) BB
  have t1 : x1 ≤ 255 := by omega
  clear hx1
  go_wp2_with fail
  rw [rounds_succ]
  by_cases hx2 : 255 < x2
  · go_wp2_with fail
    go_ret3
    exact parseP_mk (by simp [parseP, firstErr, firstBig, sumFrom, V0.out, V1.out, V2.out, V3.out, not255 t0, not255 t1, hx2]) BB
  have t2 : x2 ≤ 255 := by omega
  clear hx2
  go_wp2_with fail
  rw [rounds_succ]
  by_cases hl : 256 ≤ x3
  · go_wp2_with fail
    go_ret3
    exact parseP_mk (by simp [parseP, firstErr, firstBig, sumFrom, V0.out, V1.out, V2.out, V3.out, not255 t0, not255 t1, not255 t2, hl]) BB
  go_wp2_with fail
  refine wp_loop_rounds 4 ?_
  rw [rounds_succ]
  go_wp2_with fail
  rw [rounds_succ]
  go_wp2_with fail
  rw [rounds_succ]
  go_wp2_with fail
  rw [rounds_succ]
  go_wp2_with fail
  go_ret3
  refine parseP_mk ?_ BB
  simp [parseP, firstErr, firstBig, sumFrom, V0.out, V1.out, V2.out, V3.out, not255 t0, not255 t1, not255 t2, hl]
  all_goals (rw [if_neg (by omega)]; congr 1; omega)
set_option maxHeartbeats 1000000 in
set_option maxRecDepth 100000 in
theorem parse_walkN (s : ByteArray) (hs : s.size ≤ 4294967280) (hP : 4 < (partsV s.data.toList).length) (w : World) (hG : GW w) :
    Calls Tryz.prog 10 #[.string s] w (ParseP (parseP (partsV s.data.toList)) w) := by
  have hpf := parts_f s hs
  have hv : parseP (partsV s.data.toList) = (0, 4, 201) := if_pos hP
  have HV := Aside0.mk hv
  have HP := Aside0.mk hpf
  obtain ⟨n, hn⟩ : ∃ n, n = ((partsV s.data.toList).map BA).length := ⟨_, rfl⟩
  have hn4 : 4 < n := by rw [hn]; simpa using hP
  clear hv hpf hP
  go_enter Tryz.func10, Tryz.ntmps10
  go_wp2_with fail
  refine (four_parts.calls s _ _ hG HP.out).mono ?_
  rintro e w1 ⟨v, rfl, hR, hb1⟩
  obtain ⟨A, c, rfl, hle, hC⟩ := Kd.R_reads hR
  rw [← hn]
  clear hR hC hle hn
  go_wp2_with fail
  go_ret3
  exact parseP_mk HV.out hb1
theorem parse_walk (s : ByteArray) (hs : s.size ≤ 4294967280) (w : World) (hG : GW w) : Calls Tryz.prog 10 #[.string s] w (ParseP (parseV s.data.toList) w) := by
  unfold parseV
  match hP : partsV s.data.toList with
  | [] => exact absurd hP (partsV_ne _)
  | [p0] => exact parse_walk1 s hs p0 hP w hG
  | [p0, p1] => exact parse_walk2 s hs p0 p1 hP w hG
  | [p0, p1, p2] => exact parse_walk3 s hs p0 p1 p2 hP w hG
  | [p0, p1, p2, p3] => exact parse_walk4 s hs p0 p1 p2 p3 hP w hG
  | p0 :: p1 :: p2 :: p3 :: p4 :: r => exact hP ▸ parse_walkN s hs (by rw [hP]; simp) w hG
def four_Parse.f (a0 : ByteArray) : Option (Int × Int × Int) := if a0.size ≤ 4294967280 then some (parseV a0.data.toList) else none
theorem four_Parse.calls (a0 : ByteArray) (r1 r2 r3 : Int) (w : World) (hG : GW w) (h : four_Parse.f a0 = some (r1, r2, r3)) :
    Calls Tryz.prog 10 #[.string a0] w fun e w' => e = .returned (.tuple #[.int .u32 r1, .int .i64 r2, .int .i64 r3]) ∧ Below w.heap.size w w' := by
  unfold four_Parse.f at h
  by_cases hs : a0.size ≤ 4294967280
  · rw [if_pos hs] at h
    have h := Option.some.inj h
    refine (parse_walk a0 hs w hG).mono fun e w' hh => ?_
    rw [h] at hh
    exact hh
  · rw [if_neg hs] at h
    cases h
end Go.Proofs.YtgnahagnmodpdaaGreatDoor
/-! App -/
namespace Go.Proofs.YtgnahagnmodpdaaGreatDoor
open Go.RowKit
set_option linter.unusedVariables false
set_option linter.unusedSimpArgs false
theorem cells_new (w : World) (cs : List Value) (t : TypeId) : ∀ j u, cs[j]? = some u → (w.alloc (.cells cs.toArray t)).cell? ((⟨w.heap.size, 0, none⟩ : Addr).add j) = some u := by
  intro j u hj
  have hb : (w.alloc (.cells cs.toArray t)).heap[w.heap.size]? = some (.cells cs.toArray t (0, 0)) := heap_alloc_new w _
  have ha : ((⟨w.heap.size, 0, none⟩ : Addr).add j) = ⟨w.heap.size, j, none⟩ := by unfold Addr.add; split <;> simp_all
  rw [ha, Lib.cell_of_heap hb]
  simpa using hj
theorem app_one {P : Program} {w : World} {ops : Array Oper} {rest : List Oper} {o : Oper} {a : Act} {Q : Exit → Act → World → Prop} (hgd : o.guard = none) (s x : Operand) (t : TypeId)
    (ho : o.op = .call { callee := .builtin .append, args := #[s, x], argTypes := #[t, t] })
    (base : Nat) (e : TypeId) (i : TypeInfo) (z : Value) (size bytes : Nat) (ht : P.underlying t = some (.slice e)) (hi : P.info? e = some i) (hz : i.zero = some z)
    (hsize : i.size = size) (hby : i.bytes = bytes) (hzs : z.cells.size = size) (hsz : 0 < size)
    (v : Value) (n : Nat) (xs : List Value) (hs : a.eval s = v) (hown : w.ownsRow base e size v n xs)
    (cs : List Value) (hx : a.eval x = .slice (some ⟨w.heap.size, 0, none⟩) 1 1) (hcl : cs.length = size) (h1 : ∀ u ∈ cs, u.oneCell' = true)
    (h63 : n + 1 ≤ maxLen) (hbytes : (n + 1) * bytes ≤ 140737488355328) (hbase : base ≤ w.heap.size)
    (h : ∀ g cap w', base ≤ g → w'.ownsRow base e size (.slice (some ⟨g, 0, none⟩) (n + 1) cap) (n + 1) (xs ++ cs) → (w.alloc (.cells cs.toArray e)).grownBy w' v.ownBlock →
      (∀ B w0, B ≤ base → Below B w0 w → Below B w0 w') → wpList P ops Q rest (a.put o.dst (.slice (some ⟨g, 0, none⟩) (n + 1) cap)) w') :
    wpList P ops Q (o :: rest) a (w.alloc (.cells cs.toArray e)) := by
  refine wpList_append_own _ hgd s x t ho base e i z size bytes ht hi hz hsize hby hzs hsz v n xs hs (hown.alloc _) ⟨w.heap.size, 0, none⟩ 1 1 cs hx (by omega) (cells_new w cs e) h1 h63 hbytes (by simp; omega) ?_
  intro v' w' hown' hgrow _
  have hB : ∀ B w0, B ≤ base → Below B w0 w → Below B w0 w' := fun B w0 hb hw =>
    (hw.alloc (by omega) _).grown hgrow (by simp; omega) (fun k hk => Nat.le_trans hb (hown.lt k hk).1)
  rcases hown'.2 with ⟨_, h0⟩ | ⟨g, cap, cur, hv, hg, _⟩
  · omega
  · subst hv
    exact h g cap w' hg hown' hgrow hB
end Go.Proofs.YtgnahagnmodpdaaGreatDoor
/-! Dec -/
namespace Go.Proofs.YtgnahagnmodpdaaGreatDoor
open Go.RowKit Go.Proofs.YtgnahagnmodpdaaGreatDoorW.PrintWords
set_option linter.unusedVariables false
set_option linter.unusedSimpArgs false
/-- A digit's byte. -/
def dgt (n : Nat) : UInt8 := UInt8.ofNat (48 + n)
/-- A number below 1000 in digits. -/
def dec3 (n : Nat) : List UInt8 := (if 100 ≤ n then [dgt (n / 100)] else []) ++ (if 10 ≤ n then [dgt (n / 10 % 10)] else []) ++ [dgt (n % 10)]
theorem decDigits_small {n : Nat} (h : n < 1000) : Lib.decDigits n = dec3 n := by
  unfold dec3
  by_cases h1 : n < 10
  · rw [Lib.decDigits, dif_pos h1, if_neg (by omega), if_neg (by omega), Nat.mod_eq_of_lt h1]
    rfl
  · rw [Lib.decDigits, dif_neg h1]
    by_cases h2 : n < 100
    · rw [Lib.decDigits, dif_pos (by omega), if_neg (by omega), if_pos (by omega), show n / 10 % 10 = n / 10 by omega]
      rfl
    · rw [Lib.decDigits, dif_neg (by omega), Lib.decDigits, dif_pos (by omega), if_pos (by omega), if_pos (by omega), Nat.div_div_eq_div_mul]
      rfl
theorem itoa_small {b : Int} (h0 : 0 ≤ b) (h1 : b < 1000) : Lib.itoa b = dec3 b.toNat := by
  unfold Lib.itoa
  rw [if_neg (by omega), decDigits_small (by omega)]
theorem dec3_len (n : Nat) : 1 ≤ (dec3 n).length ∧ (dec3 n).length ≤ 3 := by
  unfold dec3
  (repeat' split) <;> simp
theorem itoa_len {b : Int} (h0 : 0 ≤ b) (h1 : b ≤ 255) : 1 ≤ (Lib.itoa b).length ∧ (Lib.itoa b).length ≤ 3 := by
  rw [itoa_small h0 (by omega)]
  exact dec3_len _
theorem join4 (a b c d : List UInt8) : Lib.join [a, b, c, d] [46] = a ++ 46 :: (b ++ 46 :: (c ++ 46 :: d)) := by
  simp [Lib.join, List.intercalate]
end Go.Proofs.YtgnahagnmodpdaaGreatDoor
/-! FourPrint -/
namespace Go.Proofs.YtgnahagnmodpdaaGreatDoor
open Go.RowKit Go.Proofs.YtgnahagnmodpdaaGreatDoorW.PrintWords
set_option linter.unusedVariables false
set_option linter.unusedSimpArgs false
theorem own_below {w W : World} {base : Nat} {e : TypeId} {size n : Nat} {v : Value} {xs : List Value} (h : w.ownsRow base e size v n xs) (hb : Below w.heap.size w W) : W.ownsRow base e size v n xs :=
  own_move h (fun k hk => hb.block k (own_lt h k hk))
/-- The four bytes of an address. -/
def oct4 (n : Int) : List Int := [n / 16777216, n / 65536 % 256, n / 256 % 256, n % 256]
/-- An address as a text. -/
def printV (n : Int) : List UInt8 := Lib.join ((oct4 n).map Lib.itoa) [46]
theorem join4_len {b0 b1 b2 b3 : Int} (a0 : 0 ≤ b0) (a1 : 0 ≤ b1) (a2 : 0 ≤ b2) (a3 : 0 ≤ b3) (c0 : b0 ≤ 255) (c1 : b1 ≤ 255) (c2 : b2 ≤ 255) (c3 : b3 ≤ 255) : (Lib.join ([b0, b1, b2, b3].map Lib.itoa) [46]).length ≤ 140737488355328 := by
  have := itoa_len a0 c0
  have := itoa_len a1 c1
  have := itoa_len a2 c2
  have := itoa_len a3 c3
  simp only [List.map_cons, List.map_nil, join4, List.length_append, List.length_cons]
  omega
set_option maxHeartbeats 1000000 in
set_option maxRecDepth 100000 in
theorem octets_walk (n : Int) (h0 : 0 ≤ n) (h1 : n ≤ 4294967295) (w : World) :
    Calls Tryz.prog 28 #[.int .u32 n] w fun e w' => e = .returned (.agg #[.int .u8 (n / 16777216), .int .u8 (n / 65536 % 256), .int .u8 (n / 256 % 256), .int .u8 (n % 256)]) ∧ Below w.heap.size w w' := by
  go_enter Tryz.func28, Tryz.ntmps28
  go_wp2
  go_returns
  exact ⟨rfl, by go_grown⟩
set_option maxHeartbeats 4000000 in
set_option maxRecDepth 100000 in
theorem print_walk (n : Int) (h0 : 0 ≤ n) (h1 : n ≤ 4294967295) (w : World) (hG : GW w) :
    Calls Tryz.prog 11 #[.int .u32 n] w fun e w' => e = .returned (.string (BA (printV n))) ∧ Below w.heap.size w w' := by
  obtain ⟨b0, hb0⟩ : ∃ b, b = n / 16777216 := ⟨_, rfl⟩
  obtain ⟨b1, hb1⟩ : ∃ b, b = n / 65536 % 256 := ⟨_, rfl⟩
  obtain ⟨b2, hb2⟩ : ∃ b, b = n / 256 % 256 := ⟨_, rfl⟩
  obtain ⟨b3, hb3⟩ : ∃ b, b = n % 256 := ⟨_, rfl⟩
  have hO := octets_walk n h0 h1
  have hP : printV n = Lib.join ([b0, b1, b2, b3].map Lib.itoa) [46] := by rw [hb0, hb1, hb2, hb3]; rfl
  rw [← hb0, ← hb1, ← hb2, ← hb3] at hO
  have a0 : 0 ≤ b0 := by omega
  have a1 : 0 ≤ b1 := by omega
  have a2 : 0 ≤ b2 := by omega
  have a3 : 0 ≤ b3 := by omega
  have c0 : b0 ≤ 255 := by omega
  have c1 : b1 ≤ 255 := by omega
  have c2 : b2 ≤ 255 := by omega
  have c3 : b3 ≤ 255 := by omega
  have HO := Aside0.mk hO
  have HP := Aside0.mk hP
  have HG := Aside0.mk hG
  clear hO hP hG hb0 hb1 hb2 hb3
  go_enter Tryz.func11, Tryz.ntmps11
  go_wp2_with fail
  refine (HO.out _).mono ?_
  rintro e w1 ⟨rfl, hb1⟩
  go_wp2_with fail
  have i0 : ∀ w, (Instr.index 60 (.agg #[.int .u8 b0, .int .u8 b1, .int .u8 b2, .int .u8 b3]) (.int .i64 0)).run Tryz.prog w = .ok (.int .u8 b0) w := fun _ => by kernel_rfl
  have i1 : ∀ w, (Instr.index 60 (.agg #[.int .u8 b0, .int .u8 b1, .int .u8 b2, .int .u8 b3]) (.int .i64 1)).run Tryz.prog w = .ok (.int .u8 b1) w := fun _ => by kernel_rfl
  have i2 : ∀ w, (Instr.index 60 (.agg #[.int .u8 b0, .int .u8 b1, .int .u8 b2, .int .u8 b3]) (.int .i64 2)).run Tryz.prog w = .ok (.int .u8 b2) w := fun _ => by kernel_rfl
  have i3 : ∀ w, (Instr.index 60 (.agg #[.int .u8 b0, .int .u8 b1, .int .u8 b2, .int .u8 b3]) (.int .i64 3)).run Tryz.prog w = .ok (.int .u8 b3) w := fun _ => by kernel_rfl
  obtain ⟨i0_, hi, hz0, hz1, hz2⟩ := info_parts (show (Tryz.prog.info? 9).map (fun i => (i.zero, i.size, i.bytes)) = some (some (.string ⟨#[]⟩), 1, 16) by kernel_rfl)
  have R0 : w1.ownsRow w.heap.size 9 1 (.slice none 0 0) 0 [] := ⟨by simp, .inl ⟨rfl, rfl⟩⟩
  have B0 : Below w.heap.size w w1 := hb1
  clear hb1 HO
  refine wp_loop_rounds 5 ?_
  rw [rounds_succ]
  go_wp2_with (simp only [i0])
  refine (strconv_Itoa.calls b0 (BA (Lib.itoa b0)) _ (HG.out.keep B0) (if_pos ⟨by omega, by omega⟩)).mono ?_
  rintro e u0 ⟨rfl, hu0⟩
  have o0 := own_below R0 hu0
  have C0 := below_step B0 hu0
  have hs0 := C0.size
  clear R0 B0 hu0
  go_wp2_with (at_builtin; refine app_one rfl _ _ 55 rfl w.heap.size 9 i0_ (.string ⟨#[]⟩) 1 16 Tryz.underlying55 hi hz0 hz1 hz2 rfl (by decide) _ _ _ rfl o0 [.string (BA (Lib.itoa b0))] rfl rfl (by simp [Value.oneCell']) (by unfold maxLen; omega) (by omega) hs0 ?_; intro g1 cap1 v1 hg1 R1 hgrow1 hbel1)
  have B1 := hbel1 _ _ (Nat.le_refl _) C0
  clear o0 C0 hs0 hg1 hgrow1 hbel1
  rw [rounds_succ]
  go_wp2_with (simp only [i1])
  refine (strconv_Itoa.calls b1 (BA (Lib.itoa b1)) _ (HG.out.keep B1) (if_pos ⟨by omega, by omega⟩)).mono ?_
  rintro e u1 ⟨rfl, hu1⟩
  have o1 := own_below R1 hu1
  have C1 := below_step B1 hu1
  have hs1 := C1.size
  clear R1 B1 hu1
  go_wp2_with (at_builtin; refine app_one rfl _ _ 55 rfl w.heap.size 9 i0_ (.string ⟨#[]⟩) 1 16 Tryz.underlying55 hi hz0 hz1 hz2 rfl (by decide) _ _ _ rfl o1 [.string (BA (Lib.itoa b1))] rfl rfl (by simp [Value.oneCell']) (by unfold maxLen; omega) (by omega) hs1 ?_; intro g2 cap2 v2 hg2 R2 hgrow2 hbel2)
  have B2 := hbel2 _ _ (Nat.le_refl _) C1
  clear o1 C1 hs1 hg2 hgrow2 hbel2
  rw [rounds_succ]
  go_wp2_with (simp only [i2])
  refine (strconv_Itoa.calls b2 (BA (Lib.itoa b2)) _ (HG.out.keep B2) (if_pos ⟨by omega, by omega⟩)).mono ?_
  rintro e u2 ⟨rfl, hu2⟩
  have o2 := own_below R2 hu2
  have C2 := below_step B2 hu2
  have hs2 := C2.size
  clear R2 B2 hu2
  go_wp2_with (at_builtin; refine app_one rfl _ _ 55 rfl w.heap.size 9 i0_ (.string ⟨#[]⟩) 1 16 Tryz.underlying55 hi hz0 hz1 hz2 rfl (by decide) _ _ _ rfl o2 [.string (BA (Lib.itoa b2))] rfl rfl (by simp [Value.oneCell']) (by unfold maxLen; omega) (by omega) hs2 ?_; intro g3 cap3 v3 hg3 R3 hgrow3 hbel3)
  have B3 := hbel3 _ _ (Nat.le_refl _) C2
  clear o2 C2 hs2 hg3 hgrow3 hbel3
  rw [rounds_succ]
  go_wp2_with (simp only [i3])
  refine (strconv_Itoa.calls b3 (BA (Lib.itoa b3)) _ (HG.out.keep B3) (if_pos ⟨by omega, by omega⟩)).mono ?_
  rintro e u3 ⟨rfl, hu3⟩
  have o3 := own_below R3 hu3
  have C3 := below_step B3 hu3
  have hs3 := C3.size
  clear R3 B3 hu3
  go_wp2_with (at_builtin; refine app_one rfl _ _ 55 rfl w.heap.size 9 i0_ (.string ⟨#[]⟩) 1 16 Tryz.underlying55 hi hz0 hz1 hz2 rfl (by decide) _ _ _ rfl o3 [.string (BA (Lib.itoa b3))] rfl rfl (by simp [Value.oneCell']) (by unfold maxLen; omega) (by omega) hs3 ?_; intro g4 cap4 v4 hg4 R4 hgrow4 hbel4)
  have B4 := hbel4 _ _ (Nat.le_refl _) C3
  clear o3 C3 hs3 hg4 hgrow4 hbel4
  rw [rounds_succ]
  go_wp2_with fail
  have KR := kd_strings (xs := [BA (Lib.itoa b0), BA (Lib.itoa b1), BA (Lib.itoa b2), BA (Lib.itoa b3)]) R4
  obtain ⟨A, c, hv, hle, hC⟩ := Kd.R_reads KR
  injection hv with e1 _ e3
  subst e1 e3
  refine (strings_Join.calls _ cap4 _ (BA [46]) (BA (printV n)) _ hC hle ?_).mono ?_
  · unfold strings_Join.f
    have hl := join4_len a0 a1 a2 a3 c0 c1 c2 c3
    rw [if_pos ⟨by simp, by simpa [ba_list] using hl⟩, HP.out]
    rfl
  rintro e w9 ⟨rfl, hb9⟩
  have B5 := below_step B4 hb9
  go_wp2_with fail
  go_ret
  exact ⟨rfl, B5⟩
def four_Print.f (a0 : Int) : Option ByteArray := if 0 ≤ a0 ∧ a0 ≤ 4294967295 then some (BA (printV a0)) else none
theorem four_Print.calls (a0 : Int) (r : ByteArray) (w : World) (hG : GW w) (h : four_Print.f a0 = some r) :
    Calls Tryz.prog 11 #[.int .u32 a0] w fun e w' => e = .returned (.string r) ∧ Below w.heap.size w w' := by
  unfold four_Print.f at h
  by_cases hs : 0 ≤ a0 ∧ a0 ≤ 4294967295
  · rw [if_pos hs] at h
    obtain rfl := Option.some.inj h
    exact print_walk a0 hs.1 hs.2 w hG
  · rw [if_neg hs] at h
    cases h
end Go.Proofs.YtgnahagnmodpdaaGreatDoor
/-! X3 -/
namespace Go.Proofs.YtgnahagnmodpdaaGreatDoor.X
open Go.RowKit Go.Proofs.YtgnahagnmodpdaaGreatDoorW.PrintWords Go.Proofs.YtgnahagnmodpdaaGreatDoorW.PrintLast Go.Proofs.YtgnahagnmodpdaaGreatDoorW.PrintMore
attribute [local go_sem] max2_int min2_int max_two min_two max_three min_three max_four min_four
set_option linter.unusedVariables false
set_option linter.unusedSimpArgs false
def posternlaw20_awake.f (k : Nat)  : Option (Bool) := (four_Parse.f (⟨#[49, 57, 50, 46, 48, 120, 48, 48, 65, 56, 48, 48, 48, 49]⟩ : ByteArray)).bind fun bt120 => (if bt120.1 = 3232235521 then (if bt120.2.1 = 0 then (if bt120.2.2 = 0 then ((four_Print.f bt120.1).bind fun t123 => (if t123.toList = ([49, 57, 50, 46, 49, 54, 56, 46, 48, 46, 49] : List UInt8) then ((four_Ends.f k (⟨#[49, 46, 50]⟩ : ByteArray)).bind fun t124 => (some t124)) else (some false))) else (some false)) else (some false)) else (some false))
set_option maxHeartbeats 8000000 in
set_option maxRecDepth 100000 in
theorem posternlaw20_awake.calls (k : Nat)  (r : Bool) (w : World) (hG : GW w) (h : posternlaw20_awake.f k  = some r) :
    Calls Tryz.prog 4 #[] w fun e w' => e = .returned (.bool r) ∧ Below w.heap.size w w' := by
  have HG := Aside0.mk hG
  clear hG
  have HB := Aside0.mk (Below.refl w.heap.size w)
  have H : ((four_Parse.f (⟨#[49, 57, 50, 46, 48, 120, 48, 48, 65, 56, 48, 48, 48, 49]⟩ : ByteArray)).bind fun bt120 => (if bt120.1 = 3232235521 then (if bt120.2.1 = 0 then (if bt120.2.2 = 0 then ((four_Print.f bt120.1).bind fun t123 => (if t123.toList = ([49, 57, 50, 46, 49, 54, 56, 46, 48, 46, 49] : List UInt8) then ((four_Ends.f k (⟨#[49, 46, 50]⟩ : ByteArray)).bind fun t124 => (some t124)) else (some false))) else (some false)) else (some false)) else (some false))) = some r := h
  clear h
  replace H := Option.bind_eq_some_iff.mp H
  obtain ⟨⟨t120, t121, t122⟩, A10, H⟩ := H
  replace H : (if t120 = 3232235521 then (if t121 = 0 then (if t122 = 0 then ((four_Print.f t120).bind fun t123 => (if t123.toList = ([49, 57, 50, 46, 49, 54, 56, 46, 48, 46, 49] : List UInt8) then ((four_Ends.f k (⟨#[49, 46, 50]⟩ : ByteArray)).bind fun t124 => (some t124)) else (some false))) else (some false)) else (some false)) else (some false)) = some r := H
  have A1 := Aside0.mk A10
  clear A10
  by_cases c2 : t120 = 3232235521
  · rw [if_pos c2] at H
    have c2b0 : (t120 == 3232235521) = true := beq_iff_eq.mpr c2
    have c2b1 : (t120 != 3232235521) = false := bne_eq_false_iff_eq.mpr c2
    clear c2
    by_cases c3 : t121 = 0
    · rw [if_pos c3] at H
      have c3b0 : (t121 == 0) = true := beq_iff_eq.mpr c3
      have c3b1 : (t121 != 0) = false := bne_eq_false_iff_eq.mpr c3
      clear c3
      by_cases c4 : t122 = 0
      · rw [if_pos c4] at H
        have c4b0 : (t122 == 0) = true := beq_iff_eq.mpr c4
        have c4b1 : (t122 != 0) = false := bne_eq_false_iff_eq.mpr c4
        clear c4
        replace H := Option.bind_eq_some_iff.mp H
        obtain ⟨t123, A50, H⟩ := H
        replace H : (if t123.toList = ([49, 57, 50, 46, 49, 54, 56, 46, 48, 46, 49] : List UInt8) then ((four_Ends.f k (⟨#[49, 46, 50]⟩ : ByteArray)).bind fun t124 => (some t124)) else (some false)) = some r := H
        have A5 := Aside0.mk A50
        clear A50
        by_cases c6 : t123.toList = ([49, 57, 50, 46, 49, 54, 56, 46, 48, 46, 49] : List UInt8)
        · rw [if_pos c6] at H
          have c6b0 : (t123.toList == ([49, 57, 50, 46, 49, 54, 56, 46, 48, 46, 49] : List UInt8)) = true := beq_iff_eq.mpr c6
          have c6b1 : (t123.toList != ([49, 57, 50, 46, 49, 54, 56, 46, 48, 46, 49] : List UInt8)) = false := bne_eq_false_iff_eq.mpr c6
          clear c6
          replace H := Option.bind_eq_some_iff.mp H
          obtain ⟨t124, A70, H⟩ := H
          replace H : (some t124) = some r := H
          have A7 := Aside0.mk A70
          clear A70
          obtain rfl := Option.some.inj H
          go_enter Tryz.func4, Tryz.ntmps4
          go_wp2_with (first | ((with_reducible refine gate_callee (f := 10) rfl ?_); refine goesL_ (some 5) rfl rfl Tryz.func10 (by kernel_rfl) rfl #[.string (⟨#[49, 57, 50, 46, 48, 120, 48, 48, 65, 56, 48, 48, 48, 49]⟩ : ByteArray)] rfl (by (try simp only [List.map_toArray, List.map_cons, List.map_nil]); first | done | rfl | (simp only [List.length_drop, List.length_take]; rfl)) ?_; (with_reducible refine (four_Parse.calls (⟨#[49, 57, 50, 46, 48, 120, 48, 48, 65, 56, 48, 48, 48, 49]⟩ : ByteArray) t120 t121 t122 _ (GW.keep HG.out (by repeat (first | (with_reducible first | exact HB.out | apply below_alloc | apply pw_below_drewN | apply below_drew1) | exact HB.out | exact Below.refl _ _))) A1.out).mono ?_); rintro e w8 ⟨rfl, hb⟩; refine ⟨_, rfl, ?_⟩; have n0_ := Aside0.mk (below_step (by repeat (first | (with_reducible first | exact HB.out | apply below_alloc | apply pw_below_drewN | apply below_drew1) | exact HB.out)) hb); clear HB; have HB := n0_; clear n0_; (try clear hb); (try clear hb2); (try clear hk); (try clear hi)) | (go_at_call 11; (with_reducible refine (four_Print.calls t120 t123 _ (GW.keep HG.out (by repeat (first | (with_reducible first | exact HB.out | apply below_alloc | apply pw_below_drewN | apply below_drew1) | exact HB.out | exact Below.refl _ _))) A5.out).mono ?_); rintro e w9 ⟨rfl, hb⟩; have n0_ := Aside0.mk (below_step (by repeat (first | (with_reducible first | exact HB.out | apply below_alloc | apply pw_below_drewN | apply below_drew1) | exact HB.out)) hb); clear HB; have HB := n0_; clear n0_; (try clear hb); (try clear hb2); (try clear hk); (try clear hi)) | (go_at_call 12; (with_reducible refine (four_Ends.calls k (⟨#[49, 46, 50]⟩ : ByteArray) t124 _ (GW.keep HG.out (by repeat (first | (with_reducible first | exact HB.out | apply below_alloc | apply pw_below_drewN | apply below_drew1) | exact HB.out | exact Below.refl _ _))) A7.out).mono ?_); rintro e w10 ⟨rfl, hb⟩; have n0_ := Aside0.mk (below_step (by repeat (first | (with_reducible first | exact HB.out | apply below_alloc | apply pw_below_drewN | apply below_drew1) | exact HB.out)) hb); clear HB; have HB := n0_; clear n0_; (try clear hb); (try clear hb2); (try clear hk); (try clear hi)))
          go_ret
          exact ⟨by first | rfl | (simp [errW_none, errW_some] <;> rfl) | (simp [*, errW_none, errW_some] <;> rfl), by repeat (first | (with_reducible first | exact HB.out | apply below_alloc | apply pw_below_drewN | apply below_drew1) | exact HB.out)⟩
        · rw [if_neg c6] at H
          have c6b0 : (t123.toList == ([49, 57, 50, 46, 49, 54, 56, 46, 48, 46, 49] : List UInt8)) = false := beq_eq_false_iff_ne.mpr c6
          have c6b1 : (t123.toList != ([49, 57, 50, 46, 49, 54, 56, 46, 48, 46, 49] : List UInt8)) = true := bne_iff_ne.mpr c6
          obtain rfl := Option.some.inj H
          go_enter Tryz.func4, Tryz.ntmps4
          go_wp2_with (first | ((with_reducible refine gate_callee (f := 10) rfl ?_); refine goesL_ (some 5) rfl rfl Tryz.func10 (by kernel_rfl) rfl #[.string (⟨#[49, 57, 50, 46, 48, 120, 48, 48, 65, 56, 48, 48, 48, 49]⟩ : ByteArray)] rfl (by (try simp only [List.map_toArray, List.map_cons, List.map_nil]); first | done | rfl | (simp only [List.length_drop, List.length_take]; rfl)) ?_; (with_reducible refine (four_Parse.calls (⟨#[49, 57, 50, 46, 48, 120, 48, 48, 65, 56, 48, 48, 48, 49]⟩ : ByteArray) t120 t121 t122 _ (GW.keep HG.out (by repeat (first | (with_reducible first | exact HB.out | apply below_alloc | apply pw_below_drewN | apply below_drew1) | exact HB.out | exact Below.refl _ _))) A1.out).mono ?_); rintro e w11 ⟨rfl, hb⟩; refine ⟨_, rfl, ?_⟩; have n0_ := Aside0.mk (below_step (by repeat (first | (with_reducible first | exact HB.out | apply below_alloc | apply pw_below_drewN | apply below_drew1) | exact HB.out)) hb); clear HB; have HB := n0_; clear n0_; (try clear hb); (try clear hb2); (try clear hk); (try clear hi)) | (go_at_call 11; (with_reducible refine (four_Print.calls t120 t123 _ (GW.keep HG.out (by repeat (first | (with_reducible first | exact HB.out | apply below_alloc | apply pw_below_drewN | apply below_drew1) | exact HB.out | exact Below.refl _ _))) A5.out).mono ?_); rintro e w12 ⟨rfl, hb⟩; have n0_ := Aside0.mk (below_step (by repeat (first | (with_reducible first | exact HB.out | apply below_alloc | apply pw_below_drewN | apply below_drew1) | exact HB.out)) hb); clear HB; have HB := n0_; clear n0_; (try clear hb); (try clear hb2); (try clear hk); (try clear hi)))
          go_ret
          exact ⟨by first | rfl | (simp [errW_none, errW_some] <;> rfl) | (simp [*, errW_none, errW_some] <;> rfl), by repeat (first | (with_reducible first | exact HB.out | apply below_alloc | apply pw_below_drewN | apply below_drew1) | exact HB.out)⟩
      · rw [if_neg c4] at H
        have c4b0 : (t122 == 0) = false := beq_eq_false_iff_ne.mpr c4
        have c4b1 : (t122 != 0) = true := bne_iff_ne.mpr c4
        obtain rfl := Option.some.inj H
        go_enter Tryz.func4, Tryz.ntmps4
        go_wp2_with (first | ((with_reducible refine gate_callee (f := 10) rfl ?_); refine goesL_ (some 5) rfl rfl Tryz.func10 (by kernel_rfl) rfl #[.string (⟨#[49, 57, 50, 46, 48, 120, 48, 48, 65, 56, 48, 48, 48, 49]⟩ : ByteArray)] rfl (by (try simp only [List.map_toArray, List.map_cons, List.map_nil]); first | done | rfl | (simp only [List.length_drop, List.length_take]; rfl)) ?_; (with_reducible refine (four_Parse.calls (⟨#[49, 57, 50, 46, 48, 120, 48, 48, 65, 56, 48, 48, 48, 49]⟩ : ByteArray) t120 t121 t122 _ (GW.keep HG.out (by repeat (first | (with_reducible first | exact HB.out | apply below_alloc | apply pw_below_drewN | apply below_drew1) | exact HB.out | exact Below.refl _ _))) A1.out).mono ?_); rintro e w13 ⟨rfl, hb⟩; refine ⟨_, rfl, ?_⟩; have n0_ := Aside0.mk (below_step (by repeat (first | (with_reducible first | exact HB.out | apply below_alloc | apply pw_below_drewN | apply below_drew1) | exact HB.out)) hb); clear HB; have HB := n0_; clear n0_; (try clear hb); (try clear hb2); (try clear hk); (try clear hi)))
        go_ret
        exact ⟨by first | rfl | (simp [errW_none, errW_some] <;> rfl) | (simp [*, errW_none, errW_some] <;> rfl), by repeat (first | (with_reducible first | exact HB.out | apply below_alloc | apply pw_below_drewN | apply below_drew1) | exact HB.out)⟩
    · rw [if_neg c3] at H
      have c3b0 : (t121 == 0) = false := beq_eq_false_iff_ne.mpr c3
      have c3b1 : (t121 != 0) = true := bne_iff_ne.mpr c3
      obtain rfl := Option.some.inj H
      go_enter Tryz.func4, Tryz.ntmps4
      go_wp2_with (first | ((with_reducible refine gate_callee (f := 10) rfl ?_); refine goesL_ (some 5) rfl rfl Tryz.func10 (by kernel_rfl) rfl #[.string (⟨#[49, 57, 50, 46, 48, 120, 48, 48, 65, 56, 48, 48, 48, 49]⟩ : ByteArray)] rfl (by (try simp only [List.map_toArray, List.map_cons, List.map_nil]); first | done | rfl | (simp only [List.length_drop, List.length_take]; rfl)) ?_; (with_reducible refine (four_Parse.calls (⟨#[49, 57, 50, 46, 48, 120, 48, 48, 65, 56, 48, 48, 48, 49]⟩ : ByteArray) t120 t121 t122 _ (GW.keep HG.out (by repeat (first | (with_reducible first | exact HB.out | apply below_alloc | apply pw_below_drewN | apply below_drew1) | exact HB.out | exact Below.refl _ _))) A1.out).mono ?_); rintro e w14 ⟨rfl, hb⟩; refine ⟨_, rfl, ?_⟩; have n0_ := Aside0.mk (below_step (by repeat (first | (with_reducible first | exact HB.out | apply below_alloc | apply pw_below_drewN | apply below_drew1) | exact HB.out)) hb); clear HB; have HB := n0_; clear n0_; (try clear hb); (try clear hb2); (try clear hk); (try clear hi)))
      go_ret
      exact ⟨by first | rfl | (simp [errW_none, errW_some] <;> rfl) | (simp [*, errW_none, errW_some] <;> rfl), by repeat (first | (with_reducible first | exact HB.out | apply below_alloc | apply pw_below_drewN | apply below_drew1) | exact HB.out)⟩
  · rw [if_neg c2] at H
    have c2b0 : (t120 == 3232235521) = false := beq_eq_false_iff_ne.mpr c2
    have c2b1 : (t120 != 3232235521) = true := bne_iff_ne.mpr c2
    obtain rfl := Option.some.inj H
    go_enter Tryz.func4, Tryz.ntmps4
    go_wp2_with (first | ((with_reducible refine gate_callee (f := 10) rfl ?_); refine goesL_ (some 5) rfl rfl Tryz.func10 (by kernel_rfl) rfl #[.string (⟨#[49, 57, 50, 46, 48, 120, 48, 48, 65, 56, 48, 48, 48, 49]⟩ : ByteArray)] rfl (by (try simp only [List.map_toArray, List.map_cons, List.map_nil]); first | done | rfl | (simp only [List.length_drop, List.length_take]; rfl)) ?_; (with_reducible refine (four_Parse.calls (⟨#[49, 57, 50, 46, 48, 120, 48, 48, 65, 56, 48, 48, 48, 49]⟩ : ByteArray) t120 t121 t122 _ (GW.keep HG.out (by repeat (first | (with_reducible first | exact HB.out | apply below_alloc | apply pw_below_drewN | apply below_drew1) | exact HB.out | exact Below.refl _ _))) A1.out).mono ?_); rintro e w15 ⟨rfl, hb⟩; refine ⟨_, rfl, ?_⟩; have n0_ := Aside0.mk (below_step (by repeat (first | (with_reducible first | exact HB.out | apply below_alloc | apply pw_below_drewN | apply below_drew1) | exact HB.out)) hb); clear HB; have HB := n0_; clear n0_; (try clear hb); (try clear hb2); (try clear hk); (try clear hi)))
    go_ret
    exact ⟨by first | rfl | (simp [errW_none, errW_some] <;> rfl) | (simp [*, errW_none, errW_some] <;> rfl), by repeat (first | (with_reducible first | exact HB.out | apply below_alloc | apply pw_below_drewN | apply below_drew1) | exact HB.out)⟩
def posternref20_Is.f (a0_0 : Int) (a0_1 : Int) : Option (Bool) := (posternref20_Mask.f a0_0 a0_1).bind fun bt139 => (if bt139.2 = 0 then (some (bt139.1 == a0_0)) else (some false))
set_option maxHeartbeats 8000000 in
set_option maxRecDepth 100000 in
theorem posternref20_Is.calls (a0_0 : Int) (a0_1 : Int) (r : Bool) (w : World) (h : posternref20_Is.f a0_0 a0_1 = some r) :
    Calls Tryz.prog 25 #[.agg #[.int .u32 a0_0, .int .i64 a0_1]] w fun e w' => e = .returned (.bool r) ∧ Below w.heap.size w w' := by
  have hu31 := Tryz.underlying31
  have HB := Aside0.mk (Below.refl w.heap.size w)
  have H : ((posternref20_Mask.f a0_0 a0_1).bind fun bt139 => (if bt139.2 = 0 then (some (bt139.1 == a0_0)) else (some false))) = some r := h
  clear h
  replace H := Option.bind_eq_some_iff.mp H
  obtain ⟨⟨t139, t140⟩, A20, H⟩ := H
  replace H : (if t140 = 0 then (some (t139 == a0_0)) else (some false)) = some r := H
  have A2 := Aside0.mk A20
  clear A20
  by_cases c3 : t140 = 0
  · rw [if_pos c3] at H
    have c3b0 : (t140 == 0) = true := beq_iff_eq.mpr c3
    have c3b1 : (t140 != 0) = false := bne_eq_false_iff_eq.mpr c3
    clear c3
    obtain rfl := Option.some.inj H
    go_enter Tryz.func25, Tryz.ntmps25
    go_wp2_with (first | ((with_reducible refine gate_dst (N := 1) rfl ?_); refine box_event ?hg (N := 1) ?hd (cs := #[.int .u32 a0_0, .int .i64 a0_1]) (t := 31) ?hr ?_; (case hd => rfl); (case hg => rfl); (case hr => first | (go_simp; done) | (go_simp; rfl)); intro gb138 hg w4 hbox hb; have n0_ := Aside0.mk (below_step (by repeat (first | (with_reducible first | exact HB.out | apply below_alloc | apply pw_below_drewN | apply below_drew1) | exact HB.out)) hb); have n1_ := Aside0.mk (hbox); have n2_ := Aside0.mk ((by rw [hg]; exact (below_size (by repeat (first | (with_reducible first | exact HB.out | apply below_alloc | apply pw_below_drewN | apply below_drew1) | exact HB.out))) : w.heap.size ≤ gb138)); have n3_ := Aside0.mk ((by rw [hg]; exact (below_size (by repeat (first | (with_reducible first | exact HB.out | apply below_alloc | apply pw_below_drewN | apply below_drew1) | exact HB.out))) : w.heap.size ≤ gb138)); clear HB; have HB := n0_; have BK138 := n1_; have GW138 := n2_; have GE138 := n3_; clear n0_ n1_ n2_ n3_; clear hb hbox hg; have hcz5_0 : w4.cell? ⟨gb138, 0, none⟩ = some (.int .u32 a0_0) := (blk_cell BK138.out 0).trans rfl; have hcz5_1 : w4.cell? ⟨gb138, 1, none⟩ = some (.int .i64 a0_1) := (blk_cell BK138.out 1).trans rfl; have hfz5_0 := blk_frozen BK138.out 0; have hfz5_1 := blk_frozen BK138.out 1) | ((with_reducible refine gate_callee (f := 36) rfl ?_); refine goesL_ (some 10) rfl rfl Tryz.func36 (by kernel_rfl) rfl #[.int .u32 a0_0, .int .i64 a0_1] rfl (by (try simp only [List.map_toArray, List.map_cons, List.map_nil]); first | done | rfl | (simp only [List.length_drop, List.length_take]; rfl)) ?_; (with_reducible refine (posternref20_Mask.calls a0_0 a0_1 t139 t140 _ A2.out).mono ?_); rintro e w' ⟨rfl, ⟨nd, rfl⟩⟩; refine ⟨_, rfl, ?_⟩))
    go_ret
    exact ⟨by first | rfl | (simp [errW_none, errW_some] <;> rfl) | (simp [*, errW_none, errW_some] <;> rfl), by repeat (first | (with_reducible first | exact HB.out | apply below_alloc | apply pw_below_drewN | apply below_drew1 | refine below_set ?_ GE138.out) | exact HB.out)⟩
  · rw [if_neg c3] at H
    have c3b0 : (t140 == 0) = false := beq_eq_false_iff_ne.mpr c3
    have c3b1 : (t140 != 0) = true := bne_iff_ne.mpr c3
    obtain rfl := Option.some.inj H
    go_enter Tryz.func25, Tryz.ntmps25
    go_wp2_with (first | ((with_reducible refine gate_dst (N := 1) rfl ?_); refine box_event ?hg (N := 1) ?hd (cs := #[.int .u32 a0_0, .int .i64 a0_1]) (t := 31) ?hr ?_; (case hd => rfl); (case hg => rfl); (case hr => first | (go_simp; done) | (go_simp; rfl)); intro gb138 hg w6 hbox hb; have n0_ := Aside0.mk (below_step (by repeat (first | (with_reducible first | exact HB.out | apply below_alloc | apply pw_below_drewN | apply below_drew1) | exact HB.out)) hb); have n1_ := Aside0.mk (hbox); have n2_ := Aside0.mk ((by rw [hg]; exact (below_size (by repeat (first | (with_reducible first | exact HB.out | apply below_alloc | apply pw_below_drewN | apply below_drew1) | exact HB.out))) : w.heap.size ≤ gb138)); have n3_ := Aside0.mk ((by rw [hg]; exact (below_size (by repeat (first | (with_reducible first | exact HB.out | apply below_alloc | apply pw_below_drewN | apply below_drew1) | exact HB.out))) : w.heap.size ≤ gb138)); clear HB; have HB := n0_; have BK138 := n1_; have GW138 := n2_; have GE138 := n3_; clear n0_ n1_ n2_ n3_; clear hb hbox hg; have hcz7_0 : w6.cell? ⟨gb138, 0, none⟩ = some (.int .u32 a0_0) := (blk_cell BK138.out 0).trans rfl; have hcz7_1 : w6.cell? ⟨gb138, 1, none⟩ = some (.int .i64 a0_1) := (blk_cell BK138.out 1).trans rfl; have hfz7_0 := blk_frozen BK138.out 0; have hfz7_1 := blk_frozen BK138.out 1) | ((with_reducible refine gate_callee (f := 36) rfl ?_); refine goesL_ (some 10) rfl rfl Tryz.func36 (by kernel_rfl) rfl #[.int .u32 a0_0, .int .i64 a0_1] rfl (by (try simp only [List.map_toArray, List.map_cons, List.map_nil]); first | done | rfl | (simp only [List.length_drop, List.length_take]; rfl)) ?_; (with_reducible refine (posternref20_Mask.calls a0_0 a0_1 t139 t140 _ A2.out).mono ?_); rintro e w' ⟨rfl, ⟨nd, rfl⟩⟩; refine ⟨_, rfl, ?_⟩))
    go_ret
    exact ⟨by first | rfl | (simp [errW_none, errW_some] <;> rfl) | (simp [*, errW_none, errW_some] <;> rfl), by repeat (first | (with_reducible first | exact HB.out | apply below_alloc | apply pw_below_drewN | apply below_drew1 | refine below_set ?_ GE138.out) | exact HB.out)⟩
end Go.Proofs.YtgnahagnmodpdaaGreatDoor.X
/-! RefIs -/
namespace Go.Proofs.YtgnahagnmodpdaaGreatDoor
open Go.RowKit Go.Proofs.YtgnahagnmodpdaaGreatDoorW.PrintWords Go.Proofs.YtgnahagnmodpdaaGreatDoor.X Go.IntWalk
set_option linter.unusedVariables false
set_option linter.unusedSimpArgs false
theorem ref_is_f (n b : Int) (h0 : 0 ≤ n) (h1 : n ≤ 4294967295) : posternref20_Is.f n b = some (isV n b) := by
  unfold posternref20_Is.f posternref20_Mask.f
  rw [if_pos ⟨h0, h1⟩, Option.bind_some]
  unfold maskV isV
  by_cases hb : 0 ≤ b ∧ b ≤ 32
  · rw [if_pos hb, decide_eq_true hb.1, decide_eq_true hb.2, if_pos rfl, Bool.true_and, Bool.true_and]
  · rw [if_neg hb, if_neg (by decide)]
    have : (decide (0 ≤ b) && (decide (b ≤ 32) && (n / sizeV b * sizeV b == n))) = false := by
      by_cases h : 0 ≤ b
      · rw [decide_eq_false (show ¬ b ≤ 32 by omega), Bool.false_and, Bool.and_false]
      · rw [decide_eq_false h, Bool.false_and]
    rw [this]
end Go.Proofs.YtgnahagnmodpdaaGreatDoor
/-! RefCover -/
namespace Go.Proofs.YtgnahagnmodpdaaGreatDoor
open Go.RowKit Go.Proofs.YtgnahagnmodpdaaGreatDoorW.PrintWords Go.Proofs.YtgnahagnmodpdaaGreatDoor.X Go.IntWalk Go.Lib Go.Sort
set_option linter.unusedVariables false
set_option linter.unusedSimpArgs false
def toR (x : Nat × Nat) : S31 := ⟨(x.1 : Int), (x.2 : Int)⟩
theorem sizeW {b : Nat} (h : b ≤ 32) : sizeV (b : Int) = ((wid b : Nat) : Int) := by
  unfold sizeV wid
  rw [show (32 - (b : Int)).toNat = 32 - b by omega]
  simp
theorem c_size (b : Nat) (h : b ≤ 32) (w : World) : Calls Tryz.prog 16 #[.int .i64 (b : Int)] w fun e w' => e = .returned (.int .u64 ((wid b : Nat) : Int)) ∧ Below w.heap.size w w' := by
  have := size_calls (b : Int) (by omega) (by omega) w
  rw [sizeW h] at this
  refine this.mono ?_
  rintro e w' ⟨rfl, n, rfl⟩
  exact ⟨rfl, bdn (Below.refl _ _) n⟩
/-- The width that was found is the widest. -/
theorem step_unique {a e t : Nat} (h : a ≤ e) (he : e < 4294967296) (ht : t ≤ 32) (hd : 2 ^ t ∣ a) (hle : a + 2 ^ t ≤ e + 1) (hmax : t < 32 → 2 ^ (t + 1) ∣ a → e + 1 < a + 2 ^ (t + 1)) : stepS a e = t := by
  obtain ⟨s1, s2, s3, s4⟩ := stepS_ok a e h he
  rcases Nat.lt_trichotomy t (stepS a e) with hlt | heq | hgt
  · have h1 := hmax (by omega) (Nat.dvd_trans (Nat.pow_dvd_pow 2 hlt) s2)
    have h2 := Nat.pow_le_pow_right (n := 2) (by decide) (show t + 1 ≤ stepS a e from hlt)
    omega
  · exact heq.symm
  · have h1 := s4 (by omega) (Nat.dvd_trans (Nat.pow_dvd_pow 2 (show stepS a e + 1 ≤ t from hgt)) hd)
    have h2 := Nat.pow_le_pow_right (n := 2) (by decide) (show stepS a e + 1 ≤ t from hgt)
    omega
theorem wid_le' (b : Nat) : wid b ≤ 4294967296 := by
  unfold wid
  exact Nat.pow_le_pow_right (n := 2) (by decide) (Nat.sub_le 32 b)
theorem wid_next {b : Nat} (h : b < 32) : 2 ^ (32 - (b + 1) + 1) = wid b := by
  unfold wid
  rw [show 32 - (b + 1) + 1 = 32 - b by omega]
def CRel (w : World) (f e : Nat) (v s6 : Value) (W : World) : Prop := ∃ (a : Nat) (acc : List (Nat × Nat)), s6 = .int .u64 (a : Int) ∧ a ≤ 4294967296 ∧ acc.length ≤ a ∧ Kd.R k31 31 W w.heap.size (fun _ => True) v (acc.map toR) ∧ Below w.heap.size w W ∧ covL f e = acc ++ covL a e
def BRel (W1 : World) (a e : Nat) (s7 : Value) (W : World) : Prop := ∃ b : Nat, s7 = .int .i64 (b : Int) ∧ b ≤ 32 ∧ wid b ∣ a ∧ a + wid b ≤ e + 1 ∧ Below W1.heap.size W1 W
set_option maxHeartbeats 4000000 in
set_option maxRecDepth 100000 in
theorem refCover_walk (f e : Nat) (hf : f < 4294967296) (he : e < 4294967296) (w : World) :
    Calls Tryz.prog 7 #[.int .u32 (f : Int), .int .u32 (e : Int)] w fun ex w' => ∃ v, ex = .returned v ∧ Kd.R k31 31 w' w.heap.size (fun _ => True) v ((covL f e).map toR) ∧ Below w.heap.size w w' := by
  have hf0 : (0 : Int) ≤ (f : Int) ∧ (f : Int) ≤ 4294967295 := by omega
  have he0 : (0 : Int) ≤ (e : Int) ∧ (e : Int) ≤ 4294967295 := by omega
  have HS := Aside0.mk c_size
  go_enter Tryz.func7, Tryz.ntmps7
  go_wp2_with fail
  have B0 := Below.alloc (Below.refl w.heap.size w) (Nat.le_refl _) (.cells #[] 31)
  have R0 : Kd.R k31 31 (w.alloc (.cells #[] 31)) w.heap.size (fun _ => True) (.slice (some ⟨w.heap.size, 0, none⟩) 0 0) [] := ⟨fun _ _ => trivial, [], World.ownsRow_made w #[] 0 (Nat.le_refl _) (Nat.zero_le _) (by simp), Reps.none _ _⟩
  have B0 := Aside0.mk B0
  have R0 := Aside0.mk R0
  go_loopw [5, 6] (fun v s6 W => CRel w f e v s6 W) (fun v s6 _ => e + 1 - (intOf s6).toNat)
  case atStart => exact ⟨f, [], rfl, by omega, Nat.zero_le _, R0.out, B0.out, rfl⟩
  case round =>
    obtain ⟨a, acc, rfl, ha, hl, hR, hB, hcv⟩ := hrel
    have HR := Aside0.mk hR
    have HB := Aside0.mk hB
    have HCV := Aside0.mk hcv
    have HL := Aside0.mk hl
    clear hR hB hcv hl R0 B0
    by_cases hle : a ≤ e
    · have hlez : (a : Int) ≤ (e : Int) := by omega
      have ha1 : (a : Int) ≤ 4294967295 := by omega
      go_wp2_with fail
      obtain ⟨W1, hW1⟩ : ∃ W1 : World, W1 = wr := ⟨_, rfl⟩
      have HW1 := Aside0.mk hW1
      clear hW1
      go_loopw [7] (fun s7 W => BRel W1 a e s7 W) (fun s7 _ => (intOf s7).toNat)
      case atStart => exact ⟨32, rfl, by omega, ⟨a, (Nat.one_mul a).symm⟩, by show a + 1 ≤ e + 1; omega, by rw [HW1.out]; exact Below.refl _ _⟩
      case round =>
        obtain ⟨b, rfl, hb, hd, hae, hBb⟩ := hrel
        have HBb := Aside0.mk hBb
        have HD := Aside0.mk (And.intro hd hae)
        clear hBb hd hae
        by_cases hb0 : b = 0
        · subst hb0
          have HR2 := Aside0.mk (Kd.R_below (by rw [HW1.out]; exact HR.out) HBb.out)
          have HB2 := Aside0.mk (below_step (by rw [HW1.out]; exact HB.out) HBb.out)
          obtain ⟨p, hp⟩ : ∃ p, p = wid (0) := ⟨_, rfl⟩
          have HSp := c_size (0) (by omega)
          have hdp := HD.out
          have hpw : wid (0) ≤ 4294967296 := wid_le' _
          rw [← hp] at HSp hdp hpw
          have HSp := Aside0.mk HSp
          have HP := Aside0.mk hp
          have HDP := Aside0.mk hdp
          have hap : (a : Int) + (p : Int) ≤ 4294967296 := by omega
          have hp1 : (p : Int) ≤ 4294967296 := by omega
          clear hp hdp hpw
          go_wp2_with ((with_reducible refine gate_builtin (b := .append) (xs := #[.tmp 38, .tmp 43]) rfl ?_); at_builtin; refine Kd.R_append k31 (w0 := w) w.heap.size rfl (.tmp 38) (.tmp 43) 27 31 (.agg #[(.int .u32 0), (.int .i64 0)]) 16 rfl Tryz.underlying27 info31 rfl (by decide) (by omega) _ (acc.map toR) (toR (a, 0)) _ (fun _ => True) (fun _ => False) rfl rfl ?aP (fun _ hk => hk.elim) ?aF ?aO ?aB ?aS ?aL ?_; (case aP => exact k31_mkM _ _ _ (toR (a, 0))); (case aF => exact fun _ _ => trivial); (case aO => exact HR2.out); (case aB => exact HB2.out); (case aS => exact HB2.out.size); (case aL => rw [List.length_map]; have := HL.out; omega); intro v1 w4 hR4 hB4 hg4 hat4)
          go_wp2_with fail
          refine (HSp.out _).mono ?_
          rintro e' w5 ⟨rfl, hb5⟩
          have HR5 := Aside0.mk (Kd.R_below hR4 hb5)
          have HB5 := Aside0.mk (below_step hB4 hb5)
          clear hR4 hB4 hg4 hat4 hb5
          go_wp2_with fail
          have hst : stepS a e = 32 - (0) := step_unique hle he (by omega) HD.out.1 HD.out.2 (fun h => by omega)
          refine ⟨⟨a + p, acc ++ [(a, 0)], by simp, by omega, by rw [List.length_append]; have := HL.out; have : 0 < wid (0) := Nat.two_pow_pos _; rw [← HP.out] at this; simp; omega, by rw [List.map_append]; exact HR5.out, HB5.out, ?_⟩, ?_⟩
          · rw [HCV.out, covL_le hle, hst, show 32 - (32 - (0)) = 0 by omega, List.append_assoc, HP.out, List.singleton_append]
            unfold wid
            with_reducible rfl
          · have : 0 < wid (0) := Nat.two_pow_pos _
            rw [← HP.out] at this
            show e + 1 - ((a : Int) + (p : Int)).toNat < e + 1 - (a : Int).toNat
            omega
        · obtain ⟨b', rfl⟩ : ∃ b', b = b' + 1 := ⟨b - 1, by omega⟩
          have HS1 := c_size b' (by omega)
          have hwp : 0 < wid b' := Nat.two_pow_pos _
          have hwl := wid_le' b'
          obtain ⟨q, hq⟩ : ∃ q, q = wid b' := ⟨_, rfl⟩
          rw [← hq] at HS1 hwp hwl
          have HS1 := Aside0.mk HS1
          have HQ := Aside0.mk hq
          clear hq
          have hq0 : (1 : Int) ≤ (q : Int) := by omega
          have hq1 : (q : Int) ≤ 4294967296 := by omega
          have hbz : (0 : Int) < ((b' + 1 : Nat) : Int) := by omega
          by_cases hdv : q ∣ a
          · obtain ⟨u, hu⟩ := hdv
            have hmod : (a : Int) % (q : Int) = 0 := by
              rw [hu, Int.natCast_mul]
              exact Int.mul_emod_right _ _
            have HU := Aside0.mk hu
            clear hu
            by_cases hwide : a + q ≤ e + 1
            · have hwz : (a : Int) + (q : Int) - 1 ≤ (e : Int) := by omega
              go_wp2_with fail
              refine (HS1.out _).mono ?_
              rintro e' w2 ⟨rfl, hb1⟩
              go_wp2_with fail
              refine (HS1.out _).mono ?_
              rintro e' w3 ⟨rfl, hb2⟩
              have HBb := Aside0.mk (below_step (below_step HBb.out hb1) hb2)
              clear hb1 hb2
              go_wp2_with fail
              refine ⟨⟨b', by simp, by omega, by rw [← HQ.out]; exact ⟨u, HU.out⟩, by rw [← HQ.out]; exact hwide, HBb.out⟩, by simp [intOf]⟩
            · have hwz : ¬ (a : Int) + (q : Int) - 1 ≤ (e : Int) := by omega
              go_wp2_with fail
              refine (HS1.out _).mono ?_
              rintro e' w2 ⟨rfl, hb1⟩
              go_wp2_with fail
              refine (HS1.out _).mono ?_
              rintro e' w3 ⟨rfl, hb2⟩
              have HBb := Aside0.mk (below_step (below_step HBb.out hb1) hb2)
              clear hb1 hb2
              have HR2 := Aside0.mk (Kd.R_below (by rw [HW1.out]; exact HR.out) HBb.out)
              have HB2 := Aside0.mk (below_step (by rw [HW1.out]; exact HB.out) HBb.out)
              obtain ⟨p, hp⟩ : ∃ p, p = wid (b' + 1) := ⟨_, rfl⟩
              have HSp := c_size (b' + 1) (by omega)
              have hdp := HD.out
              have hpw : wid (b' + 1) ≤ 4294967296 := wid_le' _
              rw [← hp] at HSp hdp hpw
              have HSp := Aside0.mk HSp
              have HP := Aside0.mk hp
              have HDP := Aside0.mk hdp
              have hap : (a : Int) + (p : Int) ≤ 4294967296 := by omega
              have hp1 : (p : Int) ≤ 4294967296 := by omega
              clear hp hdp hpw
              go_wp2_with ((with_reducible refine gate_builtin (b := .append) (xs := #[.tmp 38, .tmp 43]) rfl ?_); at_builtin; refine Kd.R_append k31 (w0 := w) w.heap.size rfl (.tmp 38) (.tmp 43) 27 31 (.agg #[(.int .u32 0), (.int .i64 0)]) 16 rfl Tryz.underlying27 info31 rfl (by decide) (by omega) _ (acc.map toR) (toR (a, b' + 1)) _ (fun _ => True) (fun _ => False) rfl rfl ?aP (fun _ hk => hk.elim) ?aF ?aO ?aB ?aS ?aL ?_; (case aP => exact k31_mkM _ _ _ (toR (a, b' + 1))); (case aF => exact fun _ _ => trivial); (case aO => exact HR2.out); (case aB => exact HB2.out); (case aS => exact HB2.out.size); (case aL => rw [List.length_map]; have := HL.out; omega); intro v1 w4 hR4 hB4 hg4 hat4)
              go_wp2_with fail
              refine (HSp.out _).mono ?_
              rintro e' w5 ⟨rfl, hb5⟩
              have HR5 := Aside0.mk (Kd.R_below hR4 hb5)
              have HB5 := Aside0.mk (below_step hB4 hb5)
              clear hR4 hB4 hg4 hat4 hb5
              go_wp2_with fail
              have hst : stepS a e = 32 - (b' + 1) := step_unique hle he (by omega) HD.out.1 HD.out.2 (fun h1 h2 => by rw [wid_next (by omega), ← HQ.out]; omega)
              refine ⟨⟨a + p, acc ++ [(a, b' + 1)], by simp, by omega, by rw [List.length_append]; have := HL.out; have : 0 < wid (b' + 1) := Nat.two_pow_pos _; rw [← HP.out] at this; simp; omega, by rw [List.map_append]; exact HR5.out, HB5.out, ?_⟩, ?_⟩
              · rw [HCV.out, covL_le hle, hst, show 32 - (32 - (b' + 1)) = b' + 1 by omega, List.append_assoc, HP.out, List.singleton_append]
                unfold wid
                with_reducible rfl
              · have : 0 < wid (b' + 1) := Nat.two_pow_pos _
                rw [← HP.out] at this
                show e + 1 - ((a : Int) + (p : Int)).toNat < e + 1 - (a : Int).toNat
                omega
          · have HNV := Aside0.mk hdv
            have hmod : ((a : Int) % (q : Int) == 0) = false := by
              rw [beq_eq_false_iff_ne]
              intro h
              exact hdv (by have := Int.dvd_of_emod_eq_zero h; exact Int.natCast_dvd_natCast.1 this)
            have hmod2 : ¬ (a : Int) % (q : Int) = 0 := by simpa using hmod
            clear hdv
            go_wp2_with fail
            refine (HS1.out _).mono ?_
            rintro e' w2 ⟨rfl, hb1⟩
            have HBb := Aside0.mk (below_step HBb.out hb1)
            clear hb1
            have HR2 := Aside0.mk (Kd.R_below (by rw [HW1.out]; exact HR.out) HBb.out)
            have HB2 := Aside0.mk (below_step (by rw [HW1.out]; exact HB.out) HBb.out)
            obtain ⟨p, hp⟩ : ∃ p, p = wid (b' + 1) := ⟨_, rfl⟩
            have HSp := c_size (b' + 1) (by omega)
            have hdp := HD.out
            have hpw : wid (b' + 1) ≤ 4294967296 := wid_le' _
            rw [← hp] at HSp hdp hpw
            have HSp := Aside0.mk HSp
            have HP := Aside0.mk hp
            have HDP := Aside0.mk hdp
            have hap : (a : Int) + (p : Int) ≤ 4294967296 := by omega
            have hp1 : (p : Int) ≤ 4294967296 := by omega
            clear hp hdp hpw
            go_wp2_with ((with_reducible refine gate_builtin (b := .append) (xs := #[.tmp 38, .tmp 43]) rfl ?_); at_builtin; refine Kd.R_append k31 (w0 := w) w.heap.size rfl (.tmp 38) (.tmp 43) 27 31 (.agg #[(.int .u32 0), (.int .i64 0)]) 16 rfl Tryz.underlying27 info31 rfl (by decide) (by omega) _ (acc.map toR) (toR (a, b' + 1)) _ (fun _ => True) (fun _ => False) rfl rfl ?aP (fun _ hk => hk.elim) ?aF ?aO ?aB ?aS ?aL ?_; (case aP => exact k31_mkM _ _ _ (toR (a, b' + 1))); (case aF => exact fun _ _ => trivial); (case aO => exact HR2.out); (case aB => exact HB2.out); (case aS => exact HB2.out.size); (case aL => rw [List.length_map]; have := HL.out; omega); intro v1 w4 hR4 hB4 hg4 hat4)
            go_wp2_with fail
            refine (HSp.out _).mono ?_
            rintro e' w5 ⟨rfl, hb5⟩
            have HR5 := Aside0.mk (Kd.R_below hR4 hb5)
            have HB5 := Aside0.mk (below_step hB4 hb5)
            clear hR4 hB4 hg4 hat4 hb5
            go_wp2_with fail
            have hst : stepS a e = 32 - (b' + 1) := step_unique hle he (by omega) HD.out.1 HD.out.2 (fun h1 h2 => absurd (by rw [wid_next (by omega), ← HQ.out] at h2; exact h2) HNV.out)
            refine ⟨⟨a + p, acc ++ [(a, b' + 1)], by simp, by omega, by rw [List.length_append]; have := HL.out; have : 0 < wid (b' + 1) := Nat.two_pow_pos _; rw [← HP.out] at this; simp; omega, by rw [List.map_append]; exact HR5.out, HB5.out, ?_⟩, ?_⟩
            · rw [HCV.out, covL_le hle, hst, show 32 - (32 - (b' + 1)) = b' + 1 by omega, List.append_assoc, HP.out, List.singleton_append]
              unfold wid
              with_reducible rfl
            · have : 0 < wid (b' + 1) := Nat.two_pow_pos _
              rw [← HP.out] at this
              show e + 1 - ((a : Int) + (p : Int)).toNat < e + 1 - (a : Int).toNat
              omega
    · have hlez : ¬ (a : Int) ≤ (e : Int) := by omega
      go_wp2_with fail
      go_ret
      have h := HCV.out
      rw [covL_lt hle, List.append_nil] at h
      rw [h]
      exact ⟨_, rfl, HR.out, HB.out⟩
def posternref20_Cover.f (a b : Int) : Option (List S31) := if 0 ≤ a ∧ a ≤ 4294967295 ∧ 0 ≤ b ∧ b ≤ 4294967295 then some ((covL a.toNat b.toNat).map toR) else none
theorem posternref20_Cover.calls (a0 a1 : Int) (r : List S31) (w : World) (h : posternref20_Cover.f a0 a1 = some r) :
    Calls Tryz.prog 7 #[.int .u32 a0, .int .u32 a1] w fun e w' => ∃ v0_ : Value, e = .returned v0_ ∧ Kd.R k31 31 w' w.heap.size (fun _ => True) v0_ r ∧ Below w.heap.size w w' := by
  unfold posternref20_Cover.f at h
  by_cases hs : 0 ≤ a0 ∧ a0 ≤ 4294967295 ∧ 0 ≤ a1 ∧ a1 ≤ 4294967295
  · rw [if_pos hs] at h
    have h := Option.some.inj h
    subst h
    have := refCover_walk a0.toNat a1.toNat (by omega) (by omega) w
    rw [Int.toNat_of_nonneg hs.1, Int.toNat_of_nonneg hs.2.2.1] at this
    exact this
  · rw [if_neg hs] at h
    cases h
end Go.Proofs.YtgnahagnmodpdaaGreatDoor
/-! RefJoin -/
namespace Go.Proofs.YtgnahagnmodpdaaGreatDoor
open Go.RowKit Go.Proofs.YtgnahagnmodpdaaGreatDoorW.PrintWords Go.Proofs.YtgnahagnmodpdaaGreatDoorW.PrintLast Go.Proofs.YtgnahagnmodpdaaGreatDoor.X Go.IntWalk Go.Lib Go.Sort
set_option linter.unusedVariables false
set_option linter.unusedSimpArgs false
theorem c_refIs (x : S31) (h0 : 0 ≤ x.f0) (h1 : x.f0 ≤ 4294967295) (w : World) : Calls Tryz.prog 25 #[.agg #[.int .u32 x.f0, .int .i64 x.f1]] w fun e w' => e = .returned (.bool (isV x.f0 x.f1)) ∧ Below w.heap.size w w' :=
  posternref20_Is.calls x.f0 x.f1 _ w (ref_is_f x.f0 x.f1 h0 h1)
def rgR (l : List S31) : Prop := ∀ x ∈ l, 0 ≤ x.f0 ∧ x.f0 ≤ 4294967295
theorem rdR_mem {D : List S31} {i : Nat} (hi : i < D.length) : rd_T31 D (i : Int) = D[i] := by
  unfold rd_T31
  rw [Int.toNat_natCast, List.getD_eq_getElem?_getD, List.getElem?_eq_getElem hi]
  rfl
theorem valid_fb {f b : Int} (h0 : 0 ≤ f) (h1 : f ≤ 4294967295) (h : isV f b = true) : ∃ f' b' : Nat, f = (f' : Int) ∧ b = (b' : Int) ∧ b' ≤ 32 ∧ f' + wid b' ≤ 4294967296 := by
  obtain ⟨_, a1, a2⟩ := last_f ⟨f, b⟩ h0 h1 h
  have hb : 0 ≤ b ∧ b ≤ 32 := by
    unfold isV at h
    simp only [Bool.and_eq_true, decide_eq_true_eq] at h
    exact ⟨h.1, h.2.1⟩
  refine ⟨f.toNat, b.toNat, by omega, by omega, by omega, ?_⟩
  have e : rngS ⟨f, b⟩ = (f, f + sizeV b - 1) := rfl
  have es := sizeW (b := b.toNat) (by omega)
  rw [Int.toNat_of_nonneg hb.1] at es
  rw [e, es] at a2
  simp only at a2
  omega
/-- A row of numbers that is only read. -/
def RowU (W : World) (v : Value) (xs : List Int) : Prop := ∃ (g : Option Nat) (c : Nat), v = .slice (g.map fun g => ⟨g, 0, none⟩) xs.length c ∧ xs.length ≤ c ∧ Kd.C (Kd.int .u64) W (g.map fun g => ⟨g, 0, none⟩) xs.length xs
theorem RowU.below {W W' : World} {v : Value} {xs : List Int} (h : RowU W v xs) (hb : Below W.heap.size W W') : RowU W' v xs := by
  obtain ⟨g, c, e, hc, hC⟩ := h
  exact ⟨g, c, e, hc, Kd.C_below hC hb⟩
theorem RowU.cell {W : World} {v : Value} {xs : List Int} (h : RowU W v xs) {i : Nat} (hi : i < xs.length) : ∃ g c, v = .slice (some ⟨g, 0, none⟩) xs.length c ∧ g < W.heap.size ∧ W.cell? ⟨g, i, none⟩ = some (.int .u64 xs[i]) ∧ xs.length ≤ c ∧ Kd.C (Kd.int .u64) W (some ⟨g, 0, none⟩) xs.length xs := by
  obtain ⟨g, c, rfl, hc, hC⟩ := h
  obtain ⟨ad, cs, e, _, hK, hcell⟩ := Kd.C_get hC (0 : Int) (i : Int) (by omega) (by omega)
  cases g with
  | none => cases e
  | some g =>
    obtain rfl := (Option.some.inj e).symm
    have hk : cs = [.int .u64 (xs.getD (i : Int).toNat 0)] := hK
    have h0 := hcell 0 _ (by rw [hk]; rfl)
    rw [Addr.add_lit, Int.toNat_natCast, List.getD_eq_getElem?_getD, List.getElem?_eq_getElem hi] at h0
    have h0 : W.cell? ⟨g, i, none⟩ = some (.int .u64 xs[i]) := by simpa [Kd.int, Kd.scalar] using h0
    exact ⟨g, c, rfl, World.block_lt_of_cell? W _ h0, h0, hc, hC⟩
theorem RowU.of_own {W : World} {base : Nat} {v : Value} {xs : List Int} (h : Kd.R (Kd.int .u64) 43 W base (fun _ => True) v xs) : RowU W v xs := by
  obtain ⟨A, c, rfl, hc, hC⟩ := Kd.R_reads h
  obtain ⟨_, inner, ho, _⟩ := h
  rcases ho.2 with ⟨e0, _⟩ | ⟨g, cap, cur, e0, _⟩
  · injection e0 with e1 e2 e3
    subst e1
    exact ⟨none, c, rfl, hc, hC⟩
  · injection e0 with e1 e2 e3
    subst e1
    exact ⟨some g, c, rfl, hc, hC⟩
theorem infoU : (Tryz.prog.info? 43).map (fun i => (i.zero, i.size, i.bytes)) = some (some (.int .u64 0), 1, 8) := by kernel_rfl
theorem AccOk_erase {acc : List (Int × Int)} (h : Sep acc ∧ ∀ r ∈ acc, 0 ≤ r.1 ∧ r.1 ≤ r.2 ∧ r.2 ≤ 4294967295) (i : Nat) : Sep (acc.eraseIdx i) ∧ ∀ r ∈ acc.eraseIdx i, 0 ≤ r.1 ∧ r.1 ≤ r.2 ∧ r.2 ≤ 4294967295 :=
  ⟨h.1.sub (List.eraseIdx_sublist _ _), fun r hr => h.2 r ((List.eraseIdx_sublist _ _).mem hr)⟩
def rngR (x : S31) : Int × Int := (x.f0, x.f0 + sizeV x.f1 - 1)
/-- Where the loop over the prefixes stands. -/
def AccOk (acc : List (Int × Int)) : Prop := Sep acc ∧ ∀ r ∈ acc, 0 ≤ r.1 ∧ r.1 ≤ r.2 ∧ r.2 ≤ 4294967295
def KR (w : World) (l : List S31) (s34 s7 s8 : Value) (W : World) : Prop := ∃ (i : Nat) (acc : List (Int × Int)), s34 = .int .i64 i ∧ i ≤ l.length ∧ RowU W s7 (acc.map (·.1)) ∧ RowU W s8 (acc.map (·.2)) ∧ Below w.heap.size w W ∧ joinR [] (l.map rngR) = joinR acc ((l.drop i).map rngR) ∧ AccOk acc ∧ acc.length ≤ i
/-- Where the absorbing loop stands. -/
def LR (W1 : World) (a0 b0 : Int) (acc0 : List (Int × Int)) (s7 s8 s11 s12 s13 : Value) (W : World) : Prop := ∃ (a b : Int) (acc : List (Int × Int)) (ag : Bool), s11 = .int .u64 a ∧ s12 = .int .u64 b ∧ s13 = .bool ag ∧ 0 ≤ a ∧ a ≤ b ∧ b ≤ 4294967295 ∧ RowU W s7 (acc.map (·.1)) ∧ RowU W s8 (acc.map (·.2)) ∧ Below W1.heap.size W1 W ∧ absorbF a0 b0 acc0 = absorbF a b acc ∧ AccOk acc ∧ acc.length ≤ acc0.length ∧ (ag = false → acc.findIdx? (touch a b) = none)
theorem szU0 {β : Type} {xs : List β} {i : Nat} (h : i ≤ xs.length) (hn : xs.length ≤ 8796093022208) : (([] : List Int).length + i) * 8 ≤ 140737488355328 := by
  rw [List.length_nil, Nat.zero_add]
  omega
theorem szI0 {β : Type} {xs : List β} {i : Nat} (h : i ≤ xs.length) (hn : xs.length ≤ 8796093022208) : (([] : List Int).length + i) * 8 ≤ 140737488355328 := szU0 h hn
theorem szI1 {β : Type} {xs : List β} {f : β → Int} {a : Int} {i : Nat} (h : i ≤ xs.length) (hn : xs.length ≤ 8796093022208) : (([] ++ (xs.map f).take i).length + [a].length) * 8 ≤ 140737488355328 := by
  rw [List.nil_append, List.length_take, List.length_map, List.length_singleton]
  omega
theorem szI2 {β : Type} {xs : List β} {f : β → Int} {a : Int} {i : Nat} (h : i ≤ xs.length) (hn : xs.length ≤ 8796093022208) : (([] ++ (xs.map f).take i ++ [a]).length + (xs.length - i)) * 8 ≤ 140737488355328 := by
  rw [List.nil_append, List.length_append, List.length_take, List.length_map, List.length_singleton]
  omega
theorem made0 (W : World) (base g : Nat) (hg : W.heap.size = g) (hb : base ≤ W.heap.size) : Kd.R (Kd.int .u64) 43 (W.alloc (.cells #[] 43)) base (fun _ => True) (.slice (some ⟨g, 0, none⟩) 0 0) [] := by
  subst hg
  exact ⟨fun _ _ => trivial, [], World.ownsRow_made W #[] 0 hb (Nat.zero_le _) (by simp), Reps.none _ _⟩
theorem made1 (W : World) (base g : Nat) (hg : W.heap.size = g) (hb : base ≤ W.heap.size) (a : Int) : Kd.R (Kd.int .u64) 43 (W.alloc (.cells #[.int .u64 a] 43)) base (fun _ => True) (.slice (some ⟨g, 0, none⟩) 1 1) [a] := by
  subst hg
  exact Kd.R_of_own (xs := [a]) (World.ownsRow_lit (size := 1) W #[.int .u64 a] 1 hb (by decide) (by simp)) (fun _ _ => trivial)
theorem szd (W : World) (o : Obj) : W.heap.size ≤ (W.drew.alloc o).heap.size := (Below.alloc (Below.refl W.heap.size W).drew (Nat.le_refl _) o).size
theorem alsz (W : World) (o : Obj) : (W.drew.alloc o).heap.size = W.heap.size + 1 := by
  rw [World.size_alloc]
  rfl
theorem own_ne (g m n m' n' : Nat) : (Value.slice (some ⟨g, 0, none⟩) m n).ownBlock ≠ (Value.slice (some ⟨g + 1, 0, none⟩) m' n').ownBlock := by
  simp [Value.ownBlock]
theorem vk (k : Nat) : Value.int .i64 ((k : Int) + 1) = .int .i64 ((k + 1 : Nat) : Int) := rfl
theorem wsk {k n : Nat} (h : k < n) (hn : n ≤ 8796093022208) : wrap64 ((k : Int) + 1) = (k : Int) + 1 := wrap64_in _ (by omega)
theorem meas {k n : Nat} (h : k < n) : n - ((k : Int) + 1).toNat < n - (k : Int).toNat := by omega
theorem meas2 {n m k : Nat} (h : m = n - 1) (hk : k < n) : 2 * m + 1 < 2 * n + 1 := by omega
theorem touch_no1 {a b : Int} {r : Int × Int} (h : ¬ r.1 ≤ b + 1) : touch a b r = false := by simp [touch, h]
theorem touch_no2 {a b : Int} {r : Int × Int} (h : ¬ a ≤ r.2 + 1) : touch a b r = false := by simp [touch, h]
theorem find_i {a b : Int} {acc : List (Int × Int)} {i : Nat} (hi : i < acc.length) (hn : ∀ r ∈ acc.take i, touch a b r = false) (ht : touch a b acc[i] = true) : acc.findIdx? (touch a b) = some i := by
  rw [List.findIdx?_eq_some_iff_getElem]
  refine ⟨hi, ht, fun j hj => ?_⟩
  have := hn acc[j] (by rw [List.mem_iff_getElem]; exact ⟨j, by rw [List.length_take]; omega, by rw [List.getElem_take]⟩)
  simpa using this
theorem absorb_at {a b : Int} {acc : List (Int × Int)} {i : Nat} {r : Int × Int} (hi : i < acc.length) (er : r = acc[i]) (hn : ∀ r ∈ acc.take i, touch a b r = false) (h1 : r.1 ≤ b + 1) (h2 : a ≤ r.2 + 1) : absorbF a b acc = absorbF (min a r.1) (max b r.2) (acc.eraseIdx i) := by
  have ht : touch a b acc[i] = true := by
    rw [← er]
    simp [touch, h1, h2]
  have hg : acc.getD i (0, 0) = r := by rw [List.getD_eq_getElem?_getD, List.getElem?_eq_getElem hi, er]; rfl
  have h := absorbF_some (find_i hi hn ht)
  rw [hg] at h
  exact h
theorem find_none {a b : Int} {acc : List (Int × Int)} {i : Nat} (hi : ¬ i < acc.length) (hn : ∀ r ∈ acc.take i, touch a b r = false) : acc.findIdx? (touch a b) = none := by
  rw [List.findIdx?_eq_none_iff]
  rw [List.take_of_length_le (by omega)] at hn
  exact hn
theorem take_next {P : Int × Int → Prop} {acc : List (Int × Int)} {i : Nat} (hi : i < acc.length) (hn : ∀ r ∈ acc.take i, P r) (h : P acc[i]) : ∀ r ∈ acc.take (i + 1), P r := by
  intro r hr
  rw [List.take_add_one, List.getElem?_eq_getElem hi] at hr
  rcases List.mem_append.1 hr with hr | hr
  · exact hn r hr
  · rw [Option.toList_some, List.mem_singleton] at hr
    rw [hr]
    exact h
theorem RowU.len {W : World} {v : Value} {xs : List Int} (h : RowU W v xs) : ∃ A c, v = .slice A xs.length c ∧ xs.length ≤ c ∧ Kd.C (Kd.int .u64) W A xs.length xs := by
  obtain ⟨g, c, e, hc, hC⟩ := h
  exact ⟨_, c, e, hc, hC⟩
theorem szU1 {β : Type} {xs : List β} {f : β → Int} {i : Nat} (h : i < xs.length) (hn : xs.length ≤ 8796093022208) : (([] ++ (xs.map f).take i).length + (xs.length - (i + 1))) * 8 ≤ 140737488355328 := by
  rw [List.nil_append, List.length_take, List.length_map]
  omega
theorem map_erase {β γ : Type} (f : β → γ) (xs : List β) (i : Nat) : (xs.eraseIdx i).map f = (xs.map f).eraseIdx i := by
  rw [List.eraseIdx_eq_take_drop_succ, List.eraseIdx_eq_take_drop_succ, List.map_append, List.map_take, List.map_drop]
/-- Where a new range belongs. -/
def PosR (acc : List (Int × Int)) (a : Int) (s : Value) : Prop := ∃ k : Nat, s = .int .i64 k ∧ k ≤ acc.length ∧ (∀ r ∈ acc.take k, r.1 < a) ∧ (∀ h : k < acc.length, a ≤ acc[k].1)
theorem insert_at {acc : List (Int × Int)} {r : Int × Int} {k : Nat} (hk : k ≤ acc.length) (h1 : ∀ s ∈ acc.take k, s.1 < r.1) (h2 : ∀ h : k < acc.length, r.1 ≤ acc[k].1) : insertR r acc = acc.take k ++ r :: acc.drop k := by
  have e := List.take_append_drop k acc
  have t : acc.takeWhile (fun s => decide (s.1 < r.1)) = acc.take k := by
    conv => lhs; rw [← e]
    rw [List.takeWhile_append_of_pos (fun s hs => by simpa using h1 s hs)]
    rcases Nat.lt_or_ge k acc.length with h | h
    · rw [List.drop_eq_getElem_cons h, List.takeWhile_cons_of_neg (by have := h2 h; simp; omega), List.append_nil]
    · rw [List.drop_eq_nil_of_le h, List.takeWhile_nil, List.append_nil]
  have d : acc.dropWhile (fun s => decide (s.1 < r.1)) = acc.drop k := by
    conv => lhs; rw [← e]
    rw [List.dropWhile_append_of_pos (fun s hs => by simpa using h1 s hs)]
    rcases Nat.lt_or_ge k acc.length with h | h
    · rw [List.drop_eq_getElem_cons h, List.dropWhile_cons_of_neg (by have := h2 h; simp; omega)]
    · rw [List.drop_eq_nil_of_le h, List.dropWhile_nil]
  rw [insertR, t, d]
theorem insertR_mem {r s : Int × Int} {l : List (Int × Int)} (h : s ∈ insertR r l) : s = r ∨ s ∈ l := by
  unfold insertR at h
  rcases List.mem_append.1 h with h | h
  · exact .inr ((List.takeWhile_sublist _).mem h)
  · rcases List.mem_cons.1 h with h | h
    · exact .inl h
    · exact .inr ((List.dropWhile_sublist _).mem h)
theorem insertR_len (r : Int × Int) (l : List (Int × Int)) : (insertR r l).length = l.length + 1 := by
  have := congrArg List.length (List.takeWhile_append_dropWhile (p := fun s : Int × Int => decide (s.1 < r.1)) (l := l))
  rw [List.length_append] at this
  rw [insertR, List.length_append, List.length_cons]
  omega
theorem AccOk_insert {acc : List (Int × Int)} {a b : Int} (h : AccOk acc) (h0 : 0 ≤ a) (h1 : a ≤ b) (h2 : b ≤ 4294967295) (hn : acc.findIdx? (touch a b) = none) : AccOk (insertR (a, b) acc) ∧ (insertR (a, b) acc).length = acc.length + 1 := by
  rw [List.findIdx?_eq_none_iff] at hn
  refine ⟨⟨insertR_sep acc (a, b) h1 h.1 hn, fun r hr => ?_⟩, insertR_len _ _⟩
  rcases insertR_mem hr with rfl | hr
  · exact ⟨h0, h1, h2⟩
  · exact h.2 r hr
theorem drop_rd {l : List S31} {j : Nat} (hj : j < l.length) {x : S31} (ex : x = rd_T31 l (j : Int)) : l.drop j = x :: l.drop (j + 1) := by
  rw [ex, rdR_mem hj]
  exact List.drop_eq_getElem_cons hj
theorem join_step {l : List S31} {j f b q : Nat} {x : S31} {acc acc1 : List (Int × Int)} {a1 b1 : Int} (hj : j < l.length) (ex : x = rd_T31 l (j : Int)) (hf : x.f0 = (f : Int) ∧ x.f1 = (b : Int)) (hq : q = wid b) (hb : b ≤ 32) (h : absorbF f (f + q - 1) acc = ((a1, b1), acc1)) :
    joinR acc ((l.drop j).map rngR) = joinR (insertR (a1, b1) acc1) ((l.drop (j + 1)).map rngR) := by
  rw [drop_rd hj ex, List.map_cons, show rngR x = ((f : Int), (f : Int) + (q : Int) - 1) by rw [rngR, hf.1, hf.2, sizeW hb, hq], joinR]
  exact congrArg (fun o : (Int × Int) × List (Int × Int) => joinR (insertR o.1 o.2) ((l.drop (j + 1)).map rngR)) h
theorem madeB (W : World) : Kd.R k31 31 (W.alloc (.cells #[] 31)) W.heap.size (fun _ => True) (.slice (some ⟨W.heap.size, 0, none⟩) 0 0) [] := ⟨fun _ _ => trivial, [], World.ownsRow_made W #[] 0 (Nat.le_refl _) (Nat.zero_le _) (by simp), Reps.none _ _⟩
theorem covR_len : ∀ (l : List (Int × Int)) (lo : Int), 0 ≤ lo → lo ≤ 4294967296 → Sep l → (∀ r ∈ l, lo ≤ r.1 ∧ r.1 ≤ r.2 ∧ r.2 ≤ 4294967295) → ((covR l).length : Int) ≤ 4294967296 - lo
  | [], lo, h0, h1, hs, hb => by
    simp [covR]
    omega
  | r :: l, lo, h0, h1, hs, hb => by
    have hr := hb r (by simp)
    have ih := covR_len l (r.2 + 1) (by omega) (by omega) hs.tail (fun s hs' => by
      have := hs.above s hs'
      have := hb s (by simp [hs'])
      omega)
    have hc := cov_len (e := r.2.toNat) (by omega) r.1.toNat
    have e : covR (r :: l) = covL r.1.toNat r.2.toNat ++ covR l := by simp [covR]
    rw [e, List.length_append]
    omega
theorem covR_app (a b : List (Int × Int)) : covR (a ++ b) = covR a ++ covR b := List.flatMap_append
theorem covR_next {acc : List (Int × Int)} {i : Nat} (hi : i < acc.length) : covR (acc.take (i + 1)) = covR (acc.take i) ++ covL (acc[i].1).toNat (acc[i].2).toNat := by
  rw [List.take_add_one, List.getElem?_eq_getElem hi, covR_app]
  exact congrArg (covR (acc.take i) ++ ·) (show covR [acc[i]] = _ by simp [covR])
theorem sized_R {acc : List (Int × Int)} (h : AccOk acc) {i : Nat} (hi : i < acc.length) : (((covR (acc.take i)).map toR).length + ((covL (acc[i].1).toNat (acc[i].2).toNat).map toR).length) * 16 ≤ 140737488355328 := by
  have h1 := covR_len acc 0 (Int.le_refl _) (by decide) h.1 (fun r hr => h.2 r hr)
  have e : covR acc = covR (acc.take (i + 1)) ++ covR (acc.drop (i + 1)) := by
    conv => lhs; rw [← List.take_append_drop (i + 1) acc]
    exact covR_app _ _
  rw [e, covR_next hi] at h1
  simp only [List.length_append, List.length_map] at h1 ⊢
  omega
theorem wrapU32 {f : Nat} (h : f < 4294967296) : IntKind.u32.wrap (f : Int) = (f : Int) := by
  simp [IntKind.wrap, IntKind.signed, IntKind.bits]
  omega
theorem bad_at {l : List S31} {k : Nat} (h : l.findIdx? (fun x => !isV x.f0 x.f1) = some k) : k < l.length ∧ isV (rd_T31 l (k : Int)).f0 (rd_T31 l (k : Int)).f1 = false ∧ ∀ i < k, isV (rd_T31 l (i : Int)).f0 (rd_T31 l (i : Int)).f1 = true := by
  rw [List.findIdx?_eq_some_iff_getElem] at h
  obtain ⟨hk, h1, h2⟩ := h
  refine ⟨hk, ?_, fun i hi => ?_⟩
  · rw [rdR_mem hk]
    simpa using h1
  · rw [rdR_mem (Nat.lt_trans hi hk)]
    have := h2 i hi
    simpa using this
def boolOf : Value → Nat
  | .bool true => 1
  | _ => 0
def lenOf : Value → Nat
  | .slice _ n _ => n
  | _ => 0
set_option maxHeartbeats 4000000 in
set_option maxRecDepth 100000 in
theorem refJoin_walk (A : Option Addr) (c : Nat) (l : List S31) (w : World) (hr : Kd.C k31 w A l.length l) (hc : l.length ≤ c) (hrg : rgR l) (hv : ∀ x ∈ l, isV x.f0 x.f1 = true) (hn : l.length ≤ 8796093022208) :
    Calls Tryz.prog 9 #[.slice A l.length c] w fun e w' => ∃ v, e = .returned (.tuple #[v, .int .i64 0, .int .i64 0]) ∧ Kd.R k31 31 w' w.heap.size (fun _ => True) v ((covR (joinR [] (l.map rngR))).map toR) ∧ Below w.heap.size w w' := by
  have HR := Aside0.mk hr
  have HRG := Aside0.mk hrg
  have HV := Aside0.mk hv
  clear hr hrg hv
  generalize hm : l.length = n at *
  have HN := Aside0.mk hm
  clear hm
  go_enter Tryz.func9, Tryz.ntmps9
  go_wp2_with fail
  go_loopw [20] (fun s W => ∃ i : Nat, s = .int .i64 i ∧ i ≤ n ∧ Below w.heap.size w W) (fun s _ => n - (intOf s).toNat)
  case atStart => exact ⟨0, rfl, Nat.zero_le _, Below.refl _ _⟩
  case round =>
    obtain ⟨i, rfl, hi, hB⟩ := hrel
    have B := Aside0.mk hB
    clear hB
    by_cases hlt : i < n
    · have hltz : (i : Int) < (n : Int) := by omega
      obtain ⟨ad, rfl, c0, c1⟩ := at_T31 (Kd.C_below HR.out B.out) (i : Int) (by omega) hltz
      have hx : rd_T31 l (i : Int) ∈ l := by
        rw [rdR_mem (by rw [HN.out]; exact hlt)]
        exact List.getElem_mem _
      have HX := Aside0.mk (And.intro (HRG.out _ hx) (HV.out _ hx))
      obtain ⟨x, ex⟩ : ∃ x, x = rd_T31 l (i : Int) := ⟨_, rfl⟩
      rw [← ex] at c0 c1 HX
      clear ex hx
      have HI := c_refIs x HX.out.1.1 HX.out.1.2
      rw [HX.out.2] at HI
      have HI := Aside0.mk HI
      rw [Int.toNat_natCast] at c0 c1
      go_wp2_with fail
      refine (HI.out _).mono ?_
      rintro e w2 ⟨rfl, hb⟩
      have B2 := Aside0.mk (below_step (Below.alloc B.out B.out.size (.cells #[.int .u32 x.f0, .int .i64 x.f1] 31)) hb)
      clear hb c0 c1
      go_wp2_with fail
      exact ⟨⟨i + 1, by simp, by omega, B2.out⟩, by show n - ((i : Int) + 1).toNat < n - (i : Int).toNat; omega⟩
    · have hiz : ¬ (i : Int) < (n : Int) := by omega
      go_wp2_with fail
      have B1 := Aside0.mk (Below.alloc (Below.alloc B.out B.out.size (.cells #[] 43)) (Below.alloc B.out B.out.size (.cells #[] 43)).size (.cells #[] 43))
      go_loopw [34, 7, 8] (fun s34 s7 s8 W => KR w l s34 s7 s8 W) (fun s34 s7 s8 _ => n - (intOf s34).toNat)
      case atStart => exact ⟨0, [], rfl, Nat.zero_le _, ⟨some _, 0, rfl, Nat.le_refl _, rfl, by decide, fun h => absurd h (by decide)⟩, ⟨some _, 0, rfl, Nat.le_refl _, rfl, by decide, fun h => absurd h (by decide)⟩, B1.out, rfl, ⟨trivial, fun r hr => absurd hr (by simp)⟩, Nat.le_refl _⟩
      case round =>
        obtain ⟨j, acc, rfl, hj, h7, h8, hB, hs, hO, hal⟩ := hrel
        rw [HN.out] at hj
        have H7 := Aside0.mk h7
        have H8 := Aside0.mk h8
        have B := Aside0.mk hB
        have HS := Aside0.mk hs
        have HO := Aside0.mk hO
        have HAL := Aside0.mk hal
        clear h7 h8 hB hs hO hal B1 hiz
        by_cases hlt : j < n
        · have hltz : (j : Int) < (n : Int) := by omega
          have hlt' : j < n := hlt
          obtain ⟨ad, rfl, c0, c1⟩ := at_T31 (Kd.C_below HR.out B.out) (j : Int) (by omega) hltz
          have hx : rd_T31 l (j : Int) ∈ l := by
            rw [rdR_mem (by rw [HN.out]; exact hlt)]
            exact List.getElem_mem _
          have HX := Aside0.mk (And.intro (HRG.out _ hx) (HV.out _ hx))
          obtain ⟨x, ex⟩ : ∃ x, x = rd_T31 l (j : Int) := ⟨_, rfl⟩
          rw [← ex] at c0 c1 HX
          have EX := Aside0.mk ex
          clear ex hx
          rw [Int.toNat_natCast] at c0 c1
          obtain ⟨f, b, ef, eb, hb32, hfb⟩ := valid_fb HX.out.1.1 HX.out.1.2 HX.out.2
          rw [ef] at c0
          rw [eb] at c1
          have EF := Aside0.mk (And.intro ef eb)
          clear ef eb
          have HSb := c_size b hb32
          have hwp : 0 < wid b := Nat.two_pow_pos _
          obtain ⟨q, hq⟩ : ∃ q, q = wid b := ⟨_, rfl⟩
          rw [← hq] at HSb hwp hfb
          have HSb := Aside0.mk HSb
          have HQ := Aside0.mk hq
          clear hq
          have hf0 : (0 : Int) ≤ (f : Int) ∧ (f : Int) ≤ 4294967295 := by omega
          have hq0 : (1 : Int) ≤ (q : Int) ∧ (f : Int) + (q : Int) ≤ 4294967296 := by omega
          go_wp2_with fail
          have KK := blk_new wr (.cells #[.int .u32 (f : Int), .int .i64 (b : Int)] 31)
          have B0 := Aside0.mk (Below.alloc B.out B.out.size (.cells #[.int .u32 (f : Int), .int .i64 (b : Int)] 31))
          have B00 := Below.alloc (Below.refl wr.heap.size wr) (Nat.le_refl _) (.cells #[.int .u32 (f : Int), .int .i64 (b : Int)] 31)
          have H7 := Aside0.mk (H7.out.below B00)
          have H8 := Aside0.mk (H8.out.below B00)
          clear c0 c1 B00
          generalize wr.heap.size = g0 at *
          generalize wr.alloc (.cells #[.int .u32 (f : Int), .int .i64 (b : Int)] 31) = W0 at *
          have k0 := (blk_cell KK 0).trans rfl
          have k1 := (blk_cell KK 1).trans rfl
          have kl := blk_lt KK
          refine wp_region_ext (by kernel_rfl) (by kernel_rfl) ?_
          repeat (go_big_quiet_step (with_reducible exact ext_of (HSb.out _)))
          refine wpQuiet_nil ?_
          rintro W1 ⟨⟨_, hb1⟩, rfl⟩
          have B1 := Aside0.mk (below_step B0.out hb1)
          have H7 := Aside0.mk (H7.out.below hb1)
          have H8 := Aside0.mk (H8.out.below hb1)
          clear hb1 k0 k1 kl KK
          go_wp2_with fail
          go_loopw [7, 8, 11, 12, 13] (fun s7 s8 s11 s12 s13 W => LR W1 f (f + q - 1) acc s7 s8 s11 s12 s13 W) (fun s7 s8 s11 s12 s13 _ => 2 * lenOf s7 + boolOf s13)
          case atStart => exact ⟨f, f + q - 1, acc, true, rfl, rfl, rfl, hf0.1, by omega, by omega, H7.out, H8.out, Below.refl _ _, rfl, HO.out, Nat.le_refl _, fun h => by cases h⟩
          case round =>
            obtain ⟨a1, b1, acc1, ag, rfl, rfl, rfl, ha0, hab, hb1, h7, h8, hBw, habs, hO1, hle, hag⟩ := hrel
            have I7 := Aside0.mk h7
            have I8 := Aside0.mk h8
            have BW := Aside0.mk hBw
            have HABS := Aside0.mk habs
            have HO1 := Aside0.mk hO1
            have HLE := Aside0.mk hle
            have HAG := Aside0.mk hag
            clear h7 h8 hBw habs hO1 hle hag H7 H8
            have hlen7 : acc1.length ≤ 8796093022208 := by
              have a1 := HLE.out
              have a2 := HAL.out
              omega
            have HL7 := Aside0.mk hlen7
            clear hlen7
            cases ag with
            | false =>
              obtain ⟨A7, c7, e7, hc7, C7⟩ := I7.out.len
              obtain ⟨A8, c8, e8, hc8, C8⟩ := I8.out.len
              have C7 := Aside0.mk C7
              have C8 := Aside0.mk C8
              have E7 := Aside0.mk e7
              have E8 := Aside0.mk e8
              have e7' := e7
              have e8' := e8
              rw [List.length_map] at e7' e8'
              subst e7'
              subst e8'
              clear e7 e8
              go_upto_block 8 with fail
              go_cut [15] (fun s W => PosR acc1 a1 s ∧ W = wr)
              case first =>
                go_wp2_with fail
                obtain ⟨W3, hW3⟩ : ∃ W3 : World, W3 = wr := ⟨_, rfl⟩
                have HW3 := Aside0.mk hW3
                clear hW3
                go_loopw [15] (fun s W => ∃ k : Nat, s = .int .i64 k ∧ k ≤ acc1.length ∧ (∀ r ∈ acc1.take k, r.1 < a1) ∧ W = W3) (fun s _ => acc1.length - (intOf s).toNat)
                case atStart => exact ⟨0, rfl, Nat.zero_le _, fun r hr => absurd hr (by simp), HW3.out.symm⟩
                case round =>
                  obtain ⟨k, rfl, hk, hlt, hwr⟩ := hrel
                  have HLT := Aside0.mk hlt
                  clear hlt
                  subst hwr
                  rw [← HW3.out] at I7
                  by_cases hkl : k < acc1.length
                  · have hklz : (k : Int) < (acc1.length : Int) := by omega
                    obtain ⟨g7, d7, e7, l7, k7, _, _⟩ := I7.out.cell (i := k) (by rw [List.length_map]; exact hkl)
                    rw [List.length_map] at e7
                    injection e7 with e71 e72 e73
                    subst e71
                    rw [List.getElem_map] at k7
                    obtain ⟨r, er⟩ : ∃ r, r = acc1[k] := ⟨_, rfl⟩
                    rw [← er] at k7
                    have ER := Aside0.mk er
                    clear er e72 e73
                    by_cases hra : r.1 < a1
                    · go_wp2_with fail
                      rw [wsk hkl HL7.out]
                      exact ⟨⟨k + 1, vk k, Nat.succ_le_of_lt hkl, take_next (P := fun r => r.1 < a1) hkl HLT.out (by rw [← ER.out]; exact hra), trivial⟩, meas hkl⟩
                    · go_wp2_with fail
                      go_meet
                      exact ⟨⟨k, rfl, hk, HLT.out, fun _ => by rw [← ER.out]; exact hra⟩, HW3.out⟩
                  · have hklz : ¬ (k : Int) < (acc1.length : Int) := by omega
                    go_wp2_with fail
                    go_meet
                    exact ⟨⟨k, rfl, hk, HLT.out, fun h => absurd h hkl⟩, HW3.out⟩
              case rest =>
                obtain ⟨⟨k, rfl, hk, hlt, hge⟩, rfl⟩ := hcut
                have HLT := Aside0.mk hlt
                have HGE := Aside0.mk hge
                clear hlt hge
                go_upto_region 29 with fail
                go_cut [7] (fun s W => RowU W s ((insertR (a1, b1) acc1).map (·.1)) ∧ Below wc.heap.size wc W)
                case first =>
                  have DT := Aside0.mk (Kd.C_take C7.out (m := k) (by rw [List.length_map]; exact hk))
                  have DD := Kd.C_drop C7.out (m := k) (c := c7) (by rw [List.length_map]; exact hk) hc7
                  obtain ⟨Ad, hAd⟩ : ∃ A, A = (if c7 = k then A7 else A7.map (·.add (k * (Kd.int .u64).sz))) := ⟨_, rfl⟩
                  rw [← hAd] at DD
                  have DD := Aside0.mk DD
                  obtain ⟨iU, hiU, hiU0, hiU1, hiU2⟩ := info_parts infoU
                  have hc7' : acc1.length ≤ c7 := by rw [List.length_map] at hc7; exact hc7
                  have q1 := cut_to (P := Tryz.prog) 54 43 .i64 Tryz.underlying54 hiU A7 acc1.length c7 (k : Int) (by omega) (by omega) hc7'
                  have q2 := cut_from (P := Tryz.prog) 54 43 .i64 Tryz.underlying54 hiU 1 hiU1 A7 acc1.length c7 (k : Int) (by omega) (by omega)
                  rw [Int.toNat_natCast] at q1 q2
                  rw [show (if c7 = k then A7 else A7.map (·.add (k * 1))) = Ad from hAd.symm] at q2
                  clear hiU hiU0 hiU1 hiU2 hAd
                  refine start_ (n := 13) (S := fun w' => True) (ds := []) #[false, false, false, false, false, false, false, false, false, false, false, false, false] (by kernel_rfl) rfl rfl trivial (fun hHeld => ?_)
                  refine pure_ (i := 1) (N := some 127) (v := ?_) (a' := ?_) #[false, true, false, false, false, false, false, false, false, false, false, false, false] rfl rfl (by kernel_rfl) (fun _ _ _ h => h) (Or.inl ⟨by rfl, ?_⟩) ?_ ?_
                  rotate_left
                  · intro w'
                    go_simp
                    with_reducible rfl
                  rotate_left
                  · simp only [Act.put, List.setIfInBounds_toArray, List.set_cons_zero, List.set_cons_succ, i64_w, i32_w]
                    rfl
                  refine pure_ (i := 2) (N := some 128) (v := ?_) (a' := ?_) #[false, true, true, false, false, false, false, false, false, false, false, false, false] rfl rfl (by kernel_rfl) (fun _ _ _ h => h) (Or.inl ⟨by rfl, ?_⟩) ?_ ?_
                  rotate_left
                  · intro w'
                    go_simp
                    with_reducible rfl
                  rotate_left
                  · simp only [Act.put, List.setIfInBounds_toArray, List.set_cons_zero, List.set_cons_succ, i64_w, i32_w]
                    rfl
                  refine pure_ (i := 3) (N := some 129) (v := ?_) (a' := ?_) #[false, true, true, true, false, false, false, false, false, false, false, false, false] rfl rfl (by kernel_rfl) (fun _ _ _ h => h) (Or.inl ⟨by rfl, ?_⟩) ?_ ?_
                  rotate_left
                  · intro w'
                    go_simp
                    with_reducible rfl
                  rotate_left
                  · simp only [Act.put, List.setIfInBounds_toArray, List.set_cons_zero, List.set_cons_succ, i64_w, i32_w]
                    rfl
                  refine pure_ (i := 5) (N := some 131) (v := ?_) (a' := ?_) #[false, true, true, true, false, true, false, false, false, false, false, false, false] rfl rfl (by kernel_rfl) (fun _ _ _ h => h) (Or.inl ⟨by rfl, ?_⟩) ?_ ?_
                  rotate_left
                  · intro w'
                    go_simp
                    with_reducible rfl
                  rotate_left
                  · simp only [Act.put, List.setIfInBounds_toArray, List.set_cons_zero, List.set_cons_succ, i64_w, i32_w]
                    rfl
                  refine pure_ (i := 8) (N := some 134) (v := ?_) (a' := ?_) #[false, true, true, true, false, true, false, false, true, false, false, false, false] rfl rfl (by kernel_rfl) (fun _ _ _ h => h) (Or.inl ⟨by rfl, ?_⟩) ?_ ?_
                  rotate_left
                  · intro w'
                    go_simp
                    with_reducible rfl
                  rotate_left
                  · simp only [Act.put, List.setIfInBounds_toArray, List.set_cons_zero, List.set_cons_succ, i64_w, i32_w]
                    rfl
                  refine pure_ (i := 9) (N := some 135) (v := ?_) (a' := ?_) #[false, true, true, true, false, true, false, false, true, true, false, false, false] rfl rfl (by kernel_rfl) (fun _ _ _ h => h) (Or.inl ⟨by rfl, ?_⟩) ?_ ?_
                  rotate_left
                  · intro w'
                    go_simp
                    with_reducible rfl
                  rotate_left
                  · simp only [Act.put, List.setIfInBounds_toArray, List.set_cons_zero, List.set_cons_succ, i64_w, i32_w]
                    rfl
                  refine pure_ (i := 10) (N := some 136) (v := ?_) (a' := ?_) #[false, true, true, true, false, true, false, false, true, true, true, false, false] rfl rfl (by kernel_rfl) (fun _ _ _ h => h) (Or.inl ⟨by rfl, ?_⟩) ?_ ?_
                  rotate_left
                  · intro w'
                    go_simp
                    with_reducible rfl
                  rotate_left
                  · simp only [Act.put, List.setIfInBounds_toArray, List.set_cons_zero, List.set_cons_succ, i64_w, i32_w]
                    rfl
                  refine join_ (σ := Value × Value × Value) 3 #[true, true, true, true, true, true, true, false, true, true, true, false, false] (fun s => [(126, s.1), (130, s.2.1), (132, s.2.2)]) (fun s w' => Kd.R (Kd.int .u64) 43 w' wc.heap.size (fun _ => True) s.2.1 ([] ++ (acc1.map (·.1)).take k) ∧ Kd.R (Kd.int .u64) 43 w' wc.heap.size (fun _ => True) s.2.2 [a1] ∧ Below wc.heap.size wc w') ?_ ?_
                  rotate_left
                  · intro hCont
                    refine two_ (i := 0) (j := 6) (Ni := some 126) (Nj := some 132) #[true, true, true, true, false, true, false, false, true, true, true, false, false] #[false, true, true, true, false, true, true, false, true, true, true, false, false] rfl rfl rfl rfl (by kernel_rfl) (by decide) (by decide) (fun K hK => ?_) (fun K hK => ?_)
                    · skip
                      refine value_ (w1 := ?_) (v := ?_) (by rfl) rfl ?_ ?_
                      rotate_left 2
                      · go_simp
                        constructor
                        · rfl
                        · rfl
                      refine hK.out _ _ trivial (fun hHeld => ?_)
                      clear hK K
                      refine norm_ (a' := ?_) ?_ ?_
                      rotate_left
                      · show Act.put _ (some 126) _ = _
                        simp only [Act.put, List.setIfInBounds_toArray, List.set_cons_zero, List.set_cons_succ, i64_w, i32_w]
                        rfl
                      refine two_ (i := 4) (j := 6) (Ni := some 130) (Nj := some 132) #[true, true, true, true, true, true, false, false, true, true, true, false, false] #[true, true, true, true, false, true, true, false, true, true, true, false, false] rfl rfl rfl rfl (by kernel_rfl) (by decide) (by decide) (fun K hK => ?_) (fun K hK => ?_)
                      · skip
                        refine Kd.R_append_rows_step (Kd.int .u64) (w0 := wc) wc.heap.size (by rfl) (.tmp 126) (.tmp 129) 54 43 (.int .u64 0) 8 rfl Tryz.underlying54 infoU rfl (by decide) (by omega) _ [] ((acc1.map (·.1)).take k) _ _ _ (fun _ => True) (fun _ => False) rfl rfl ?aO ?aR (fun _ _ h => h) (fun _ h => h.elim) ?aF ?aB ?aS ?aL ?_
                        case aO => exact made0 wc.drew wc.heap.size wc.heap.size rfl (Nat.le_refl _)
                        case aR => exact (by have h := Kd.C_alloc (Kd.C_drew DT.out) (.cells #[] 43); rw [List.length_take, List.length_map, Nat.min_eq_left hk] at h; exact h)
                        case aF => exact fun _ _ => trivial
                        case aB => exact (Below.alloc (Below.refl wc.heap.size wc).drew ((Below.refl wc.heap.size wc).drew : Below wc.heap.size wc _).size (.cells #[] 43))
                        case aS => exact ((Below.alloc (Below.refl wc.heap.size wc).drew ((Below.refl wc.heap.size wc).drew : Below wc.heap.size wc _).size (.cells #[] 43)) : Below wc.heap.size wc _).size
                        case aL => exact szI0 hk HL7.out
                        intro v1 w4 hR4 hB4 hg4 hat4
                        have HR4 := Aside0.mk hR4
                        have HB4 := Aside0.mk hB4
                        clear hR4 hB4 hg4 hat4
                        refine hK.out _ _ trivial (fun hHeld => ?_)
                        clear hK K
                        refine norm_ (a' := ?_) ?_ ?_
                        rotate_left
                        · show Act.put _ (some 130) _ = _
                          simp only [Act.put, List.setIfInBounds_toArray, List.set_cons_zero, List.set_cons_succ, i64_w, i32_w]
                          rfl
                        refine one_ (i := 6) (N := some 132) #[true, true, true, true, true, true, true, false, true, true, true, false, false] rfl rfl (by kernel_rfl) (by decide) (fun K hK => ?_)
                        refine value_ (w1 := ?_) (v := ?_) (by rfl) rfl ?_ ?_
                        rotate_left 2
                        · go_simp
                          constructor
                          · rfl
                          · rfl
                        refine hK.out _ _ trivial (fun hHeld => ?_)
                        clear hK K
                        refine norm_ (a' := ?_) ?_ ?_
                        rotate_left
                        · show Act.put _ (some 132) _ = _
                          simp only [Act.put, List.setIfInBounds_toArray, List.set_cons_zero, List.set_cons_succ, i64_w, i32_w]
                          rfl
                        exact norm_ (by simp only [putAll, Act.put, List.setIfInBounds_toArray, List.set_cons_zero, List.set_cons_succ]) (hCont (Value.slice (some ⟨wc.heap.size, 0, none⟩) 0 0, v1, Value.slice (some ⟨w4.heap.size, 0, none⟩) 1 1) _ ⟨Kd.R_alloc HR4.out _, made1 w4 wc.heap.size w4.heap.size rfl HB4.out.size a1, Below.alloc HB4.out HB4.out.size _⟩)
                      · skip
                        refine value_ (w1 := ?_) (v := ?_) (by rfl) rfl ?_ ?_
                        rotate_left 2
                        · go_simp
                          constructor
                          · rfl
                          · rfl
                        refine hK.out _ _ trivial (fun hHeld => ?_)
                        clear hK K
                        refine norm_ (a' := ?_) ?_ ?_
                        rotate_left
                        · show Act.put _ (some 132) _ = _
                          simp only [Act.put, List.setIfInBounds_toArray, List.set_cons_zero, List.set_cons_succ, i64_w, i32_w]
                          rfl
                        refine one_ (i := 4) (N := some 130) #[true, true, true, true, true, true, true, false, true, true, true, false, false] rfl rfl (by kernel_rfl) (by decide) (fun K hK => ?_)
                        refine Kd.R_append_rows_step (Kd.int .u64) (w0 := wc) wc.heap.size (by rfl) (.tmp 126) (.tmp 129) 54 43 (.int .u64 0) 8 rfl Tryz.underlying54 infoU rfl (by decide) (by omega) _ [] ((acc1.map (·.1)).take k) _ _ _ (fun _ => True) (fun _ => False) rfl rfl ?aO ?aR (fun _ _ h => h) (fun _ h => h.elim) ?aF ?aB ?aS ?aL ?_
                        case aO => exact Kd.R_alloc (made0 wc.drew wc.heap.size wc.heap.size rfl (Nat.le_refl _)) _
                        case aR => exact (by have h := Kd.C_alloc (Kd.C_alloc (Kd.C_drew DT.out) (.cells #[] 43)) (.cells #[.int .u64 a1] 43); rw [List.length_take, List.length_map, Nat.min_eq_left hk] at h; exact h)
                        case aF => exact fun _ _ => trivial
                        case aB => exact (Below.alloc (Below.alloc (Below.refl wc.heap.size wc).drew ((Below.refl wc.heap.size wc).drew : Below wc.heap.size wc _).size (.cells #[] 43)) ((Below.alloc (Below.refl wc.heap.size wc).drew ((Below.refl wc.heap.size wc).drew : Below wc.heap.size wc _).size (.cells #[] 43)) : Below wc.heap.size wc _).size (.cells #[.int .u64 a1] 43))
                        case aS => exact ((Below.alloc (Below.alloc (Below.refl wc.heap.size wc).drew ((Below.refl wc.heap.size wc).drew : Below wc.heap.size wc _).size (.cells #[] 43)) ((Below.alloc (Below.refl wc.heap.size wc).drew ((Below.refl wc.heap.size wc).drew : Below wc.heap.size wc _).size (.cells #[] 43)) : Below wc.heap.size wc _).size (.cells #[.int .u64 a1] 43)) : Below wc.heap.size wc _).size
                        case aL => exact szI0 hk HL7.out
                        intro v1 w4 hR4 hB4 hg4 hat4
                        have HR4 := Aside0.mk hR4
                        have HB4 := Aside0.mk hB4
                        have HA4 := Aside0.mk (Kd.R_grown1 (made1 (wc.drew.alloc (.cells #[] 43)) wc.heap.size (wc.heap.size + 1) (alsz wc _) (szd wc _) a1) rfl hg4 (own_ne _ 0 0 1 1))
                        clear hR4 hB4 hg4 hat4
                        refine hK.out _ _ trivial (fun hHeld => ?_)
                        clear hK K
                        refine norm_ (a' := ?_) ?_ ?_
                        rotate_left
                        · show Act.put _ (some 130) _ = _
                          simp only [Act.put, List.setIfInBounds_toArray, List.set_cons_zero, List.set_cons_succ, i64_w, i32_w]
                          rfl
                        exact norm_ (by simp only [putAll, Act.put, List.setIfInBounds_toArray, List.set_cons_zero, List.set_cons_succ]) (hCont (Value.slice (some ⟨wc.heap.size, 0, none⟩) 0 0, v1, Value.slice (some ⟨(wc.heap.size + 1), 0, none⟩) 1 1) _ ⟨HR4.out, HA4.out, HB4.out⟩)
                    · skip
                      refine value_ (w1 := ?_) (v := ?_) (by rfl) rfl ?_ ?_
                      rotate_left 2
                      · go_simp
                        constructor
                        · rfl
                        · rfl
                      refine hK.out _ _ trivial (fun hHeld => ?_)
                      clear hK K
                      refine norm_ (a' := ?_) ?_ ?_
                      rotate_left
                      · show Act.put _ (some 132) _ = _
                        simp only [Act.put, List.setIfInBounds_toArray, List.set_cons_zero, List.set_cons_succ, i64_w, i32_w]
                        rfl
                      refine one_ (i := 0) (N := some 126) #[true, true, true, true, false, true, true, false, true, true, true, false, false] rfl rfl (by kernel_rfl) (by decide) (fun K hK => ?_)
                      refine value_ (w1 := ?_) (v := ?_) (by rfl) rfl ?_ ?_
                      rotate_left 2
                      · go_simp
                        constructor
                        · rfl
                        · rfl
                      refine hK.out _ _ trivial (fun hHeld => ?_)
                      clear hK K
                      refine norm_ (a' := ?_) ?_ ?_
                      rotate_left
                      · show Act.put _ (some 126) _ = _
                        simp only [Act.put, List.setIfInBounds_toArray, List.set_cons_zero, List.set_cons_succ, i64_w, i32_w]
                        rfl
                      refine one_ (i := 4) (N := some 130) #[true, true, true, true, true, true, true, false, true, true, true, false, false] rfl rfl (by kernel_rfl) (by decide) (fun K hK => ?_)
                      refine Kd.R_append_rows_step (Kd.int .u64) (w0 := wc) wc.heap.size (by rfl) (.tmp 126) (.tmp 129) 54 43 (.int .u64 0) 8 rfl Tryz.underlying54 infoU rfl (by decide) (by omega) _ [] ((acc1.map (·.1)).take k) _ _ _ (fun _ => True) (fun _ => False) rfl rfl ?aO ?aR (fun _ _ h => h) (fun _ h => h.elim) ?aF ?aB ?aS ?aL ?_
                      case aO => exact made0 (wc.drew.alloc (.cells #[.int .u64 a1] 43)) wc.heap.size (wc.heap.size + 1) (alsz wc _) (szd wc _)
                      case aR => exact (by have h := Kd.C_alloc (Kd.C_alloc (Kd.C_drew DT.out) (.cells #[.int .u64 a1] 43)) (.cells #[] 43); rw [List.length_take, List.length_map, Nat.min_eq_left hk] at h; exact h)
                      case aF => exact fun _ _ => trivial
                      case aB => exact (Below.alloc (Below.alloc (Below.refl wc.heap.size wc).drew ((Below.refl wc.heap.size wc).drew : Below wc.heap.size wc _).size (.cells #[.int .u64 a1] 43)) ((Below.alloc (Below.refl wc.heap.size wc).drew ((Below.refl wc.heap.size wc).drew : Below wc.heap.size wc _).size (.cells #[.int .u64 a1] 43)) : Below wc.heap.size wc _).size (.cells #[] 43))
                      case aS => exact ((Below.alloc (Below.alloc (Below.refl wc.heap.size wc).drew ((Below.refl wc.heap.size wc).drew : Below wc.heap.size wc _).size (.cells #[.int .u64 a1] 43)) ((Below.alloc (Below.refl wc.heap.size wc).drew ((Below.refl wc.heap.size wc).drew : Below wc.heap.size wc _).size (.cells #[.int .u64 a1] 43)) : Below wc.heap.size wc _).size (.cells #[] 43)) : Below wc.heap.size wc _).size
                      case aL => exact szI0 hk HL7.out
                      intro v1 w4 hR4 hB4 hg4 hat4
                      have HR4 := Aside0.mk hR4
                      have HB4 := Aside0.mk hB4
                      have HA4 := Aside0.mk (Kd.R_grown1 (Kd.R_alloc (made1 wc.drew wc.heap.size wc.heap.size rfl (Nat.le_refl _) a1) (.cells #[] 43)) rfl hg4 (own_ne _ 1 1 0 0).symm)
                      clear hR4 hB4 hg4 hat4
                      refine hK.out _ _ trivial (fun hHeld => ?_)
                      clear hK K
                      refine norm_ (a' := ?_) ?_ ?_
                      rotate_left
                      · show Act.put _ (some 130) _ = _
                        simp only [Act.put, List.setIfInBounds_toArray, List.set_cons_zero, List.set_cons_succ, i64_w, i32_w]
                        rfl
                      exact norm_ (by simp only [putAll, Act.put, List.setIfInBounds_toArray, List.set_cons_zero, List.set_cons_succ]) (hCont (Value.slice (some ⟨(wc.heap.size + 1), 0, none⟩) 0 0, v1, Value.slice (some ⟨wc.heap.size, 0, none⟩) 1 1) _ ⟨HR4.out, HA4.out, HB4.out⟩)
                  rintro ⟨v6a, v6b, v6c⟩ w6 ⟨hR6, hA6, hB6⟩
                  dsimp only at hR6 hA6
                  obtain ⟨A6, c6, rfl, hc6, hC6⟩ := Kd.R_reads hA6
                  have HR6 := Aside0.mk hR6
                  have HC6 := Aside0.mk hC6
                  have HB6 := Aside0.mk hB6
                  clear hR6 hA6 hB6 hC6
                  have hHeld : True := trivial
                  refine norm_ (a' := ?_) ?_ ?_
                  rotate_left
                  · simp only [putAll, Act.put, List.setIfInBounds_toArray, List.set_cons_zero, List.set_cons_succ]
                    rfl
                  refine one_ (i := 7) (N := some 133) #[true, true, true, true, true, true, true, true, true, true, true, false, false] rfl rfl (by kernel_rfl) (by decide) (fun K hK => ?_)
                  refine Kd.R_append_rows_step (Kd.int .u64) (w0 := wc) wc.heap.size (by rfl) (.tmp 130) (.tmp 132) 54 43 (.int .u64 0) 8 rfl Tryz.underlying54 infoU rfl (by decide) (by omega) _ ([] ++ (acc1.map (·.1)).take k) [a1] _ _ _ (fun _ => True) (fun _ => False) rfl rfl ?aO ?aR (fun _ _ h => h) (fun _ h => h.elim) ?aF ?aB ?aS ?aL ?_
                  case aO => exact HR6.out
                  case aR => exact HC6.out
                  case aF => exact fun _ _ => trivial
                  case aB => exact HB6.out
                  case aS => exact (HB6.out : Below wc.heap.size wc _).size
                  case aL => exact szI1 hk HL7.out
                  intro v7 w7 hR7 hB7 hg7 hat7
                  have HR7 := Aside0.mk hR7
                  have HB7 := Aside0.mk hB7
                  have HC7 := Aside0.mk (Kd.C_below DD.out hB7)
                  clear hR7 hB7 hg7 hat7
                  refine hK.out _ _ trivial (fun hHeld => ?_)
                  clear hK K
                  refine norm_ (a' := ?_) ?_ ?_
                  rotate_left
                  · show Act.put _ (some 133) _ = _
                    simp only [Act.put, List.setIfInBounds_toArray, List.set_cons_zero, List.set_cons_succ, i64_w, i32_w]
                    rfl
                  refine one_ (i := 11) (N := some 137) #[true, true, true, true, true, true, true, true, true, true, true, true, false] rfl rfl (by kernel_rfl) (by decide) (fun K hK => ?_)
                  refine Kd.R_append_rows_step (Kd.int .u64) (w0 := wc) wc.heap.size (by rfl) (.tmp 133) (.tmp 136) 54 43 (.int .u64 0) 8 rfl Tryz.underlying54 infoU rfl (by decide) (by omega) _ ([] ++ (acc1.map (·.1)).take k ++ [a1]) ((acc1.map (·.1)).drop k) _ _ _ (fun _ => True) (fun _ => False) rfl rfl ?aO ?aR (fun _ _ h => h) (fun _ h => h.elim) ?aF ?aB ?aS ?aL ?_
                  case aO => exact HR7.out
                  case aR => exact (by have h := HC7.out; rw [List.length_drop, List.length_map] at h; exact h)
                  case aF => exact fun _ _ => trivial
                  case aB => exact HB7.out
                  case aS => exact (HB7.out : Below wc.heap.size wc _).size
                  case aL => exact szI2 hk HL7.out
                  intro v8 w8 hR8 hB8 hg8 hat8
                  have HR8 := Aside0.mk hR8
                  have HB8 := Aside0.mk hB8
                  clear hR8 hB8 hg8 hat8 q1 q2
                  refine hK.out _ _ trivial (fun hHeld => ?_)
                  clear hK K
                  refine norm_ (a' := ?_) ?_ ?_
                  rotate_left
                  · show Act.put _ (some 137) _ = _
                    simp only [Act.put, List.setIfInBounds_toArray, List.set_cons_zero, List.set_cons_succ, i64_w, i32_w]
                    rfl
                  refine pure_ (i := 12) (N := some 7) (v := ?_) (a' := ?_) #[true, true, true, true, true, true, true, true, true, true, true, true, true] rfl rfl (by kernel_rfl) (fun _ _ _ h => h) (Or.inl ⟨by rfl, ?_⟩) ?_ ?_
                  rotate_left
                  · intro w'
                    go_simp
                    with_reducible rfl
                  rotate_left
                  · simp only [Act.put, List.setIfInBounds_toArray, List.set_cons_zero, List.set_cons_succ, i64_w, i32_w]
                    rfl
                  refine done_ (by kernel_rfl) ?_
                  go_wp2
                  go_meet
                  refine ⟨?_, HB8.out⟩
                  have h := RowU.of_own HR8.out
                  rw [List.nil_append, List.append_assoc, List.singleton_append] at h
                  rw [insert_at (r := (a1, b1)) hk HLT.out HGE.out, List.map_append, List.map_take, List.map_cons, List.map_drop]
                  exact h
                case rest =>
                  obtain ⟨r7, hbc⟩ := hcut
                  have R7 := Aside0.mk r7
                  have HBC := Aside0.mk hbc
                  have C8 := Aside0.mk (Kd.C_below C8.out hbc)
                  clear r7 hbc
                  go_upto_region 30 with fail
                  have DT := Aside0.mk (Kd.C_take C8.out (m := k) (by rw [List.length_map]; exact hk))
                  have DD := Kd.C_drop C8.out (m := k) (c := c8) (by rw [List.length_map]; exact hk) hc8
                  obtain ⟨Ad, hAd⟩ : ∃ A, A = (if c8 = k then A8 else A8.map (·.add (k * (Kd.int .u64).sz))) := ⟨_, rfl⟩
                  rw [← hAd] at DD
                  have DD := Aside0.mk DD
                  obtain ⟨iU, hiU, hiU0, hiU1, hiU2⟩ := info_parts infoU
                  have hc8' : acc1.length ≤ c8 := by rw [List.length_map] at hc8; exact hc8
                  have q1 := cut_to (P := Tryz.prog) 54 43 .i64 Tryz.underlying54 hiU A8 acc1.length c8 (k : Int) (by omega) (by omega) hc8'
                  have q2 := cut_from (P := Tryz.prog) 54 43 .i64 Tryz.underlying54 hiU 1 hiU1 A8 acc1.length c8 (k : Int) (by omega) (by omega)
                  rw [Int.toNat_natCast] at q1 q2
                  rw [show (if c8 = k then A8 else A8.map (·.add (k * 1))) = Ad from hAd.symm] at q2
                  clear hiU hiU0 hiU1 hiU2 hAd
                  refine start_ (n := 13) (S := fun w' => True) (ds := []) #[false, false, false, false, false, false, false, false, false, false, false, false, false] (by kernel_rfl) rfl rfl trivial (fun hHeld => ?_)
                  refine pure_ (i := 1) (N := some 139) (v := ?_) (a' := ?_) #[false, true, false, false, false, false, false, false, false, false, false, false, false] rfl rfl (by kernel_rfl) (fun _ _ _ h => h) (Or.inl ⟨by rfl, ?_⟩) ?_ ?_
                  rotate_left
                  · intro w'
                    go_simp
                    with_reducible rfl
                  rotate_left
                  · simp only [Act.put, List.setIfInBounds_toArray, List.set_cons_zero, List.set_cons_succ, i64_w, i32_w]
                    rfl
                  refine pure_ (i := 2) (N := some 140) (v := ?_) (a' := ?_) #[false, true, true, false, false, false, false, false, false, false, false, false, false] rfl rfl (by kernel_rfl) (fun _ _ _ h => h) (Or.inl ⟨by rfl, ?_⟩) ?_ ?_
                  rotate_left
                  · intro w'
                    go_simp
                    with_reducible rfl
                  rotate_left
                  · simp only [Act.put, List.setIfInBounds_toArray, List.set_cons_zero, List.set_cons_succ, i64_w, i32_w]
                    rfl
                  refine pure_ (i := 3) (N := some 141) (v := ?_) (a' := ?_) #[false, true, true, true, false, false, false, false, false, false, false, false, false] rfl rfl (by kernel_rfl) (fun _ _ _ h => h) (Or.inl ⟨by rfl, ?_⟩) ?_ ?_
                  rotate_left
                  · intro w'
                    go_simp
                    with_reducible rfl
                  rotate_left
                  · simp only [Act.put, List.setIfInBounds_toArray, List.set_cons_zero, List.set_cons_succ, i64_w, i32_w]
                    rfl
                  refine pure_ (i := 5) (N := some 143) (v := ?_) (a' := ?_) #[false, true, true, true, false, true, false, false, false, false, false, false, false] rfl rfl (by kernel_rfl) (fun _ _ _ h => h) (Or.inl ⟨by rfl, ?_⟩) ?_ ?_
                  rotate_left
                  · intro w'
                    go_simp
                    with_reducible rfl
                  rotate_left
                  · simp only [Act.put, List.setIfInBounds_toArray, List.set_cons_zero, List.set_cons_succ, i64_w, i32_w]
                    rfl
                  refine pure_ (i := 8) (N := some 146) (v := ?_) (a' := ?_) #[false, true, true, true, false, true, false, false, true, false, false, false, false] rfl rfl (by kernel_rfl) (fun _ _ _ h => h) (Or.inl ⟨by rfl, ?_⟩) ?_ ?_
                  rotate_left
                  · intro w'
                    go_simp
                    with_reducible rfl
                  rotate_left
                  · simp only [Act.put, List.setIfInBounds_toArray, List.set_cons_zero, List.set_cons_succ, i64_w, i32_w]
                    rfl
                  refine pure_ (i := 9) (N := some 147) (v := ?_) (a' := ?_) #[false, true, true, true, false, true, false, false, true, true, false, false, false] rfl rfl (by kernel_rfl) (fun _ _ _ h => h) (Or.inl ⟨by rfl, ?_⟩) ?_ ?_
                  rotate_left
                  · intro w'
                    go_simp
                    with_reducible rfl
                  rotate_left
                  · simp only [Act.put, List.setIfInBounds_toArray, List.set_cons_zero, List.set_cons_succ, i64_w, i32_w]
                    rfl
                  refine pure_ (i := 10) (N := some 148) (v := ?_) (a' := ?_) #[false, true, true, true, false, true, false, false, true, true, true, false, false] rfl rfl (by kernel_rfl) (fun _ _ _ h => h) (Or.inl ⟨by rfl, ?_⟩) ?_ ?_
                  rotate_left
                  · intro w'
                    go_simp
                    with_reducible rfl
                  rotate_left
                  · simp only [Act.put, List.setIfInBounds_toArray, List.set_cons_zero, List.set_cons_succ, i64_w, i32_w]
                    rfl
                  refine join_ (σ := Value × Value × Value) 3 #[true, true, true, true, true, true, true, false, true, true, true, false, false] (fun s => [(138, s.1), (142, s.2.1), (144, s.2.2)]) (fun s w' => Kd.R (Kd.int .u64) 43 w' wc.heap.size (fun _ => True) s.2.1 ([] ++ (acc1.map (·.2)).take k) ∧ Kd.R (Kd.int .u64) 43 w' wc.heap.size (fun _ => True) s.2.2 [b1] ∧ Below wc.heap.size wc w') ?_ ?_
                  rotate_left
                  · intro hCont
                    refine two_ (i := 0) (j := 6) (Ni := some 138) (Nj := some 144) #[true, true, true, true, false, true, false, false, true, true, true, false, false] #[false, true, true, true, false, true, true, false, true, true, true, false, false] rfl rfl rfl rfl (by kernel_rfl) (by decide) (by decide) (fun K hK => ?_) (fun K hK => ?_)
                    · skip
                      refine value_ (w1 := ?_) (v := ?_) (by rfl) rfl ?_ ?_
                      rotate_left 2
                      · go_simp
                        constructor
                        · rfl
                        · rfl
                      refine hK.out _ _ trivial (fun hHeld => ?_)
                      clear hK K
                      refine norm_ (a' := ?_) ?_ ?_
                      rotate_left
                      · show Act.put _ (some 138) _ = _
                        simp only [Act.put, List.setIfInBounds_toArray, List.set_cons_zero, List.set_cons_succ, i64_w, i32_w]
                        rfl
                      refine two_ (i := 4) (j := 6) (Ni := some 142) (Nj := some 144) #[true, true, true, true, true, true, false, false, true, true, true, false, false] #[true, true, true, true, false, true, true, false, true, true, true, false, false] rfl rfl rfl rfl (by kernel_rfl) (by decide) (by decide) (fun K hK => ?_) (fun K hK => ?_)
                      · skip
                        refine Kd.R_append_rows_step (Kd.int .u64) (w0 := wc) wc.heap.size (by rfl) (.tmp 138) (.tmp 141) 54 43 (.int .u64 0) 8 rfl Tryz.underlying54 infoU rfl (by decide) (by omega) _ [] ((acc1.map (·.2)).take k) _ _ _ (fun _ => True) (fun _ => False) rfl rfl ?aO ?aR (fun _ _ h => h) (fun _ h => h.elim) ?aF ?aB ?aS ?aL ?_
                        case aO => exact made0 wc.drew wc.heap.size wc.heap.size rfl (Nat.le_refl _)
                        case aR => exact (by have h := Kd.C_alloc (Kd.C_drew DT.out) (.cells #[] 43); rw [List.length_take, List.length_map, Nat.min_eq_left hk] at h; exact h)
                        case aF => exact fun _ _ => trivial
                        case aB => exact (Below.alloc (Below.refl wc.heap.size wc).drew ((Below.refl wc.heap.size wc).drew : Below wc.heap.size wc _).size (.cells #[] 43))
                        case aS => exact ((Below.alloc (Below.refl wc.heap.size wc).drew ((Below.refl wc.heap.size wc).drew : Below wc.heap.size wc _).size (.cells #[] 43)) : Below wc.heap.size wc _).size
                        case aL => exact szI0 hk HL7.out
                        intro v1 w4 hR4 hB4 hg4 hat4
                        have HR4 := Aside0.mk hR4
                        have HB4 := Aside0.mk hB4
                        clear hR4 hB4 hg4 hat4
                        refine hK.out _ _ trivial (fun hHeld => ?_)
                        clear hK K
                        refine norm_ (a' := ?_) ?_ ?_
                        rotate_left
                        · show Act.put _ (some 142) _ = _
                          simp only [Act.put, List.setIfInBounds_toArray, List.set_cons_zero, List.set_cons_succ, i64_w, i32_w]
                          rfl
                        refine one_ (i := 6) (N := some 144) #[true, true, true, true, true, true, true, false, true, true, true, false, false] rfl rfl (by kernel_rfl) (by decide) (fun K hK => ?_)
                        refine value_ (w1 := ?_) (v := ?_) (by rfl) rfl ?_ ?_
                        rotate_left 2
                        · go_simp
                          constructor
                          · rfl
                          · rfl
                        refine hK.out _ _ trivial (fun hHeld => ?_)
                        clear hK K
                        refine norm_ (a' := ?_) ?_ ?_
                        rotate_left
                        · show Act.put _ (some 144) _ = _
                          simp only [Act.put, List.setIfInBounds_toArray, List.set_cons_zero, List.set_cons_succ, i64_w, i32_w]
                          rfl
                        exact norm_ (by simp only [putAll, Act.put, List.setIfInBounds_toArray, List.set_cons_zero, List.set_cons_succ]) (hCont (Value.slice (some ⟨wc.heap.size, 0, none⟩) 0 0, v1, Value.slice (some ⟨w4.heap.size, 0, none⟩) 1 1) _ ⟨Kd.R_alloc HR4.out _, made1 w4 wc.heap.size w4.heap.size rfl HB4.out.size b1, Below.alloc HB4.out HB4.out.size _⟩)
                      · skip
                        refine value_ (w1 := ?_) (v := ?_) (by rfl) rfl ?_ ?_
                        rotate_left 2
                        · go_simp
                          constructor
                          · rfl
                          · rfl
                        refine hK.out _ _ trivial (fun hHeld => ?_)
                        clear hK K
                        refine norm_ (a' := ?_) ?_ ?_
                        rotate_left
                        · show Act.put _ (some 144) _ = _
                          simp only [Act.put, List.setIfInBounds_toArray, List.set_cons_zero, List.set_cons_succ, i64_w, i32_w]
                          rfl
                        refine one_ (i := 4) (N := some 142) #[true, true, true, true, true, true, true, false, true, true, true, false, false] rfl rfl (by kernel_rfl) (by decide) (fun K hK => ?_)
                        refine Kd.R_append_rows_step (Kd.int .u64) (w0 := wc) wc.heap.size (by rfl) (.tmp 138) (.tmp 141) 54 43 (.int .u64 0) 8 rfl Tryz.underlying54 infoU rfl (by decide) (by omega) _ [] ((acc1.map (·.2)).take k) _ _ _ (fun _ => True) (fun _ => False) rfl rfl ?aO ?aR (fun _ _ h => h) (fun _ h => h.elim) ?aF ?aB ?aS ?aL ?_
                        case aO => exact Kd.R_alloc (made0 wc.drew wc.heap.size wc.heap.size rfl (Nat.le_refl _)) _
                        case aR => exact (by have h := Kd.C_alloc (Kd.C_alloc (Kd.C_drew DT.out) (.cells #[] 43)) (.cells #[.int .u64 b1] 43); rw [List.length_take, List.length_map, Nat.min_eq_left hk] at h; exact h)
                        case aF => exact fun _ _ => trivial
                        case aB => exact (Below.alloc (Below.alloc (Below.refl wc.heap.size wc).drew ((Below.refl wc.heap.size wc).drew : Below wc.heap.size wc _).size (.cells #[] 43)) ((Below.alloc (Below.refl wc.heap.size wc).drew ((Below.refl wc.heap.size wc).drew : Below wc.heap.size wc _).size (.cells #[] 43)) : Below wc.heap.size wc _).size (.cells #[.int .u64 b1] 43))
                        case aS => exact ((Below.alloc (Below.alloc (Below.refl wc.heap.size wc).drew ((Below.refl wc.heap.size wc).drew : Below wc.heap.size wc _).size (.cells #[] 43)) ((Below.alloc (Below.refl wc.heap.size wc).drew ((Below.refl wc.heap.size wc).drew : Below wc.heap.size wc _).size (.cells #[] 43)) : Below wc.heap.size wc _).size (.cells #[.int .u64 b1] 43)) : Below wc.heap.size wc _).size
                        case aL => exact szI0 hk HL7.out
                        intro v1 w4 hR4 hB4 hg4 hat4
                        have HR4 := Aside0.mk hR4
                        have HB4 := Aside0.mk hB4
                        have HA4 := Aside0.mk (Kd.R_grown1 (made1 (wc.drew.alloc (.cells #[] 43)) wc.heap.size (wc.heap.size + 1) (alsz wc _) (szd wc _) b1) rfl hg4 (own_ne _ 0 0 1 1))
                        clear hR4 hB4 hg4 hat4
                        refine hK.out _ _ trivial (fun hHeld => ?_)
                        clear hK K
                        refine norm_ (a' := ?_) ?_ ?_
                        rotate_left
                        · show Act.put _ (some 142) _ = _
                          simp only [Act.put, List.setIfInBounds_toArray, List.set_cons_zero, List.set_cons_succ, i64_w, i32_w]
                          rfl
                        exact norm_ (by simp only [putAll, Act.put, List.setIfInBounds_toArray, List.set_cons_zero, List.set_cons_succ]) (hCont (Value.slice (some ⟨wc.heap.size, 0, none⟩) 0 0, v1, Value.slice (some ⟨(wc.heap.size + 1), 0, none⟩) 1 1) _ ⟨HR4.out, HA4.out, HB4.out⟩)
                    · skip
                      refine value_ (w1 := ?_) (v := ?_) (by rfl) rfl ?_ ?_
                      rotate_left 2
                      · go_simp
                        constructor
                        · rfl
                        · rfl
                      refine hK.out _ _ trivial (fun hHeld => ?_)
                      clear hK K
                      refine norm_ (a' := ?_) ?_ ?_
                      rotate_left
                      · show Act.put _ (some 144) _ = _
                        simp only [Act.put, List.setIfInBounds_toArray, List.set_cons_zero, List.set_cons_succ, i64_w, i32_w]
                        rfl
                      refine one_ (i := 0) (N := some 138) #[true, true, true, true, false, true, true, false, true, true, true, false, false] rfl rfl (by kernel_rfl) (by decide) (fun K hK => ?_)
                      refine value_ (w1 := ?_) (v := ?_) (by rfl) rfl ?_ ?_
                      rotate_left 2
                      · go_simp
                        constructor
                        · rfl
                        · rfl
                      refine hK.out _ _ trivial (fun hHeld => ?_)
                      clear hK K
                      refine norm_ (a' := ?_) ?_ ?_
                      rotate_left
                      · show Act.put _ (some 138) _ = _
                        simp only [Act.put, List.setIfInBounds_toArray, List.set_cons_zero, List.set_cons_succ, i64_w, i32_w]
                        rfl
                      refine one_ (i := 4) (N := some 142) #[true, true, true, true, true, true, true, false, true, true, true, false, false] rfl rfl (by kernel_rfl) (by decide) (fun K hK => ?_)
                      refine Kd.R_append_rows_step (Kd.int .u64) (w0 := wc) wc.heap.size (by rfl) (.tmp 138) (.tmp 141) 54 43 (.int .u64 0) 8 rfl Tryz.underlying54 infoU rfl (by decide) (by omega) _ [] ((acc1.map (·.2)).take k) _ _ _ (fun _ => True) (fun _ => False) rfl rfl ?aO ?aR (fun _ _ h => h) (fun _ h => h.elim) ?aF ?aB ?aS ?aL ?_
                      case aO => exact made0 (wc.drew.alloc (.cells #[.int .u64 b1] 43)) wc.heap.size (wc.heap.size + 1) (alsz wc _) (szd wc _)
                      case aR => exact (by have h := Kd.C_alloc (Kd.C_alloc (Kd.C_drew DT.out) (.cells #[.int .u64 b1] 43)) (.cells #[] 43); rw [List.length_take, List.length_map, Nat.min_eq_left hk] at h; exact h)
                      case aF => exact fun _ _ => trivial
                      case aB => exact (Below.alloc (Below.alloc (Below.refl wc.heap.size wc).drew ((Below.refl wc.heap.size wc).drew : Below wc.heap.size wc _).size (.cells #[.int .u64 b1] 43)) ((Below.alloc (Below.refl wc.heap.size wc).drew ((Below.refl wc.heap.size wc).drew : Below wc.heap.size wc _).size (.cells #[.int .u64 b1] 43)) : Below wc.heap.size wc _).size (.cells #[] 43))
                      case aS => exact ((Below.alloc (Below.alloc (Below.refl wc.heap.size wc).drew ((Below.refl wc.heap.size wc).drew : Below wc.heap.size wc _).size (.cells #[.int .u64 b1] 43)) ((Below.alloc (Below.refl wc.heap.size wc).drew ((Below.refl wc.heap.size wc).drew : Below wc.heap.size wc _).size (.cells #[.int .u64 b1] 43)) : Below wc.heap.size wc _).size (.cells #[] 43)) : Below wc.heap.size wc _).size
                      case aL => exact szI0 hk HL7.out
                      intro v1 w4 hR4 hB4 hg4 hat4
                      have HR4 := Aside0.mk hR4
                      have HB4 := Aside0.mk hB4
                      have HA4 := Aside0.mk (Kd.R_grown1 (Kd.R_alloc (made1 wc.drew wc.heap.size wc.heap.size rfl (Nat.le_refl _) b1) (.cells #[] 43)) rfl hg4 (own_ne _ 1 1 0 0).symm)
                      clear hR4 hB4 hg4 hat4
                      refine hK.out _ _ trivial (fun hHeld => ?_)
                      clear hK K
                      refine norm_ (a' := ?_) ?_ ?_
                      rotate_left
                      · show Act.put _ (some 142) _ = _
                        simp only [Act.put, List.setIfInBounds_toArray, List.set_cons_zero, List.set_cons_succ, i64_w, i32_w]
                        rfl
                      exact norm_ (by simp only [putAll, Act.put, List.setIfInBounds_toArray, List.set_cons_zero, List.set_cons_succ]) (hCont (Value.slice (some ⟨(wc.heap.size + 1), 0, none⟩) 0 0, v1, Value.slice (some ⟨wc.heap.size, 0, none⟩) 1 1) _ ⟨HR4.out, HA4.out, HB4.out⟩)
                  rintro ⟨v6a, v6b, v6c⟩ w6 ⟨hR6, hA6, hB6⟩
                  dsimp only at hR6 hA6
                  obtain ⟨A6, c6, rfl, hc6, hC6⟩ := Kd.R_reads hA6
                  have HR6 := Aside0.mk hR6
                  have HC6 := Aside0.mk hC6
                  have HB6 := Aside0.mk hB6
                  clear hR6 hA6 hB6 hC6
                  have hHeld : True := trivial
                  refine norm_ (a' := ?_) ?_ ?_
                  rotate_left
                  · simp only [putAll, Act.put, List.setIfInBounds_toArray, List.set_cons_zero, List.set_cons_succ]
                    rfl
                  refine one_ (i := 7) (N := some 145) #[true, true, true, true, true, true, true, true, true, true, true, false, false] rfl rfl (by kernel_rfl) (by decide) (fun K hK => ?_)
                  refine Kd.R_append_rows_step (Kd.int .u64) (w0 := wc) wc.heap.size (by rfl) (.tmp 142) (.tmp 144) 54 43 (.int .u64 0) 8 rfl Tryz.underlying54 infoU rfl (by decide) (by omega) _ ([] ++ (acc1.map (·.2)).take k) [b1] _ _ _ (fun _ => True) (fun _ => False) rfl rfl ?aO ?aR (fun _ _ h => h) (fun _ h => h.elim) ?aF ?aB ?aS ?aL ?_
                  case aO => exact HR6.out
                  case aR => exact HC6.out
                  case aF => exact fun _ _ => trivial
                  case aB => exact HB6.out
                  case aS => exact (HB6.out : Below wc.heap.size wc _).size
                  case aL => exact szI1 hk HL7.out
                  intro v7 w7 hR7 hB7 hg7 hat7
                  have HR7 := Aside0.mk hR7
                  have HB7 := Aside0.mk hB7
                  have HC7 := Aside0.mk (Kd.C_below DD.out hB7)
                  clear hR7 hB7 hg7 hat7
                  refine hK.out _ _ trivial (fun hHeld => ?_)
                  clear hK K
                  refine norm_ (a' := ?_) ?_ ?_
                  rotate_left
                  · show Act.put _ (some 145) _ = _
                    simp only [Act.put, List.setIfInBounds_toArray, List.set_cons_zero, List.set_cons_succ, i64_w, i32_w]
                    rfl
                  refine one_ (i := 11) (N := some 149) #[true, true, true, true, true, true, true, true, true, true, true, true, false] rfl rfl (by kernel_rfl) (by decide) (fun K hK => ?_)
                  refine Kd.R_append_rows_step (Kd.int .u64) (w0 := wc) wc.heap.size (by rfl) (.tmp 145) (.tmp 148) 54 43 (.int .u64 0) 8 rfl Tryz.underlying54 infoU rfl (by decide) (by omega) _ ([] ++ (acc1.map (·.2)).take k ++ [b1]) ((acc1.map (·.2)).drop k) _ _ _ (fun _ => True) (fun _ => False) rfl rfl ?aO ?aR (fun _ _ h => h) (fun _ h => h.elim) ?aF ?aB ?aS ?aL ?_
                  case aO => exact HR7.out
                  case aR => exact (by have h := HC7.out; rw [List.length_drop, List.length_map] at h; exact h)
                  case aF => exact fun _ _ => trivial
                  case aB => exact HB7.out
                  case aS => exact (HB7.out : Below wc.heap.size wc _).size
                  case aL => exact szI2 hk HL7.out
                  intro v8 w8 hR8 hB8 hg8 hat8
                  have HR8 := Aside0.mk hR8
                  have HB8 := Aside0.mk hB8
                  clear hR8 hB8 hg8 hat8 q1 q2
                  refine hK.out _ _ trivial (fun hHeld => ?_)
                  clear hK K
                  refine norm_ (a' := ?_) ?_ ?_
                  rotate_left
                  · show Act.put _ (some 149) _ = _
                    simp only [Act.put, List.setIfInBounds_toArray, List.set_cons_zero, List.set_cons_succ, i64_w, i32_w]
                    rfl
                  refine pure_ (i := 12) (N := some 8) (v := ?_) (a' := ?_) #[true, true, true, true, true, true, true, true, true, true, true, true, true] rfl rfl (by kernel_rfl) (fun _ _ _ h => h) (Or.inl ⟨by rfl, ?_⟩) ?_ ?_
                  rotate_left
                  · intro w'
                    go_simp
                    with_reducible rfl
                  rotate_left
                  · simp only [Act.put, List.setIfInBounds_toArray, List.set_cons_zero, List.set_cons_succ, i64_w, i32_w]
                    rfl
                  refine done_ (by kernel_rfl) ?_
                  have R8 := RowU.of_own HR8.out
                  rw [List.nil_append, List.append_assoc, List.singleton_append] at R8
                  have R8 : RowU w8 v8 ((insertR (a1, b1) acc1).map (·.2)) := by
                    rw [insert_at (r := (a1, b1)) hk HLT.out HGE.out, List.map_append, List.map_take, List.map_cons, List.map_drop]
                    exact R8
                  have R8 := Aside0.mk R8
                  have R7 := Aside0.mk (R7.out.below HB8.out)
                  go_wp2_with fail
                  have KK := AccOk_insert HO1.out ha0 hab hb1 (HAG.out rfl)
                  refine ⟨⟨j + 1, insertR (a1, b1) acc1, vk j, by rw [HN.out]; exact hlt', R7.out, R8.out, below_step (below_step (below_step B1.out BW.out) HBC.out) HB8.out, ?_, KK.1, Nat.le_trans (Nat.le_of_eq KK.2) (Nat.succ_le_succ (Nat.le_trans HLE.out HAL.out))⟩, meas hlt'⟩
                  rw [HS.out]
                  exact join_step (HN.out.symm ▸ hlt') EX.out EF.out HQ.out hb32 (HABS.out.trans (absorbF_none (HAG.out rfl)))
            | true =>
              go_wp2_with fail
              obtain ⟨A7', c7', e7', _, _⟩ := I7.out.len
              have HLEN := Aside0.mk (show lenOf u7 = acc1.length by rw [e7', List.length_map]; rfl)
              clear e7'
              obtain ⟨W2, hW2⟩ : ∃ W2 : World, W2 = wr := ⟨_, rfl⟩
              have HW2 := Aside0.mk hW2
              clear hW2
              obtain ⟨v7, e7⟩ : ∃ v, v = u7 := ⟨_, rfl⟩
              obtain ⟨v8, e8⟩ : ∃ v, v = u8 := ⟨_, rfl⟩
              rw [← e7] at I7
              rw [← e8] at I8
              have V7 := Aside0.mk e7
              have V8 := Aside0.mk e8
              clear e7 e8
              go_loopw [14, 7, 8, 11, 12, 13] (fun s14 s7 s8 s11 s12 s13 W => ∃ i : Nat, s14 = .int .i64 i ∧ i ≤ acc1.length ∧ (∀ r ∈ acc1.take i, touch a1 b1 r = false) ∧ W = W2 ∧ s7 = v7 ∧ s8 = v8 ∧ s11 = .int .u64 a1 ∧ s12 = .int .u64 b1 ∧ s13 = .bool false) (fun s14 s7 s8 s11 s12 s13 _ => acc1.length - (intOf s14).toNat)
              case atStart => exact ⟨0, rfl, Nat.zero_le _, fun r hr => absurd hr (by simp), HW2.out.symm, V7.out.symm, V8.out.symm, rfl, rfl, rfl⟩
              case round =>
                clear V7 V8
                obtain ⟨i, rfl, hi, hnt, hwr, rfl, rfl, rfl, rfl, rfl⟩ := hrel
                have HNT := Aside0.mk hnt
                clear hnt
                subst hwr
                rw [← HW2.out] at I7 I8 BW
                by_cases hil : i < acc1.length
                · have hilz : (i : Int) < (acc1.length : Int) := by omega
                  obtain ⟨g7, c7, e7, l7, k7, hc7, C7⟩ := I7.out.cell (i := i) (by rw [List.length_map]; exact hil)
                  obtain ⟨g8, c8, e8, l8, k8, hc8, C8⟩ := I8.out.cell (i := i) (by rw [List.length_map]; exact hil)
                  have C7 := Aside0.mk C7
                  have C8 := Aside0.mk C8
                  rw [List.length_map] at e7 e8 hc7 hc8
                  subst e7
                  subst e8
                  rw [List.getElem_map] at k7 k8
                  obtain ⟨r, er⟩ : ∃ r, r = acc1[i] := ⟨_, rfl⟩
                  rw [← er] at k7 k8
                  have hrb := HO1.out.2 r (by rw [er]; exact List.getElem_mem _)
                  have ER := Aside0.mk er
                  clear er
                  by_cases ht : r.1 ≤ b1 + 1 ∧ a1 ≤ r.2 + 1
                  · obtain ⟨t1, t2⟩ := ht
                    go_upto_if 77 with fail
                    go_cut [11] (fun s W => s = .int .u64 (min a1 r.1) ∧ W = wr)
                    case first =>
                      by_cases hm : r.1 < a1
                      · have e : min a1 r.1 = r.1 := by omega
                        have E := Aside0.mk e
                        clear e
                        go_wp2_with fail
                        go_meet
                        exact ⟨by rw [E.out], rfl⟩
                      · have e : min a1 r.1 = a1 := by omega
                        have E := Aside0.mk e
                        clear e
                        go_wp2_with fail
                        go_meet
                        exact ⟨by rw [E.out], rfl⟩
                    case rest =>
                      obtain ⟨rfl, rfl⟩ := hcut
                      obtain ⟨a2, ea2⟩ : ∃ a, a = min a1 r.1 := ⟨_, rfl⟩
                      have ra2 : 0 ≤ a2 ∧ a2 ≤ a1 ∧ a2 ≤ r.1 := by omega
                      rw [← ea2]
                      have EA2 := Aside0.mk ea2
                      clear ea2
                      go_upto_if 87 with fail
                      go_cut [12] (fun s W => s = .int .u64 (max b1 r.2) ∧ W = wc)
                      case first =>
                        by_cases hm : r.2 > b1
                        · have e : max b1 r.2 = r.2 := by omega
                          have E := Aside0.mk e
                          clear e
                          go_wp2_with fail
                          go_meet
                          exact ⟨by rw [E.out], rfl⟩
                        · have e : max b1 r.2 = b1 := by omega
                          have E := Aside0.mk e
                          clear e
                          go_wp2_with fail
                          go_meet
                          exact ⟨by rw [E.out], rfl⟩
                      case rest =>
                        obtain ⟨rfl, rfl⟩ := hcut
                        obtain ⟨b2, eb2⟩ : ∃ b, b = max b1 r.2 := ⟨_, rfl⟩
                        have rb2 : b1 ≤ b2 ∧ r.2 ≤ b2 ∧ b2 ≤ 4294967295 := by omega
                        rw [← eb2]
                        have EB2 := Aside0.mk eb2
                        clear eb2
                        go_upto_region 23 with fail
                        go_cut [7] (fun s W => RowU W s ((acc1.eraseIdx i).map (·.1)) ∧ Below wc.heap.size wc W)
                        case first =>
                          have R00 := Aside0.mk (fun W : World => (⟨fun _ _ => trivial, [], World.ownsRow_made W #[] 0 (Nat.le_refl _) (Nat.zero_le _) (by simp), Reps.none _ _⟩ : Kd.R (Kd.int .u64) 43 (W.alloc (.cells #[] 43)) W.heap.size (fun _ => True) (.slice (some ⟨W.heap.size, 0, none⟩) 0 0) []))
                          have DT := Aside0.mk (Kd.C_take C7.out (m := i) (by rw [List.length_map]; omega))
                          have DD := Kd.C_drop C7.out (m := i + 1) (c := c7) (by rw [List.length_map]; omega) (by rw [List.length_map]; omega)
                          obtain ⟨Ad, hAd⟩ : ∃ A, A = (if c7 = i + 1 then (some ⟨g7, 0, none⟩ : Option Addr) else (some ⟨g7, 0, none⟩ : Option Addr).map (·.add ((i + 1) * (Kd.int .u64).sz))) := ⟨_, rfl⟩
                          rw [← hAd] at DD
                          have DD := Aside0.mk DD
                          obtain ⟨iU, hiU, hiU0, hiU1, hiU2⟩ := info_parts infoU
                          have q1 := cut_to (P := Tryz.prog) 54 43 .i64 Tryz.underlying54 hiU (some ⟨g7, 0, none⟩) acc1.length c7 (i : Int) (by omega) (by omega) hc7
                          have q2 := cut_from (P := Tryz.prog) 54 43 .i64 Tryz.underlying54 hiU 1 hiU1 (some ⟨g7, 0, none⟩) acc1.length c7 ((i : Int) + 1) (by omega) (by omega)
                          rw [show ((i : Int) + 1).toNat = i + 1 by omega, show (if c7 = i + 1 then (some ⟨g7, 0, none⟩ : Option Addr) else (some ⟨g7, 0, none⟩ : Option Addr).map (·.add ((i + 1) * 1))) = Ad from hAd.symm] at q2
                          rw [Int.toNat_natCast] at q1
                          have hwi : wrap64 ((i : Int) + 1) = (i : Int) + 1 := wrap64_in _ (by have := HL7.out; omega)
                          clear hiU hiU0 hiU1 hiU2 hAd
                          refine start_ (n := 11) (S := fun w' => True) (ds := []) #[false, false, false, false, false, false, false, false, false, false, false] (by kernel_rfl) rfl rfl trivial (fun hHeld => ?_)
                          refine pure_ (i := 1) (N := some 93) (v := ?_) (a' := ?_) #[false, true, false, false, false, false, false, false, false, false, false] rfl rfl (by kernel_rfl) (fun _ _ _ h => h) (Or.inl ⟨by rfl, ?_⟩) ?_ ?_
                          rotate_left
                          · intro w'
                            go_simp
                            with_reducible rfl
                          rotate_left
                          · simp only [Act.put, List.setIfInBounds_toArray, List.set_cons_zero, List.set_cons_succ, i64_w, i32_w]
                            rfl
                          refine pure_ (i := 2) (N := some 94) (v := ?_) (a' := ?_) #[false, true, true, false, false, false, false, false, false, false, false] rfl rfl (by kernel_rfl) (fun _ _ _ h => h) (Or.inl ⟨by rfl, ?_⟩) ?_ ?_
                          rotate_left
                          · intro w'
                            go_simp
                            with_reducible rfl
                          rotate_left
                          · simp only [Act.put, List.setIfInBounds_toArray, List.set_cons_zero, List.set_cons_succ, i64_w, i32_w]
                            rfl
                          refine pure_ (i := 3) (N := some 95) (v := ?_) (a' := ?_) #[false, true, true, true, false, false, false, false, false, false, false] rfl rfl (by kernel_rfl) (fun _ _ _ h => h) (Or.inl ⟨by rfl, ?_⟩) ?_ ?_
                          rotate_left
                          · intro w'
                            go_simp
                            with_reducible rfl
                          rotate_left
                          · simp only [Act.put, List.setIfInBounds_toArray, List.set_cons_zero, List.set_cons_succ, i64_w, i32_w]
                            rfl
                          refine pure_ (i := 5) (N := some 97) (v := ?_) (a' := ?_) #[false, true, true, true, false, true, false, false, false, false, false] rfl rfl (by kernel_rfl) (fun _ _ _ h => h) (Or.inl ⟨by rfl, ?_⟩) ?_ ?_
                          rotate_left
                          · intro w'
                            go_simp
                            with_reducible rfl
                          rotate_left
                          · simp only [Act.put, List.setIfInBounds_toArray, List.set_cons_zero, List.set_cons_succ, i64_w, i32_w]
                            rfl
                          refine pure_ (i := 6) (N := some 98) (v := ?_) (a' := ?_) #[false, true, true, true, false, true, true, false, false, false, false] rfl rfl (by kernel_rfl) (fun _ _ _ h => h) (Or.inl ⟨by rfl, ?_⟩) ?_ ?_
                          rotate_left
                          · intro w'
                            go_simp
                            with_reducible rfl
                          rotate_left
                          · simp only [Act.put, List.setIfInBounds_toArray, List.set_cons_zero, List.set_cons_succ, i64_w, i32_w]
                            rfl
                          refine pure_ (i := 7) (N := some 99) (v := ?_) (a' := ?_) #[false, true, true, true, false, true, true, true, false, false, false] rfl rfl (by kernel_rfl) (fun _ _ _ h => h) (Or.inl ⟨by rfl, ?_⟩) ?_ ?_
                          rotate_left
                          · intro w'
                            go_simp
                            with_reducible rfl
                          rotate_left
                          · simp only [Act.put, List.setIfInBounds_toArray, List.set_cons_zero, List.set_cons_succ, i64_w, i32_w]
                            rfl
                          refine pure_ (i := 8) (N := some 100) (v := ?_) (a' := ?_) #[false, true, true, true, false, true, true, true, true, false, false] rfl rfl (by kernel_rfl) (fun _ _ _ h => h) (Or.inl ⟨by rfl, ?_⟩) ?_ ?_
                          rotate_left
                          · intro w'
                            go_simp
                            with_reducible rfl
                          rotate_left
                          · simp only [Act.put, List.setIfInBounds_toArray, List.set_cons_zero, List.set_cons_succ, i64_w, i32_w]
                            rfl
                          refine one_ (i := 0) (N := some 92) #[true, true, true, true, false, true, true, true, true, false, false] rfl rfl (by kernel_rfl) (by decide) (fun K hK => ?_)
                          refine value_ (w1 := ?_) (v := ?_) (by rfl) rfl ?_ ?_
                          rotate_left 2
                          · go_simp
                            constructor
                            · rfl
                            · rfl
                          refine hK.out _ _ trivial (fun hHeld => ?_)
                          clear hK K
                          refine norm_ (a' := ?_) ?_ ?_
                          rotate_left
                          · show Act.put _ (some 92) _ = _
                            simp only [Act.put, List.setIfInBounds_toArray, List.set_cons_zero, List.set_cons_succ, i64_w, i32_w]
                            rfl
                          refine one_ (i := 4) (N := some 96) #[true, true, true, true, true, true, true, true, true, false, false] rfl rfl (by kernel_rfl) (by decide) (fun K hK => ?_)
                          refine Kd.R_append_rows_step (Kd.int .u64) (w0 := wc) wc.heap.size (by rfl) (.tmp 92) (.tmp 95) 54 43 (.int .u64 0) 8 rfl Tryz.underlying54 infoU rfl (by decide) (by omega) _ [] ((acc1.map (·.1)).take i) _ _ _ (fun _ => True) (fun _ => False) rfl rfl ?aO ?aR (fun _ _ h => h) (fun _ h => h.elim) ?aF ?aB ?aS ?aL ?_
                          case aO => exact Kd.R_drew (R00.out wc)
                          case aR => exact (by have h := Kd.C_drew (Kd.C_alloc DT.out (.cells #[] 43)); rw [List.length_take, List.length_map, Nat.min_eq_left (by omega)] at h; exact h)
                          case aF => exact fun _ _ => trivial
                          case aB => exact (Below.alloc (Below.refl wc.heap.size wc) (Nat.le_refl _) (.cells #[] 43)).drew
                          case aS => exact ((Below.alloc (Below.refl wc.heap.size wc) (Nat.le_refl _) (.cells #[] 43)).drew : Below wc.heap.size wc _).size
                          case aL => exact szU0 (Nat.le_of_lt hil) HL7.out
                          intro v1 w4 hR4 hB4 hg4 hat4
                          have HR4 := Aside0.mk hR4
                          have HB4 := Aside0.mk hB4
                          have HC4 := Aside0.mk (Kd.C_below DD.out hB4)
                          clear hR4 hB4 hg4 hat4
                          refine hK.out _ _ trivial (fun hHeld => ?_)
                          clear hK K
                          refine norm_ (a' := ?_) ?_ ?_
                          rotate_left
                          · show Act.put _ (some 96) _ = _
                            simp only [Act.put, List.setIfInBounds_toArray, List.set_cons_zero, List.set_cons_succ, i64_w, i32_w]
                            rfl
                          refine one_ (i := 9) (N := some 101) #[true, true, true, true, true, true, true, true, true, true, false] rfl rfl (by kernel_rfl) (by decide) (fun K hK => ?_)
                          refine Kd.R_append_rows_step (Kd.int .u64) (w0 := wc) wc.heap.size (by rfl) (.tmp 96) (.tmp 100) 54 43 (.int .u64 0) 8 rfl Tryz.underlying54 infoU rfl (by decide) (by omega) _ ([] ++ (acc1.map (·.1)).take i) ((acc1.map (·.1)).drop (i + 1)) _ _ _ (fun _ => True) (fun _ => False) rfl rfl ?aO ?aR (fun _ _ h => h) (fun _ h => h.elim) ?aF ?aB ?aS ?aL ?_
                          case aO => exact HR4.out
                          case aR => exact (by have h := HC4.out; rw [List.length_drop, List.length_map] at h; exact h)
                          case aF => exact fun _ _ => trivial
                          case aB => exact HB4.out
                          case aS => exact (HB4.out : Below wc.heap.size wc _).size
                          case aL => exact szU1 hil HL7.out
                          intro v2 w5 hR5 hB5 hg5 hat5
                          have HR5 := Aside0.mk hR5
                          have HB5 := Aside0.mk hB5
                          clear hR5 hB5 hg5 hat5 hwi q1 q2
                          refine hK.out _ _ trivial (fun hHeld => ?_)
                          clear hK K
                          refine norm_ (a' := ?_) ?_ ?_
                          rotate_left
                          · show Act.put _ (some 101) _ = _
                            simp only [Act.put, List.setIfInBounds_toArray, List.set_cons_zero, List.set_cons_succ, i64_w, i32_w]
                            rfl
                          refine pure_ (i := 10) (N := some 7) (v := ?_) (a' := ?_) #[true, true, true, true, true, true, true, true, true, true, true] rfl rfl (by kernel_rfl) (fun _ _ _ h => h) (Or.inl ⟨by rfl, ?_⟩) ?_ ?_
                          rotate_left
                          · intro w'
                            go_simp
                            with_reducible rfl
                          rotate_left
                          · simp only [Act.put, List.setIfInBounds_toArray, List.set_cons_zero, List.set_cons_succ, i64_w, i32_w]
                            rfl
                          refine done_ (by kernel_rfl) ?_
                          go_wp2
                          go_meet
                          refine ⟨?_, HB5.out⟩
                          have h := RowU.of_own HR5.out
                          rw [List.nil_append, ← List.eraseIdx_eq_take_drop_succ, ← map_erase] at h
                          exact h
                        case rest =>
                          obtain ⟨r7, hbc⟩ := hcut
                          have R7 := Aside0.mk r7
                          have C8 := Aside0.mk (Kd.C_below C8.out hbc)
                          have HBC := Aside0.mk hbc
                          clear r7 hbc
                          go_upto_region 24 with fail
                          go_cut [8] (fun s W => RowU W s ((acc1.eraseIdx i).map (·.2)) ∧ RowU W u7 ((acc1.eraseIdx i).map (·.1)) ∧ Below wc.heap.size wc W)
                          case first =>
                            have R00 := Aside0.mk (fun W : World => (⟨fun _ _ => trivial, [], World.ownsRow_made W #[] 0 (Nat.le_refl _) (Nat.zero_le _) (by simp), Reps.none _ _⟩ : Kd.R (Kd.int .u64) 43 (W.alloc (.cells #[] 43)) W.heap.size (fun _ => True) (.slice (some ⟨W.heap.size, 0, none⟩) 0 0) []))
                            have DT := Aside0.mk (Kd.C_take C8.out (m := i) (by rw [List.length_map]; omega))
                            have DD := Kd.C_drop C8.out (m := i + 1) (c := c8) (by rw [List.length_map]; omega) (by rw [List.length_map]; omega)
                            obtain ⟨Ad, hAd⟩ : ∃ A, A = (if c8 = i + 1 then (some ⟨g8, 0, none⟩ : Option Addr) else (some ⟨g8, 0, none⟩ : Option Addr).map (·.add ((i + 1) * (Kd.int .u64).sz))) := ⟨_, rfl⟩
                            rw [← hAd] at DD
                            have DD := Aside0.mk DD
                            obtain ⟨iU, hiU, hiU0, hiU1, hiU2⟩ := info_parts infoU
                            have q1 := cut_to (P := Tryz.prog) 54 43 .i64 Tryz.underlying54 hiU (some ⟨g8, 0, none⟩) acc1.length c8 (i : Int) (by omega) (by omega) hc8
                            have q2 := cut_from (P := Tryz.prog) 54 43 .i64 Tryz.underlying54 hiU 1 hiU1 (some ⟨g8, 0, none⟩) acc1.length c8 ((i : Int) + 1) (by omega) (by omega)
                            rw [show ((i : Int) + 1).toNat = i + 1 by omega, show (if c8 = i + 1 then (some ⟨g8, 0, none⟩ : Option Addr) else (some ⟨g8, 0, none⟩ : Option Addr).map (·.add ((i + 1) * 1))) = Ad from hAd.symm] at q2
                            rw [Int.toNat_natCast] at q1
                            have hwi : wrap64 ((i : Int) + 1) = (i : Int) + 1 := wrap64_in _ (by have := HL7.out; omega)
                            clear hiU hiU0 hiU1 hiU2 hAd
                            refine start_ (n := 11) (S := fun w' => True) (ds := []) #[false, false, false, false, false, false, false, false, false, false, false] (by kernel_rfl) rfl rfl trivial (fun hHeld => ?_)
                            refine pure_ (i := 1) (N := some 103) (v := ?_) (a' := ?_) #[false, true, false, false, false, false, false, false, false, false, false] rfl rfl (by kernel_rfl) (fun _ _ _ h => h) (Or.inl ⟨by rfl, ?_⟩) ?_ ?_
                            rotate_left
                            · intro w'
                              go_simp
                              with_reducible rfl
                            rotate_left
                            · simp only [Act.put, List.setIfInBounds_toArray, List.set_cons_zero, List.set_cons_succ, i64_w, i32_w]
                              rfl
                            refine pure_ (i := 2) (N := some 104) (v := ?_) (a' := ?_) #[false, true, true, false, false, false, false, false, false, false, false] rfl rfl (by kernel_rfl) (fun _ _ _ h => h) (Or.inl ⟨by rfl, ?_⟩) ?_ ?_
                            rotate_left
                            · intro w'
                              go_simp
                              with_reducible rfl
                            rotate_left
                            · simp only [Act.put, List.setIfInBounds_toArray, List.set_cons_zero, List.set_cons_succ, i64_w, i32_w]
                              rfl
                            refine pure_ (i := 3) (N := some 105) (v := ?_) (a' := ?_) #[false, true, true, true, false, false, false, false, false, false, false] rfl rfl (by kernel_rfl) (fun _ _ _ h => h) (Or.inl ⟨by rfl, ?_⟩) ?_ ?_
                            rotate_left
                            · intro w'
                              go_simp
                              with_reducible rfl
                            rotate_left
                            · simp only [Act.put, List.setIfInBounds_toArray, List.set_cons_zero, List.set_cons_succ, i64_w, i32_w]
                              rfl
                            refine pure_ (i := 5) (N := some 107) (v := ?_) (a' := ?_) #[false, true, true, true, false, true, false, false, false, false, false] rfl rfl (by kernel_rfl) (fun _ _ _ h => h) (Or.inl ⟨by rfl, ?_⟩) ?_ ?_
                            rotate_left
                            · intro w'
                              go_simp
                              with_reducible rfl
                            rotate_left
                            · simp only [Act.put, List.setIfInBounds_toArray, List.set_cons_zero, List.set_cons_succ, i64_w, i32_w]
                              rfl
                            refine pure_ (i := 6) (N := some 108) (v := ?_) (a' := ?_) #[false, true, true, true, false, true, true, false, false, false, false] rfl rfl (by kernel_rfl) (fun _ _ _ h => h) (Or.inl ⟨by rfl, ?_⟩) ?_ ?_
                            rotate_left
                            · intro w'
                              go_simp
                              with_reducible rfl
                            rotate_left
                            · simp only [Act.put, List.setIfInBounds_toArray, List.set_cons_zero, List.set_cons_succ, i64_w, i32_w]
                              rfl
                            refine pure_ (i := 7) (N := some 109) (v := ?_) (a' := ?_) #[false, true, true, true, false, true, true, true, false, false, false] rfl rfl (by kernel_rfl) (fun _ _ _ h => h) (Or.inl ⟨by rfl, ?_⟩) ?_ ?_
                            rotate_left
                            · intro w'
                              go_simp
                              with_reducible rfl
                            rotate_left
                            · simp only [Act.put, List.setIfInBounds_toArray, List.set_cons_zero, List.set_cons_succ, i64_w, i32_w]
                              rfl
                            refine pure_ (i := 8) (N := some 110) (v := ?_) (a' := ?_) #[false, true, true, true, false, true, true, true, true, false, false] rfl rfl (by kernel_rfl) (fun _ _ _ h => h) (Or.inl ⟨by rfl, ?_⟩) ?_ ?_
                            rotate_left
                            · intro w'
                              go_simp
                              with_reducible rfl
                            rotate_left
                            · simp only [Act.put, List.setIfInBounds_toArray, List.set_cons_zero, List.set_cons_succ, i64_w, i32_w]
                              rfl
                            refine one_ (i := 0) (N := some 102) #[true, true, true, true, false, true, true, true, true, false, false] rfl rfl (by kernel_rfl) (by decide) (fun K hK => ?_)
                            refine value_ (w1 := ?_) (v := ?_) (by rfl) rfl ?_ ?_
                            rotate_left 2
                            · go_simp
                              constructor
                              · rfl
                              · rfl
                            refine hK.out _ _ trivial (fun hHeld => ?_)
                            clear hK K
                            refine norm_ (a' := ?_) ?_ ?_
                            rotate_left
                            · show Act.put _ (some 102) _ = _
                              simp only [Act.put, List.setIfInBounds_toArray, List.set_cons_zero, List.set_cons_succ, i64_w, i32_w]
                              rfl
                            refine one_ (i := 4) (N := some 106) #[true, true, true, true, true, true, true, true, true, false, false] rfl rfl (by kernel_rfl) (by decide) (fun K hK => ?_)
                            refine Kd.R_append_rows_step (Kd.int .u64) (w0 := wc) wc.heap.size (by rfl) (.tmp 102) (.tmp 105) 54 43 (.int .u64 0) 8 rfl Tryz.underlying54 infoU rfl (by decide) (by omega) _ [] ((acc1.map (·.2)).take i) _ _ _ (fun _ => True) (fun _ => False) rfl rfl ?aO ?aR (fun _ _ h => h) (fun _ h => h.elim) ?aF ?aB ?aS ?aL ?_
                            case aO => exact Kd.R_drew (R00.out wc)
                            case aR => exact (by have h := Kd.C_drew (Kd.C_alloc DT.out (.cells #[] 43)); rw [List.length_take, List.length_map, Nat.min_eq_left (by omega)] at h; exact h)
                            case aF => exact fun _ _ => trivial
                            case aB => exact (Below.alloc (Below.refl wc.heap.size wc) (Nat.le_refl _) (.cells #[] 43)).drew
                            case aS => exact ((Below.alloc (Below.refl wc.heap.size wc) (Nat.le_refl _) (.cells #[] 43)).drew : Below wc.heap.size wc _).size
                            case aL => exact szU0 (Nat.le_of_lt hil) HL7.out
                            intro v1 w4 hR4 hB4 hg4 hat4
                            have HR4 := Aside0.mk hR4
                            have HB4 := Aside0.mk hB4
                            have HC4 := Aside0.mk (Kd.C_below DD.out hB4)
                            clear hR4 hB4 hg4 hat4
                            refine hK.out _ _ trivial (fun hHeld => ?_)
                            clear hK K
                            refine norm_ (a' := ?_) ?_ ?_
                            rotate_left
                            · show Act.put _ (some 106) _ = _
                              simp only [Act.put, List.setIfInBounds_toArray, List.set_cons_zero, List.set_cons_succ, i64_w, i32_w]
                              rfl
                            refine one_ (i := 9) (N := some 111) #[true, true, true, true, true, true, true, true, true, true, false] rfl rfl (by kernel_rfl) (by decide) (fun K hK => ?_)
                            refine Kd.R_append_rows_step (Kd.int .u64) (w0 := wc) wc.heap.size (by rfl) (.tmp 106) (.tmp 110) 54 43 (.int .u64 0) 8 rfl Tryz.underlying54 infoU rfl (by decide) (by omega) _ ([] ++ (acc1.map (·.2)).take i) ((acc1.map (·.2)).drop (i + 1)) _ _ _ (fun _ => True) (fun _ => False) rfl rfl ?aO ?aR (fun _ _ h => h) (fun _ h => h.elim) ?aF ?aB ?aS ?aL ?_
                            case aO => exact HR4.out
                            case aR => exact (by have h := HC4.out; rw [List.length_drop, List.length_map] at h; exact h)
                            case aF => exact fun _ _ => trivial
                            case aB => exact HB4.out
                            case aS => exact (HB4.out : Below wc.heap.size wc _).size
                            case aL => exact szU1 hil HL7.out
                            intro v2 w5 hR5 hB5 hg5 hat5
                            have HR5 := Aside0.mk hR5
                            have HB5 := Aside0.mk hB5
                            clear hR5 hB5 hg5 hat5 hwi q1 q2
                            refine hK.out _ _ trivial (fun hHeld => ?_)
                            clear hK K
                            refine norm_ (a' := ?_) ?_ ?_
                            rotate_left
                            · show Act.put _ (some 111) _ = _
                              simp only [Act.put, List.setIfInBounds_toArray, List.set_cons_zero, List.set_cons_succ, i64_w, i32_w]
                              rfl
                            refine pure_ (i := 10) (N := some 8) (v := ?_) (a' := ?_) #[true, true, true, true, true, true, true, true, true, true, true] rfl rfl (by kernel_rfl) (fun _ _ _ h => h) (Or.inl ⟨by rfl, ?_⟩) ?_ ?_
                            rotate_left
                            · intro w'
                              go_simp
                              with_reducible rfl
                            rotate_left
                            · simp only [Act.put, List.setIfInBounds_toArray, List.set_cons_zero, List.set_cons_succ, i64_w, i32_w]
                              rfl
                            refine done_ (by kernel_rfl) ?_
                            go_wp2
                            go_meet
                            refine ⟨?_, R7.out.below HB5.out, HB5.out⟩
                            have h := RowU.of_own HR5.out
                            rw [List.nil_append, ← List.eraseIdx_eq_take_drop_succ, ← map_erase] at h
                            exact h
                          case rest =>
                            obtain ⟨r8, r7, hbc⟩ := hcut
                            have R8 := Aside0.mk r8
                            have R7 := Aside0.mk r7
                            have HBC2 := Aside0.mk hbc
                            clear r8 r7 hbc
                            go_wp2_with fail
                            refine ⟨⟨a2, b2, acc1.eraseIdx i, true, rfl, rfl, rfl, ra2.1, Int.le_trans ra2.2.1 (Int.le_trans hab rb2.1), rb2.2.2, R7.out, R8.out, below_step (below_step BW.out HBC.out) HBC2.out, ?_, AccOk_erase HO1.out i, ?_, fun h => by cases h⟩, ?_⟩
                            · rw [HABS.out, absorb_at hil ER.out HNT.out t1 t2, ← EA2.out, ← EB2.out]
                            · exact Nat.le_trans (List.eraseIdx_sublist _ _).length_le HLE.out
                            · obtain ⟨A9, c9, e9, _, _⟩ := R7.out.len
                              rw [HLEN.out, e9, List.length_map]
                              exact meas2 (List.length_eraseIdx_of_lt hil) hil
                  · by_cases h1 : r.1 ≤ b1 + 1
                    · have h2 : ¬ a1 ≤ r.2 + 1 := fun h2 => ht ⟨h1, h2⟩
                      clear ht
                      go_wp2_with fail
                      rw [wsk hil HL7.out]
                      exact ⟨⟨i + 1, vk i, Nat.succ_le_of_lt hil, take_next (P := fun r => touch a1 b1 r = false) hil HNT.out (by rw [← ER.out]; exact touch_no2 h2), trivial, rfl, rfl, rfl, rfl, rfl⟩, meas hil⟩
                    · clear ht
                      go_wp2_with fail
                      rw [wsk hil HL7.out]
                      exact ⟨⟨i + 1, vk i, Nat.succ_le_of_lt hil, take_next (P := fun r => touch a1 b1 r = false) hil HNT.out (by rw [← ER.out]; exact touch_no1 h1), trivial, rfl, rfl, rfl, rfl, rfl⟩, meas hil⟩
                · have hilz : ¬ (i : Int) < (acc1.length : Int) := by omega
                  obtain ⟨A7, c7, e7, _, _⟩ := I7.out.len
                  have R7 := I7
                  have R8 := I8
                  rw [List.length_map] at e7
                  subst e7
                  go_wp2_with fail
                  refine ⟨⟨a1, b1, acc1, false, rfl, rfl, rfl, ha0, hab, hb1, R7.out, R8.out, BW.out, HABS.out, HO1.out, HLE.out, fun _ => find_none hil HNT.out⟩, ?_⟩
                  rw [HLEN.out]
                  exact Nat.lt_succ_self _
        · have hjz : ¬ (j : Int) < (n : Int) := by omega
          have hend : joinR [] (l.map rngR) = acc := by
            rw [HS.out, List.drop_of_length_le (by rw [HN.out]; omega)]
            rfl
          have HEND := Aside0.mk hend
          clear hend
          obtain ⟨A7, c7, e7, hc7, C7⟩ := H7.out.len
          have EQ7 := Aside0.mk e7
          rw [List.length_map] at e7
          subst e7
          clear hc7 C7
          go_wp2_with fail
          obtain ⟨W5, hW5⟩ : ∃ W5 : World, W5 = wr := ⟨_, rfl⟩
          have hRO := madeB W5
          have hBO := Below.alloc (Below.refl W5.heap.size W5) (Nat.le_refl _) (.cells #[] 31)
          have HNL := Aside0.mk (Nat.le_trans HAL.out hj)
          rw [← hW5] at H7 H8 B ⊢
          clear hW5
          have HRO := Aside0.mk hRO
          have HBO0 := Aside0.mk hBO
          clear hRO hBO
          go_loopw [154, 16] (fun s154 s16 W => ∃ i : Nat, s154 = .int .i64 i ∧ i ≤ acc.length ∧ Kd.R k31 31 W W5.heap.size (fun _ => True) s16 ((covR (acc.take i)).map toR) ∧ Below W5.heap.size W5 W) (fun s154 _ _ => acc.length - (intOf s154).toNat)
          case atStart => exact ⟨0, rfl, Nat.zero_le _, HRO.out, HBO0.out⟩
          case round =>
            obtain ⟨i, rfl, hi, hRO, hBO⟩ := hrel
            have HOUT := Aside0.mk hRO
            have HBO := Aside0.mk hBO
            clear hRO hBO HRO HBO0
            by_cases hil : i < acc.length
            · have hilz : (i : Int) < (acc.length : Int) := by omega
              obtain ⟨g7, d7, e7, l7, k7, _, _⟩ := (H7.out.below HBO.out).cell (i := i) (by rw [List.length_map]; exact hil)
              obtain ⟨g8, d8, e8, l8, k8, _, _⟩ := (H8.out.below HBO.out).cell (i := i) (by rw [List.length_map]; exact hil)
              rw [List.length_map] at e7 e8
              injection e7 with e71 e72 e73
              subst e71
              subst e8
              rw [List.getElem_map] at k7 k8
              have hrb := HO.out.2 acc[i] (List.getElem_mem _)
              have HSZ := Aside0.mk (sized_R HO.out hil)
              obtain ⟨f, hf⟩ : ∃ f : Nat, f = (acc[i].1).toNat := ⟨_, rfl⟩
              obtain ⟨e, he⟩ : ∃ e : Nat, e = (acc[i].2).toNat := ⟨_, rfl⟩
              have hf1 : acc[i].1 = (f : Int) := by omega
              have he1 : acc[i].2 = (e : Int) := by omega
              have hfl : f < 4294967296 := by omega
              have hel : e < 4294967296 := by omega
              rw [hf1] at k7
              rw [he1] at k8
              rw [← hf, ← he] at HSZ
              have HCV := Aside0.mk (covR_next hil)
              rw [← hf, ← he] at HCV
              clear hf he hf1 he1 hrb e72 e73
              have hwf : IntKind.u32.wrap (f : Int) = (f : Int) := wrapU32 hfl
              have hwe : IntKind.u32.wrap (e : Int) = (e : Int) := wrapU32 hel
              go_upto_region 36 with fail
              refine start_ (n := 14) (S := fun w' => w'.cell? ⟨g7, i, none⟩ = some (.int .u64 (f : Int)) ∧ w'.cell? ⟨g8, i, none⟩ = some (.int .u64 (e : Int))) (ds := [11, 12]) #[false, false, false, false, false, false, false, false, false, false, false, false, false, false] (by kernel_rfl) rfl rfl ⟨k7, k8⟩ (fun hHeld => ?_)
              refine pure_ (i := 0) (N := some 157) (v := ?_) (a' := ?_) #[true, false, false, false, false, false, false, false, false, false, false, false, false, false] rfl rfl (by kernel_rfl) (fun _ _ _ h => h) (Or.inl ⟨by rfl, ?_⟩) ?_ ?_
              rotate_left
              · intro w'
                go_simp
                with_reducible rfl
              rotate_left
              · simp only [Act.put, List.setIfInBounds_toArray, List.set_cons_zero, List.set_cons_succ, i64_w, i32_w]
                rfl
              refine pure_ (i := 1) (N := some 158) (v := ?_) (a' := ?_) #[true, true, false, false, false, false, false, false, false, false, false, false, false, false] rfl rfl (by kernel_rfl) (fun _ _ _ h => h) (Or.inl ⟨by rfl, ?_⟩) ?_ ?_
              rotate_left
              · intro w'
                go_simp
                with_reducible rfl
              rotate_left
              · simp only [Act.put, List.setIfInBounds_toArray, List.set_cons_zero, List.set_cons_succ, i64_w, i32_w]
                rfl
              refine pure_ (i := 2) (N := some 159) (v := ?_) (a' := ?_) #[true, true, true, false, false, false, false, false, false, false, false, false, false, false] rfl rfl (by kernel_rfl) (fun _ _ _ h => h) (Or.inl ⟨by rfl, ?_⟩) ?_ ?_
              rotate_left
              · intro w'
                go_simp
                with_reducible rfl
              rotate_left
              · simp only [Act.put, List.setIfInBounds_toArray, List.set_cons_zero, List.set_cons_succ, i64_w, i32_w]
                rfl
              refine pure_ (i := 3) (N := some 160) (v := ?_) (a' := ?_) #[true, true, true, true, false, false, false, false, false, false, false, false, false, false] rfl rfl (by kernel_rfl) (fun _ _ _ h => h) (Or.inl ⟨by rfl, ?_⟩) ?_ ?_
              rotate_left
              · intro w'
                go_simp
                with_reducible rfl
              rotate_left
              · simp only [Act.put, List.setIfInBounds_toArray, List.set_cons_zero, List.set_cons_succ, i64_w, i32_w]
                rfl
              refine pure_ (i := 6) (N := some 163) (v := ?_) (a' := ?_) #[true, true, true, true, false, false, true, false, false, false, false, false, false, false] rfl rfl (by kernel_rfl) (fun _ _ _ h => h) (Or.inl ⟨by rfl, ?_⟩) ?_ ?_
              rotate_left
              · intro w'
                go_simp
                with_reducible rfl
              rotate_left
              · simp only [Act.put, List.setIfInBounds_toArray, List.set_cons_zero, List.set_cons_succ, i64_w, i32_w]
                rfl
              refine pure_ (i := 7) (N := some 164) (v := ?_) (a' := ?_) #[true, true, true, true, false, false, true, true, false, false, false, false, false, false] rfl rfl (by kernel_rfl) (fun _ _ _ h => h) (Or.inl ⟨by rfl, ?_⟩) ?_ ?_
              rotate_left
              · intro w'
                go_simp
                with_reducible rfl
              rotate_left
              · simp only [Act.put, List.setIfInBounds_toArray, List.set_cons_zero, List.set_cons_succ, i64_w, i32_w]
                rfl
              refine pure_ (i := 8) (N := some 165) (v := ?_) (a' := ?_) #[true, true, true, true, false, false, true, true, true, false, false, false, false, false] rfl rfl (by kernel_rfl) (fun _ _ _ h => h) (Or.inl ⟨by rfl, ?_⟩) ?_ ?_
              rotate_left
              · intro w'
                go_simp
                with_reducible rfl
              rotate_left
              · simp only [Act.put, List.setIfInBounds_toArray, List.set_cons_zero, List.set_cons_succ, i64_w, i32_w]
                rfl
              refine take_ (i := 4) (N := some 161) (v := ?_) (a' := ?_) #[true, true, true, true, true, false, true, true, true, false, false, false, false, false] rfl rfl (by kernel_rfl) (fun _ _ _ h => h) (Or.inl ⟨by rfl, ?_⟩) hHeld ?_ ?_
              rotate_left
              · rintro w' ⟨s0, s1⟩
                go_simp
                with_reducible rfl
              rotate_left
              · simp only [Act.put, List.setIfInBounds_toArray, List.set_cons_zero, List.set_cons_succ, i64_w, i32_w]
                rfl
              refine pure_ (i := 5) (N := some 162) (v := ?_) (a' := ?_) #[true, true, true, true, true, true, true, true, true, false, false, false, false, false] rfl rfl (by kernel_rfl) (fun _ _ _ h => h) (Or.inl ⟨by rfl, ?_⟩) ?_ ?_
              rotate_left
              · intro w'
                go_simp
                with_reducible rfl
              rotate_left
              · simp only [Act.put, List.setIfInBounds_toArray, List.set_cons_zero, List.set_cons_succ, i64_w, i32_w]
                rfl
              refine take_ (i := 9) (N := some 166) (v := ?_) (a' := ?_) #[true, true, true, true, true, true, true, true, true, true, false, false, false, false] rfl rfl (by kernel_rfl) (fun _ _ _ h => h) (Or.inl ⟨by rfl, ?_⟩) hHeld ?_ ?_
              rotate_left
              · rintro w' ⟨s0, s1⟩
                go_simp
                with_reducible rfl
              rotate_left
              · simp only [Act.put, List.setIfInBounds_toArray, List.set_cons_zero, List.set_cons_succ, i64_w, i32_w]
                rfl
              refine pure_ (i := 10) (N := some 167) (v := ?_) (a' := ?_) #[true, true, true, true, true, true, true, true, true, true, true, false, false, false] rfl rfl (by kernel_rfl) (fun _ _ _ h => h) (Or.inl ⟨by rfl, ?_⟩) ?_ ?_
              rotate_left
              · intro w'
                go_simp
                with_reducible rfl
              rotate_left
              · simp only [Act.put, List.setIfInBounds_toArray, List.set_cons_zero, List.set_cons_succ, i64_w, i32_w]
                rfl
              refine last_ (i := 11) (N := some 168) #[true, true, true, true, true, true, true, true, true, true, true, true, false, false] rfl rfl (by kernel_rfl) (by decide) (fun K hK => ?_)
              refine goes_ Tryz.func7 (by kernel_rfl) rfl #[.int .u32 (f : Int), .int .u32 (e : Int)] (by rfl) rfl rfl (by simp only [List.map_toArray, List.map_cons, List.map_nil]; rfl) ?_
              with_reducible refine (refCover_walk f e hfl hel _).mono ?_
              rintro ex w3 ⟨v3, rfl, hR3, hb3⟩
              refine ⟨_, rfl, ?_⟩
              obtain ⟨Ac, cc, rfl, _, hCc⟩ := Kd.R_reads hR3
              have HO3 := Aside0.mk (Kd.R_below (Kd.R_drew HOUT.out) hb3)
              have HB3 := Aside0.mk (below_step HBO.out.drew hb3)
              have HC3 := Aside0.mk hCc
              clear hR3 hb3 hCc
              refine hK.out _ _ ?_
              clear hK K
              refine norm_ (a' := ?_) ?_ ?_
              rotate_left
              · show Act.put _ (some 168) _ = _
                simp only [Act.put, List.setIfInBounds_toArray, List.set_cons_zero, List.set_cons_succ, i64_w, i32_w]
                rfl
              refine last_ (i := 12) (N := some 169) #[true, true, true, true, true, true, true, true, true, true, true, true, true, false] rfl rfl (by kernel_rfl) (by decide) (fun K hK => ?_)
              refine Kd.R_append_rows_step k31 (w0 := W5) W5.heap.size (by rfl) (.tmp 157) (.tmp 168) 27 31 (.agg #[(.int .u32 0), (.int .i64 0)]) 16 rfl Tryz.underlying27 info31 rfl (by decide) (by decide) _ ((covR (acc.take i)).map toR) ((covL f e).map toR) _ _ _ (fun _ => True) (fun _ => False) rfl rfl ?aO ?aR (fun _ _ h => h) (fun _ h => h.elim) ?aF ?aB ?aS ?aL ?_
              case aO => exact HO3.out
              case aR => exact HC3.out
              case aF => exact fun _ _ => trivial
              case aB => exact HB3.out
              case aS => exact HB3.out.size
              case aL => exact HSZ.out
              intro v4 w4 hR4 hB4 hg4 hat4
              have HR4 := Aside0.mk hR4
              have HB4 := Aside0.mk hB4
              clear hR4 hB4 hg4 hat4
              refine hK.out _ _ ?_
              clear hK K
              refine norm_ (a' := ?_) ?_ ?_
              rotate_left
              · show Act.put _ (some 169) _ = _
                simp only [Act.put, List.setIfInBounds_toArray, List.set_cons_zero, List.set_cons_succ, i64_w, i32_w]
                rfl
              refine pure_ (i := 13) (N := some 16) (v := ?_) (a' := ?_) #[true, true, true, true, true, true, true, true, true, true, true, true, true, true] rfl rfl (by kernel_rfl) (fun _ _ _ h => h) (Or.inl ⟨by rfl, ?_⟩) ?_ ?_
              rotate_left
              · intro w'
                go_simp
                with_reducible rfl
              rotate_left
              · simp only [Act.put, List.setIfInBounds_toArray, List.set_cons_zero, List.set_cons_succ, i64_w, i32_w]
                rfl
              refine done_ (by kernel_rfl) ?_
              have R : Kd.R k31 31 w4 W5.heap.size (fun _ => True) v4 ((covR (acc.take (i + 1))).map toR) := by
                rw [HCV.out, List.map_append]
                exact HR4.out
              have R := Aside0.mk R
              clear k7 k8 l7 l8
              go_wp2_with fail
              rw [wsk hil (Nat.le_trans HNL.out hn)]
              exact ⟨⟨i + 1, vk i, Nat.succ_le_of_lt hil, R.out, HB4.out⟩, meas hil⟩
            · have hilz : ¬ (i : Int) < (acc.length : Int) := by omega
              go_wp2_with fail
              go_ret3
              have R := HOUT.out
              rw [List.take_of_length_le (by omega), ← HEND.out] at R
              exact ⟨_, rfl, Kd.R_lower R B.out.size, below_step B.out HBO.out⟩
def badR (l : List S31) : Option Nat := l.findIdx? fun x => !isV x.f0 x.f1
set_option maxHeartbeats 4000000 in
set_option maxRecDepth 100000 in
theorem refJoin_bad (A : Option Addr) (c : Nat) (l : List S31) (w : World) (hr : Kd.C k31 w A l.length l) (hc : l.length ≤ c) (hrg : rgR l) (k : Nat) (hk : badR l = some k) :
    Calls Tryz.prog 9 #[.slice A l.length c] w fun e w' => e = .returned (.tuple #[.slice none 0 0, .int .i64 (k : Int), .int .i64 204]) ∧ Below w.heap.size w w' := by
  have hmx := Kd.C_max hr
  have HR := Aside0.mk hr
  have HRG := Aside0.mk hrg
  obtain ⟨hkn, hkv, hkp⟩ := bad_at hk
  have HKV := Aside0.mk hkv
  have HKP := Aside0.mk hkp
  clear hr hrg hk hkv hkp
  generalize hm : l.length = n at *
  have HN := Aside0.mk hm
  clear hm
  go_enter Tryz.func9, Tryz.ntmps9
  go_wp2_with fail
  go_loopw [20] (fun s W => ∃ i : Nat, s = .int .i64 i ∧ i ≤ k ∧ Below w.heap.size w W) (fun s _ => n - (intOf s).toNat)
  case atStart => exact ⟨0, rfl, Nat.zero_le _, Below.refl _ _⟩
  case round =>
    obtain ⟨i, rfl, hi, hB⟩ := hrel
    have B := Aside0.mk hB
    clear hB
    have hltz : (i : Int) < (n : Int) := by omega
    obtain ⟨ad, rfl, c0, c1⟩ := at_T31 (Kd.C_below HR.out B.out) (i : Int) (by omega) hltz
    have hx : rd_T31 l (i : Int) ∈ l := by
      rw [rdR_mem (by rw [HN.out]; omega)]
      exact List.getElem_mem _
    have HX := Aside0.mk (HRG.out _ hx)
    obtain ⟨x, ex⟩ : ∃ x, x = rd_T31 l (i : Int) := ⟨_, rfl⟩
    rw [← ex] at c0 c1 HX
    have EX := Aside0.mk ex
    clear ex hx
    have HI := c_refIs x HX.out.1 HX.out.2
    rw [Int.toNat_natCast] at c0 c1
    by_cases hik : i < k
    · rw [show isV x.f0 x.f1 = true by rw [EX.out]; exact HKP.out i hik] at HI
      have HI := Aside0.mk HI
      go_wp2_with fail
      refine (HI.out _).mono ?_
      rintro e w2 ⟨rfl, hb⟩
      have B2 := Aside0.mk (below_step (Below.alloc B.out B.out.size (.cells #[.int .u32 x.f0, .int .i64 x.f1] 31)) hb)
      clear hb c0 c1
      go_wp2_with fail
      exact ⟨⟨i + 1, by simp, by omega, B2.out⟩, by show n - ((i : Int) + 1).toNat < n - (i : Int).toNat; omega⟩
    · obtain rfl : i = k := by omega
      rw [show isV x.f0 x.f1 = false by rw [EX.out]; exact HKV.out] at HI
      have HI := Aside0.mk HI
      go_wp2_with fail
      refine (HI.out _).mono ?_
      rintro e w2 ⟨rfl, hb⟩
      have B2 := Aside0.mk (below_step (Below.alloc B.out B.out.size (.cells #[.int .u32 x.f0, .int .i64 x.f1] 31)) hb)
      clear hb c0 c1
      go_wp2_with fail
      go_ret3
      exact ⟨rfl, B2.out⟩
end Go.Proofs.YtgnahagnmodpdaaGreatDoor
/-! RefJoinF -/
namespace Go.Proofs.YtgnahagnmodpdaaGreatDoor
open Go.RowKit Go.Proofs.YtgnahagnmodpdaaGreatDoorW.PrintWords Go.Proofs.YtgnahagnmodpdaaGreatDoorW.PrintLast Go.Proofs.YtgnahagnmodpdaaGreatDoor.X Go.IntWalk Go.Lib Go.Sort
set_option linter.unusedVariables false
set_option linter.unusedSimpArgs false
def rgRB (l : List S31) : Bool := l.all fun x => decide (0 ≤ x.f0) && decide (x.f0 ≤ 4294967295)
theorem rgRB_rgR {l : List S31} (h : rgRB l = true) : rgR l := by
  intro x hx
  have := List.all_eq_true.1 h x hx
  simpa using this
def joinRV (l : List S31) : List S31 × Int × Int := match badR l with
  | some k => ([], (k : Int), 204)
  | none => ((covR (joinR [] (l.map rngR))).map toR, 0, 0)
def posternref20_Join.f (l : List S31) : Option (List S31 × Int × Int) := if rgRB l = true ∧ l.length ≤ 8796093022208 then some (joinRV l) else none
theorem badR_none {l : List S31} (h : badR l = none) : ∀ x ∈ l, isV x.f0 x.f1 = true := by
  unfold badR at h
  rw [List.findIdx?_eq_none_iff] at h
  intro x hx
  have := h x hx
  simpa using this
theorem posternref20_Join.calls (A2 : Option Addr) (c2 : Nat) (l2 : List S31) (r1 : List S31) (r2 r3 : Int) (w : World) (hr2 : Kd.C k31 w A2 l2.length l2) (hc2 : l2.length ≤ c2) (h : posternref20_Join.f l2 = some (r1, r2, r3)) :
    Calls Tryz.prog 9 #[.slice A2 l2.length c2] w fun e w' => ∃ v0_ : Value, e = .returned (.tuple #[v0_, .int .i64 r2, .int .i64 r3]) ∧ Kd.R k31 31 w' w.heap.size (fun _ => True) v0_ r1 ∧ Below w.heap.size w w' := by
  unfold posternref20_Join.f at h
  by_cases hs : rgRB l2 = true ∧ l2.length ≤ 8796093022208
  · rw [if_pos hs] at h
    have h := Option.some.inj h
    unfold joinRV at h
    have hrg := rgRB_rgR hs.1
    cases hb : badR l2 with
    | some k =>
      rw [hb] at h
      obtain ⟨e1, e2⟩ := Prod.mk.inj h
      obtain ⟨e2, e3⟩ := Prod.mk.inj e2
      subst e1
      subst e2
      subst e3
      refine (refJoin_bad A2 c2 l2 w hr2 hc2 hrg k hb).mono ?_
      rintro e w' ⟨rfl, hb⟩
      exact ⟨_, rfl, Kd.R_nil _ _ _ _ _, hb⟩
    | none =>
      rw [hb] at h
      obtain ⟨e1, e2⟩ := Prod.mk.inj h
      obtain ⟨e2, e3⟩ := Prod.mk.inj e2
      subst e1
      subst e2
      subst e3
      exact refJoin_walk A2 c2 l2 w hr2 hc2 hrg (badR_none hb) hs.2
  · rw [if_neg hs] at h
    cases h
end Go.Proofs.YtgnahagnmodpdaaGreatDoor
/-! FourAwake -/
namespace Go.Proofs.YtgnahagnmodpdaaGreatDoor
open Go.RowKit Go.Proofs.YtgnahagnmodpdaaGreatDoorW.PrintWords Go.Proofs.YtgnahagnmodpdaaGreatDoor.X Go.IntWalk
set_option linter.unusedVariables false
set_option linter.unusedSimpArgs false
def isDec (c : UInt8) : Bool := decide (48 ≤ (c.toNat : Int)) && decide ((c.toNat : Int) ≤ 57)
def lastV (l : List UInt8) : List UInt8 := (partsV l).getLastD []
def endsV (l : List UInt8) : Bool := if lastV l = [] then false else if (lastV l).all isDec then true else (numberV (lastV l)).2.2 == 0
theorem parts_last (s : ByteArray) : rdOf ByteArray.empty ((partsV s.data.toList).map BA) (((partsV s.data.toList).length - 1 : Nat) : Int) = BA (lastV s.data.toList) := by
  have hpos : 0 < (partsV s.data.toList).length := List.length_pos_iff.2 (partsV_ne _)
  rw [rd_map _ _ (by omega)]
  unfold lastV
  rw [List.getLastD_eq_getLast?, List.getLast?_eq_getElem?, List.getElem?_eq_getElem (by omega)]
  rfl
theorem lastV_len (l : List UInt8) : (lastV l).length ≤ l.length := by
  unfold lastV
  rw [List.getLastD_eq_getLast?]
  cases h : (partsV l).getLast? with
  | none => simp
  | some x => exact partsV_part l x (List.mem_of_getLast? h)
theorem isDec_tab : ∀ b : Fin 256, [48, 49, 50, 51, 52, 53, 54, 55, 56, 57].contains (UInt8.ofNat b.val) = isDec (UInt8.ofNat b.val) := by decide +kernel
theorem isDec_is (c : UInt8) : ([48, 49, 50, 51, 52, 53, 54, 55, 56, 57] : List UInt8).contains c = isDec c := by
  have := isDec_tab ⟨c.toNat, c.toNat_lt⟩
  simpa using this
theorem dropWhile_nil {p : UInt8 → Bool} : ∀ {l : List UInt8}, l.dropWhile p = [] ↔ ∀ x ∈ l, p x = true
  | [] => by simp
  | b :: l => by
    by_cases hb : p b = true
    · rw [List.dropWhile_cons_of_pos hb, dropWhile_nil]
      simp [hb]
    · rw [List.dropWhile_cons_of_neg hb]
      simp [hb]
theorem dropWhile_head {p : UInt8 → Bool} : ∀ {l r : List UInt8} {b : UInt8}, l.dropWhile p = b :: r → p b = false ∧ ∀ x ∈ b :: r, x ∈ l
  | [], _, _, h => by simp at h
  | c :: l, r, b, h => by
    by_cases hb : p c = true
    · rw [List.dropWhile_cons_of_pos hb] at h
      obtain ⟨h1, h2⟩ := dropWhile_head h
      exact ⟨h1, fun x hx => List.mem_cons_of_mem _ (h2 x hx)⟩
    · rw [List.dropWhile_cons_of_neg hb] at h
      injection h with h1 h2
      subst h1 h2
      exact ⟨by simpa using hb, fun x hx => hx⟩
theorem trim_all (l : List UInt8) : Lib.trimS l [48, 49, 50, 51, 52, 53, 54, 55, 56, 57] = [] ↔ l.all isDec = true := by
  have e : (fun c : UInt8 => ([48, 49, 50, 51, 52, 53, 54, 55, 56, 57] : List UInt8).contains c) = isDec := funext isDec_is
  unfold Lib.trimS Lib.trimLeftS Lib.trimRightS
  rw [e, dropWhile_nil]
  simp only [List.mem_reverse, List.all_eq_true]
  constructor
  · intro h x hx
    cases hr : l.reverse.dropWhile isDec with
    | nil => exact dropWhile_nil.1 hr x (by simpa using hx)
    | cons b r =>
      obtain ⟨h1, h2⟩ := dropWhile_head hr
      rw [h b (by rw [hr]; simp)] at h1
      cases h1
  · intro h x hx
    cases hr : l.reverse.dropWhile isDec with
    | nil => rw [hr] at hx; cases hx
    | cons b r =>
      obtain ⟨h1, h2⟩ := dropWhile_head hr
      rw [hr] at hx
      exact h x (by simpa using h2 x hx)
theorem four_ends (s : ByteArray) (hs : s.size ≤ 4294967280) : Ev (fun k => four_Ends.f k s) (endsV s.data.toList) := by
  have hz := size_len s
  have hpos : 0 < (partsV s.data.toList).length := List.length_pos_iff.2 (partsV_ne _)
  have hple := partsL_len (splitC 46 s.data.toList)
  have hsl := splitC_len 46 s.data.toList
  have hpl : (partsV s.data.toList).length ≤ s.data.toList.length + 1 := by unfold partsV; omega
  have w1 : wrap64 (((partsV s.data.toList).length : Int) - 1) = (((partsV s.data.toList).length - 1 : Nat) : Int) := by rw [wrap64_in _ (by omega)]; omega
  have hlast := parts_last s
  have hll := lastV_len s.data.toList
  have htr : strings_Trim.f (BA (lastV s.data.toList)) (⟨#[48, 49, 50, 51, 52, 53, 54, 55, 56, 57]⟩ : ByteArray) = some (BA (Lib.trimS (lastV s.data.toList) [48, 49, 50, 51, 52, 53, 54, 55, 56, 57])) := by
    unfold strings_Trim.f
    rw [if_pos ⟨by rw [ba_size]; omega, by decide, by decide⟩]
    rfl
  unfold endsV
  have hn := number_ev (BA (lastV s.data.toList)) (by rw [ba_size]; omega)
  rw [ba_list] at hn
  have key : ∀ k, four_Ends.f k s = if lastV s.data.toList = [] then some false else if (lastV s.data.toList).all isDec = true then some true else (four_Number.f k (BA (lastV s.data.toList))).bind fun t => some (t.2.2 == 0) := by
    intro k
    unfold four_Ends.f
    rw [parts_f s hs]
    simp only [Option.bind_some, List.length_map]
    rw [w1, if_pos (by omega), if_pos (by omega), hlast, toList_data, ba_list, htr]
    simp only [Option.bind_some]
    rw [toList_data, ba_list]
    by_cases h0 : lastV s.data.toList = []
    · rw [if_pos h0, if_pos h0]
    · rw [if_neg h0, if_neg h0]
      by_cases ha : (lastV s.data.toList).all isDec = true
      · rw [if_pos ((trim_all _).2 ha), if_pos ha]
      · rw [if_neg (mt (trim_all _).1 ha), if_neg ha]
  refine Ev.congr key ?_
  by_cases h0 : lastV s.data.toList = []
  · simp only [if_pos h0]
    exact Ev.now _
  · by_cases ha : (lastV s.data.toList).all isDec = true
    · simp only [if_neg h0, if_pos ha]
      exact Ev.now _
    · simp only [if_neg h0, if_neg ha]
      exact Ev.bind hn (Ev.now _)
theorem awake_ev : Ev (fun k => posternlaw20_awake.f k) true := by
  have h1 : four_Parse.f (⟨#[49, 57, 50, 46, 48, 120, 48, 48, 65, 56, 48, 48, 48, 49]⟩ : ByteArray) = some (3232235521, 0, 0) := by
    unfold four_Parse.f
    rw [if_pos (by decide)]
    exact congrArg some (by decide +kernel)
  have h2 : four_Print.f 3232235521 = some (BA [49, 57, 50, 46, 49, 54, 56, 46, 48, 46, 49]) := by
    unfold four_Print.f
    rw [if_pos (by decide)]
    congr 2
    unfold printV oct4
    simp only [List.map_cons, List.map_nil]
    rw [itoa_small (by decide) (by decide), itoa_small (by decide) (by decide), itoa_small (by decide) (by decide), itoa_small (by decide) (by decide)]
    decide +kernel
  have h3 := four_ends (⟨#[49, 46, 50]⟩ : ByteArray) (by decide)
  rw [show endsV (⟨#[49, 46, 50]⟩ : ByteArray).data.toList = true by decide +kernel] at h3
  refine Ev.congr (f := fun k => (four_Ends.f k (⟨#[49, 46, 50]⟩ : ByteArray)).bind fun t => some t) (fun k => ?_) (Ev.bind h3 (Ev.now _))
  unfold posternlaw20_awake.f
  rw [h1]
  simp only [Option.bind_some]
  simp only [if_true]
  rw [h2]
  simp only [Option.bind_some]
  rw [toList_data, ba_list, if_pos rfl]
end Go.Proofs.YtgnahagnmodpdaaGreatDoor
/-! X4 -/
namespace Go.Proofs.YtgnahagnmodpdaaGreatDoor.X
open Go.RowKit Go.Proofs.YtgnahagnmodpdaaGreatDoorW.PrintWords Go.Proofs.YtgnahagnmodpdaaGreatDoorW.PrintLast Go.Proofs.YtgnahagnmodpdaaGreatDoorW.PrintMore
attribute [local go_sem] max2_int min2_int max_two min_two max_three min_three max_four min_four
set_option linter.unusedVariables false
set_option linter.unusedSimpArgs false
mutual
def posternlaw20_FourCovers.j0 : Nat → List (S30) → Bool → Option (Bool)
  | 0, _, _ => none
  | k + 1, x2, x28 => if x28 = true then (some false) else ((some (([] : List (S30)) : List (S30))).bind fun y149 => (if y149.length + x2.length < 8796093022208 then (posternlaw20_FourCovers.l0 k (y149 ++ x2) ([] : List (S31)) x2 (x2.length : Int) 0) else (none)))
def posternlaw20_FourCovers.l0 : Nat → List (S30) → List (S31) → List (S30) → Int → Int → Option (Bool)
  | 0, _, _, _, _, _ => none
  | k + 1, x7, x8, x32, x33, x34 => if x34 < x33 then (if 0 ≤ x34 then (if x34 < (x32.length : Int) then (if x8.length < 8796093022208 then (posternlaw20_FourCovers.l0 k x7 (x8 ++ [(⟨(rd_T30 x32 x34).f0, (rd_T30 x32 x34).f1⟩ : S31)]) x32 x33 (wrap64 (x34 + 1))) else (none)) else (none)) else (none)) else ((four_Join.f x7).bind fun bt160 => ((posternref20_Join.f x8).bind fun bt165 => ((posternlaw20_blocks.f k bt160.1 bt165.1).bind fun t170 => (if t170 = true then (if bt160.2.1 = bt165.2.1 then (if bt160.2.2 = bt165.2.2 then ((posternlaw20_blocks.f k x7 x8).bind fun t171 => (some t171)) else (some false)) else (some false)) else (some false)))))
end
def posternlaw20_FourCovers.f (k : Nat) (a0 : Int) (a1 : Int) (l2 : List (S30)) : Option (Bool) := (posternlaw20_awake.f k).bind fun t141 => (if t141 = true then ((four_Cover.f k a0 a1).bind fun t142 => ((posternref20_Cover.f a0 a1).bind fun t145 => ((posternlaw20_blocks.f k t142 t145).bind fun t148 => (posternlaw20_FourCovers.j0 k l2 (!t148))))) else (posternlaw20_FourCovers.j0 k l2 true))
set_option maxHeartbeats 8000000 in
set_option maxRecDepth 100000 in
theorem posternlaw20_FourCovers.calls (k : Nat) (a0 : Int) (a1 : Int) (A2 : Option Addr) (c2 : Nat) (l2 : List (S30)) (r : Bool) (w : World) (hr2 : Kd.C k30 w A2 l2.length l2) (hc2 : l2.length ≤ c2) (hG : GW w) (h : posternlaw20_FourCovers.f k a0 a1 l2 = some r) :
    Calls Tryz.prog 3 #[.int .u32 a0, .int .u32 a1, .slice A2 l2.length c2] w fun e w' => e = .returned (.bool r) ∧ Below w.heap.size w w' := by
  have hu30 := Tryz.underlying30
  have hu31 := Tryz.underlying31
  have HR2 := Aside0.mk hr2
  have HC2 := Aside0.mk hc2
  clear hr2 hc2
  have HG := Aside0.mk hG
  clear hG
  have HB := Aside0.mk (Below.refl w.heap.size w)
  have H : ((posternlaw20_awake.f k).bind fun t141 => (if t141 = true then ((four_Cover.f k a0 a1).bind fun t142 => ((posternref20_Cover.f a0 a1).bind fun t145 => ((posternlaw20_blocks.f k t142 t145).bind fun t148 => (posternlaw20_FourCovers.j0 k l2 (!t148))))) else (posternlaw20_FourCovers.j0 k l2 true))) = some r := h
  clear h
  have HC4 := Aside0.mk H
  clear H
  go_enter Tryz.func3, Tryz.ntmps3
  go_upto_region 1 with (fail)
  go_cut [28] (fun v28 wc => ∃ (kq : Nat) (x28_3 : Bool), v28 = .bool x28_3 ∧ Aside0 (posternlaw20_FourCovers.j0 kq l2 x28_3 = some r) ∧ Aside0 (kq ≤ k) ∧ Aside0 (Below w.heap.size w wc))
  case first =>
    have H := HC4.out
    clear HC4
    replace H := Option.bind_eq_some_iff.mp H
    obtain ⟨t141, A50, H⟩ := H
    replace H : (if t141 = true then ((four_Cover.f k a0 a1).bind fun t142 => ((posternref20_Cover.f a0 a1).bind fun t145 => ((posternlaw20_blocks.f k t142 t145).bind fun t148 => (posternlaw20_FourCovers.j0 k l2 (!t148))))) else (posternlaw20_FourCovers.j0 k l2 true)) = some r := H
    have A5 := Aside0.mk A50
    clear A50
    by_cases c6 : t141 = true
    · subst c6
      have H1 : ((four_Cover.f k a0 a1).bind fun t142 => ((posternref20_Cover.f a0 a1).bind fun t145 => ((posternlaw20_blocks.f k t142 t145).bind fun t148 => (posternlaw20_FourCovers.j0 k l2 (!t148))))) = some r := by rw [if_pos rfl] at H; exact H
      clear H
      have H := H1
      clear H1
      replace H := Option.bind_eq_some_iff.mp H
      obtain ⟨t142, A70, H⟩ := H
      replace H : ((posternref20_Cover.f a0 a1).bind fun t145 => ((posternlaw20_blocks.f k t142 t145).bind fun t148 => (posternlaw20_FourCovers.j0 k l2 (!t148)))) = some r := H
      have A7 := Aside0.mk A70
      clear A70
      replace H := Option.bind_eq_some_iff.mp H
      obtain ⟨t145, A80, H⟩ := H
      replace H : ((posternlaw20_blocks.f k t142 t145).bind fun t148 => (posternlaw20_FourCovers.j0 k l2 (!t148))) = some r := H
      have A8 := Aside0.mk A80
      clear A80
      replace H := Option.bind_eq_some_iff.mp H
      obtain ⟨t148, A90, H⟩ := H
      replace H : (posternlaw20_FourCovers.j0 k l2 (!t148)) = some r := H
      have A9 := Aside0.mk A90
      clear A90
      have H' := Aside0.mk H
      clear H
      go_wp2_with (first | ((with_reducible refine gate_callee (f := 4) rfl ?_); refine goesL_ (some 17) rfl rfl Tryz.func4 (by kernel_rfl) rfl #[] rfl (by (try simp only [List.map_toArray, List.map_cons, List.map_nil]); first | done | rfl | (simp only [List.length_drop, List.length_take]; rfl)) ?_; (with_reducible refine (posternlaw20_awake.calls k  true _ (GW.keep HG.out (by repeat (first | (with_reducible first | exact HB.out | apply below_alloc | apply pw_below_drewN | apply below_drew1) | exact HB.out | exact Below.refl _ _))) A5.out).mono ?_); rintro e w10 ⟨rfl, hb⟩; refine ⟨_, rfl, ?_⟩; have n0_ := Aside0.mk (below_step (by repeat (first | (with_reducible first | exact HB.out | apply below_alloc | apply pw_below_drewN | apply below_drew1) | exact HB.out)) hb); clear HB; have HB := n0_; clear n0_; (try clear hb); (try clear hb2); (try clear hk); (try clear hi)) | (go_at_call 6; (with_reducible refine (four_Cover.calls k a0 a1 t142 _ (GW.keep HG.out (by repeat (first | (with_reducible first | exact HB.out | apply below_alloc | apply pw_below_drewN | apply below_drew1) | exact HB.out | exact Below.refl _ _))) A7.out).mono ?_); rintro e w11 ⟨v143, rfl, ho0, hb⟩; have n0_ := Aside0.mk (Kd.R_lower ho0 (below_size (by repeat (first | (with_reducible first | exact HB.out | apply below_alloc | apply pw_below_drewN | apply below_drew1) | exact HB.out)))); have n1_ := Aside0.mk (below_step (by repeat (first | (with_reducible first | exact HB.out | apply below_alloc | apply pw_below_drewN | apply below_drew1) | exact HB.out)) hb); clear HB; have HO144 := n0_; have HB := n1_; clear n0_ n1_; (try clear hb); (try clear hb2); (try clear hk); (try clear hi); (try clear ho0)) | (go_at_call 7; (with_reducible refine (posternref20_Cover.calls a0 a1 t145 _ A8.out).mono ?_); rintro e w12 ⟨v146, rfl, ho0, hb⟩; have n0_ := Aside0.mk (Kd.R_below (by (with_reducible repeat (first | apply Kd.R_alloc | apply Kd.R_drewN | apply Kd.R_drew)); exact HO144.out) hb); have n1_ := Aside0.mk (Kd.R_lower ho0 (below_size (by repeat (first | (with_reducible first | exact HB.out | apply below_alloc | apply pw_below_drewN | apply below_drew1) | exact HB.out)))); have n2_ := Aside0.mk (below_step (by repeat (first | (with_reducible first | exact HB.out | apply below_alloc | apply pw_below_drewN | apply below_drew1) | exact HB.out)) hb); clear HO144; clear HB; have HO144 := n0_; have HO147 := n1_; have HB := n2_; clear n0_ n1_ n2_; (try clear hb); (try clear hb2); (try clear hk); (try clear hi); (try clear ho0); obtain ⟨Ao13, co13, eo13⟩ := Kd.R_slice HO144.out; subst eo13; obtain ⟨Ao14, co14, eo14⟩ := Kd.R_slice HO147.out; subst eo14) | (go_at_call 5; (with_reducible refine (posternlaw20_blocks.calls k _ _ t142 _ _ t145 t148 _ ?side1 ?side2 ?side3 ?side4 A9.out).mono ?_); (case side1 => repeat (first | exact (Kd.R_reads' HO144.out).2.2 | (with_reducible refine Kd.C_alloc ?_ _) | (with_reducible refine Kd.C_drewN ?_ _) | (with_reducible refine Kd.C_drew ?_))); (case side2 => exact (Kd.R_reads' HO144.out).2.1); (case side3 => repeat (first | exact (Kd.R_reads' HO147.out).2.2 | (with_reducible refine Kd.C_alloc ?_ _) | (with_reducible refine Kd.C_drewN ?_ _) | (with_reducible refine Kd.C_drew ?_))); (case side4 => exact (Kd.R_reads' HO147.out).2.1); rintro e w15 ⟨rfl, hb⟩; have n0_ := Aside0.mk (Kd.R_below (by (with_reducible repeat (first | apply Kd.R_alloc | apply Kd.R_drewN | apply Kd.R_drew)); exact HO144.out) hb); have n1_ := Aside0.mk (Kd.R_below (by (with_reducible repeat (first | apply Kd.R_alloc | apply Kd.R_drewN | apply Kd.R_drew)); exact HO147.out) hb); have n2_ := Aside0.mk (below_step (by repeat (first | (with_reducible first | exact HB.out | apply below_alloc | apply pw_below_drewN | apply below_drew1) | exact HB.out)) hb); clear HO144; clear HO147; clear HB; have HO144 := n0_; have HO147 := n1_; have HB := n2_; clear n0_ n1_ n2_; (try clear hb); (try clear hb2); (try clear hk); (try clear hi)))
      go_meet
      case rel => exact ⟨_, (!t148), (by first | rfl | (simp; done) | (simp [*]; done)), H', ⟨by first | omega | exact Nat.le_refl _⟩, ⟨by repeat (first | (with_reducible first | exact HB.out | apply below_alloc | apply pw_below_drewN | apply below_drew1) | exact HB.out)⟩⟩
    · replace c6 := Bool.eq_false_iff.mpr c6
      subst c6
      have H1 : (posternlaw20_FourCovers.j0 k l2 true) = some r := by rw [if_neg (show ¬ (false = true) by decide)] at H; exact H
      clear H
      have H := H1
      clear H1
      have H' := Aside0.mk H
      clear H
      go_wp2_with (first | ((with_reducible refine gate_callee (f := 4) rfl ?_); refine goesL_ (some 17) rfl rfl Tryz.func4 (by kernel_rfl) rfl #[] rfl (by (try simp only [List.map_toArray, List.map_cons, List.map_nil]); first | done | rfl | (simp only [List.length_drop, List.length_take]; rfl)) ?_; (with_reducible refine (posternlaw20_awake.calls k  false _ (GW.keep HG.out (by repeat (first | (with_reducible first | exact HB.out | apply below_alloc | apply pw_below_drewN | apply below_drew1) | exact HB.out | exact Below.refl _ _))) A5.out).mono ?_); rintro e w16 ⟨rfl, hb⟩; refine ⟨_, rfl, ?_⟩; have n0_ := Aside0.mk (below_step (by repeat (first | (with_reducible first | exact HB.out | apply below_alloc | apply pw_below_drewN | apply below_drew1) | exact HB.out)) hb); clear HB; have HB := n0_; clear n0_; (try clear hb); (try clear hb2); (try clear hk); (try clear hi)))
      go_meet
      case rel => exact ⟨_, (true), (by first | rfl | (simp; done) | (simp [*]; done)), H', ⟨by first | omega | exact Nat.le_refl _⟩, ⟨by repeat (first | (with_reducible first | exact HB.out | apply below_alloc | apply pw_below_drewN | apply below_drew1) | exact HB.out)⟩⟩
  case rest =>
    clear HC4
    try clear c2
    try clear p2
    try clear c3
    try clear c4
    try clear c6
    obtain ⟨kq, x28_3, rfl, HA, HJ3, HB⟩ := hcut
    cases kq with
    | zero => exact absurd HA.out (by simp [posternlaw20_FourCovers.j0])
    | succ kj3 =>
      have H := HA.out
      clear HA
      simp only [posternlaw20_FourCovers.j0] at H
      by_cases c17 : x28_3 = true
      · subst c17
        have H1 : (some false) = some r := by rw [if_pos rfl] at H; exact H
        clear H
        have H := H1
        clear H1
        obtain rfl := Option.some.inj H
        go_wp2
        go_ret
        exact ⟨by first | rfl | (simp [errW_none, errW_some] <;> rfl) | (simp [*, errW_none, errW_some] <;> rfl), by repeat (first | (with_reducible first | exact HB.out | apply below_alloc | apply pw_below_drewN | apply below_drew1) | exact HB.out)⟩
      · replace c17 := Bool.eq_false_iff.mpr c17
        subst c17
        have H1 : ((some (([] : List (S30)) : List (S30))).bind fun y149 => (if y149.length + l2.length < 8796093022208 then (posternlaw20_FourCovers.l0 kj3 (y149 ++ l2) ([] : List (S31)) l2 (l2.length : Int) 0) else (none))) = some r := by rw [if_neg (show ¬ (false = true) by decide)] at H; exact H
        clear H
        have H := H1
        clear H1
        obtain ⟨y149, hy149⟩ : ∃ y_ : List (S30), y_ = (([] : List (S30))) := ⟨_, rfl⟩
        replace H : (if y149.length + l2.length < 8796093022208 then (posternlaw20_FourCovers.l0 kj3 (y149 ++ l2) ([] : List (S31)) l2 (l2.length : Int) 0) else (none)) = some r := by first | (rw [hy149]; with_reducible exact H) | (have H2_ := (Option.bind_some _ _).symm.trans H; rw [hy149]; with_reducible exact H2_) | (have H2_ := (Option.bind_some _ _).symm.trans H; with_reducible exact H2_) | with_reducible exact H | (rw [hy149]; exact H) | exact H
        have Ny149 := Aside0.mk hy149
        clear hy149
        by_cases c18 : y149.length + l2.length < 8796093022208
        · rw [if_pos c18] at H
          have LMc18 := Aside0.mk c18
          clear c18
          obtain ⟨y152, hy152⟩ : ∃ y_ : List (S30), y_ = (y149 ++ l2) := ⟨_, rfl⟩
          replace H : (posternlaw20_FourCovers.l0 kj3 y152 ([] : List (S31)) l2 (l2.length : Int) 0) = some r := by first | (rw [hy152]; with_reducible exact H) | (have H2_ := (Option.bind_some _ _).symm.trans H; rw [hy152]; with_reducible exact H2_) | (have H2_ := (Option.bind_some _ _).symm.trans H; with_reducible exact H2_) | with_reducible exact H | (rw [hy152]; exact H) | exact H
          have Ny152 := Aside0.mk hy152
          clear hy152
          have H' := Aside0.mk H
          clear H
          go_wp2_with (first | ((with_reducible refine gate_dst (N := 29) rfl ?_); refine Kd.R_lit k30 _ 30 ?hg (N := 29) ?hd (xs := ([] : List (S30))) (inner := []) (ok := fun _ => True) (okp := fun _ => True) ?hr ?hp (fun _ hk => hk) trivial (Below.refl _ _) (Nat.le_refl _) (by simp) ?_; (case hd => rfl); (case hg => rfl); (case hr => first | (go_simp; done) | (go_simp; rfl)); (case hp => exact (Reps.none _ _)); intro v150 w19 ho20 hb hg_ hnew_; clear hg_ hnew_; (first | rw [← Ny149.out] at ho20 | (simp only [Int.reduceToNat] at ho20; rw [← Ny149.out] at ho20)); have n0_ := Aside0.mk (Kd.R_lower ho20 (below_size (by repeat (first | (with_reducible first | exact HB.out | apply below_alloc | apply pw_below_drewN | apply below_drew1) | exact HB.out)))); have n1_ := Aside0.mk (below_step (by repeat (first | (with_reducible first | exact HB.out | apply below_alloc | apply pw_below_drewN | apply below_drew1) | exact HB.out)) hb); clear HB; have HO151 := n0_; have HB := n1_; clear n0_ n1_; clear hb ho20) | ((with_reducible refine gate_builtin (b := .append) (xs := #[.tmp 29, .tmp 30]) rfl ?_); at_builtin; refine Kd.R_append_rows k30 (w0 := w) w.heap.size rfl (.tmp 29) (.tmp 30) 23 30 (.agg #[(.int .u32 0), (.int .i64 0)]) 16 rfl Tryz.underlying23 info30 rfl (by decide) (by omega) v150 y149 l2 _ _ _ (fun _ => True) (fun _ => False) rfl rfl ?aO ?aR (fun _ _ h => h) (fun _ h => h.elim) ?aF ?aB ?aS ?aL ?_; (case aR => repeat (first | exact (Kd.C_below HR2.out HB.out) | (with_reducible refine Kd.C_alloc ?_ _) | (with_reducible refine Kd.C_drewN ?_ _) | (with_reducible refine Kd.C_drew ?_))); (case aB => exact (by repeat (first | (with_reducible first | exact HB.out | apply below_alloc | apply pw_below_drewN | apply below_drew1) | exact HB.out))); (case aF => exact (fun _ _ => trivial)); (case aO => exact (by (with_reducible repeat (first | apply Kd.R_alloc | apply Kd.R_drewN | apply Kd.R_drew)); exact HO151.out)); (case aS => exact (below_size (by repeat (first | (with_reducible first | exact HB.out | apply below_alloc | apply pw_below_drewN | apply below_drew1) | exact HB.out)))); (case aL => have := LMc18.out; omega); intro v153 w21 ho hb hg hat; rw [← Ny152.out] at ho; have n0_ := Aside0.mk (hb); have n1_ := Aside0.mk (ho); clear HB; clear HO151; have HB := n0_; have HO154 := n1_; clear n0_ n1_; clear ho hb hg hat))
          go_loopg [8, 34] kj3 (fun kq v8 v34 w' => ∃ (x8_2 : List (S31)) (x34_2 : Int), v34 = .int .i64 x34_2 ∧ Aside0 (posternlaw20_FourCovers.l0 kq y152 x8_2 l2 (l2.length : Int) x34_2 = some r) ∧ Aside0 (kq ≤ kj3) ∧ Aside0 (Kd.R k30 30 w' w.heap.size (fun _ => True) v153 y152) ∧ Aside0 (Kd.R k31 31 w' w.heap.size (fun _ => True) v8 x8_2) ∧ Aside0 (Below w.heap.size w w'))
          case atStart => exact ⟨(([] : List (S31))), (0), (by first | rfl | (simp; done) | (simp [*]; done)), H', ⟨Nat.le_refl _⟩, ⟨by (with_reducible repeat (first | apply Kd.R_alloc | apply Kd.R_drewN | apply Kd.R_drew)); exact HO154.out⟩, ⟨by first | exact Kd.R_nil _ _ _ _ _ | exact Kd.N_nil _ _ _ _ _ | exact Kd.V_nil _ _ _ _ _ | exact Kd.Q_nil _ _ _ _ _ | exact Kd.S_nil _ _ _ _ _⟩, ⟨by repeat (first | (with_reducible first | exact HB.out | apply below_alloc | apply pw_below_drewN | apply below_drew1) | exact HB.out)⟩⟩
          case round =>
            clear H'
            try clear c1
            try clear c2
            try clear p2
            try clear c3
            try clear c4
            try clear c6
            try clear c17
            try clear c18
            try clear p2
            obtain ⟨x8_2, x34_2, rfl, HA, HK2, HO_7, HO_8, HB⟩ := hrel
            cases gk with
            | zero => exact absurd HA.out (by simp [posternlaw20_FourCovers.l0])
            | succ k2 =>
              have H := HA.out
              clear HA
              simp only [posternlaw20_FourCovers.l0] at H
              by_cases c22 : x34_2 < (l2.length : Int)
              · rw [if_pos c22] at H
                have c22b0 : decide (x34_2 < (l2.length : Int)) = true := decide_eq_true c22
                clear c22
                by_cases c23 : 0 ≤ x34_2
                · rw [if_pos c23] at H
                  have c23b0 : decide (0 ≤ x34_2) = true := decide_eq_true c23
                  clear c23
                  by_cases c24 : x34_2 < (l2.length : Int)
                  · rw [if_pos c24] at H
                    have c24b0 : decide (x34_2 < (l2.length : Int)) = true := decide_eq_true c24
                    clear c24
                    by_cases c25 : x8_2.length < 8796093022208
                    · rw [if_pos c25] at H
                      have LMc25 := Aside0.mk c25
                      clear c25
                      obtain ⟨y157, hy157⟩ : ∃ y_ : List (S31), y_ = (x8_2 ++ [(⟨(rd_T30 l2 x34_2).f0, (rd_T30 l2 x34_2).f1⟩ : S31)]) := ⟨_, rfl⟩
                      replace H : (posternlaw20_FourCovers.l0 k2 y152 y157 l2 (l2.length : Int) (wrap64 (x34_2 + 1))) = some r := by first | (rw [hy157]; with_reducible exact H) | (have H2_ := (Option.bind_some _ _).symm.trans H; rw [hy157]; with_reducible exact H2_) | (have H2_ := (Option.bind_some _ _).symm.trans H; with_reducible exact H2_) | with_reducible exact H | (rw [hy157]; exact H) | exact H
                      have Ny157 := Aside0.mk hy157
                      clear hy157
                      have H' := Aside0.mk H
                      clear H
                      have p155 : 0 ≤ (x34_2 : Int) := of_decide_eq_true (by first | (with_reducible assumption) | assumption)
                      have q155 : x34_2 < (l2.length : Int) := of_decide_eq_true (by first | (with_reducible assumption) | assumption)
                      obtain ⟨ad155, e155, hx155_0, hx155_1⟩ := at_T30 HR2.out x34_2 p155 q155
                      cases e155
                      replace hx155_0 := (HB.out.cell (World.block_lt_of_cell? w _ hx155_0)).trans hx155_0
                      replace hx155_1 := (HB.out.cell (World.block_lt_of_cell? w _ hx155_1)).trans hx155_1
                      replace p155 := eq_true p155
                      replace q155 := eq_true q155
                      go_wp2_with (first | ((with_reducible refine gate_dst (N := 10) rfl ?_); refine box_event ?hg (N := 10) ?hd (cs := #[.int .u32 0, .int .i64 0]) (t := 30) ?hr ?_; (case hd => rfl); (case hg => rfl); (case hr => first | (go_simp; done) | (go_simp; rfl)); intro gb156 hg w26 hbox hb; have n0_ := Aside0.mk (Kd.R_below (Kd.R_elderB (by (with_reducible repeat (first | apply Kd.R_alloc | apply Kd.R_drewN | apply Kd.R_drew)); exact HO_7.out) gb156 (Nat.le_of_eq hg.symm)) hb); have n1_ := Aside0.mk (Kd.R_below (by (with_reducible repeat (first | apply Kd.R_alloc | apply Kd.R_drewN | apply Kd.R_drew)); exact HO_8.out) hb); have n2_ := Aside0.mk (below_step (by repeat (first | (with_reducible first | exact HB.out | apply below_alloc | apply pw_below_drewN | apply below_drew1) | exact HB.out)) hb); have n3_ := Aside0.mk (hbox); have n4_ := Aside0.mk ((by rw [hg]; exact (below_size (by repeat (first | (with_reducible first | exact HB.out | apply below_alloc | apply pw_below_drewN | apply below_drew1) | exact HB.out))) : w.heap.size ≤ gb156)); have n5_ := Aside0.mk ((by rw [hg]; exact (below_size (by repeat (first | (with_reducible first | exact HB.out | apply below_alloc | apply pw_below_drewN | apply below_drew1) | exact HB.out))) : w.heap.size ≤ gb156)); clear HO_7; clear HO_8; clear HB; have HO_7 := n0_; have HO_8 := n1_; have HB := n2_; have BK156 := n3_; have GW156 := n4_; have GE156 := n5_; clear n0_ n1_ n2_ n3_ n4_ n5_; clear hb hbox hg; have hcz27_0 : w26.cell? ⟨gb156, 0, none⟩ = some (.int .u32 0) := (blk_cell BK156.out 0).trans rfl; have hcz27_1 : w26.cell? ⟨gb156, 1, none⟩ = some (.int .i64 0) := (blk_cell BK156.out 1).trans rfl; have hfz27_0 := blk_frozen BK156.out 0; have hfz27_1 := blk_frozen BK156.out 1) | ((with_reducible refine gate_builtin (b := .append) (xs := #[.tmp 38, .tmp 44]) rfl ?_); at_builtin; refine Kd.R_append k31 (w0 := w) w.heap.size rfl (.tmp 38) (.tmp 44) 27 31 (.agg #[(.int .u32 0), (.int .i64 0)]) 16 rfl Tryz.underlying27 info31 rfl (by decide) (by omega) u8 x8_2 (⟨(rd_T30 l2 x34_2).f0, (rd_T30 l2 x34_2).f1⟩ : S31) [.int .u32 ((rd_T30 l2 x34_2).f0), .int .i64 ((rd_T30 l2 x34_2).f1)] (fun _ => True) (fun _ => False) rfl (by first | (go_simp; done) | (go_simp; rfl)) ?aP (fun _ hk => hk.elim) ?aF ?aO ?aB ?aS ?aL ?_; (case aP => exact k31_mkM _ _ _ (⟨(rd_T30 l2 x34_2).f0, (rd_T30 l2 x34_2).f1⟩ : S31)); (case aB => exact (by repeat (first | (with_reducible first | exact HB.out | apply below_alloc | apply pw_below_drewN | apply below_drew1 | refine below_set ?_ GE156.out) | exact HB.out))); (case aF => exact (fun _ _ => trivial)); (case aO => exact (by (with_reducible repeat (first | apply Kd.R_alloc | apply Kd.R_drewN | apply Kd.R_drew)); exact Kd.R_mono (Kd.R_far (p := ⟨gb156, 1, none⟩) (Kd.R_far (p := ⟨gb156, 0, none⟩) (Kd.R_types HO_8.out BK156.out (by decide)) (fun _ hk => hk.2) (.int .u32 ((rd_T30 l2 x34_2).f0))) (fun _ hk => hk.2) (.int .i64 ((rd_T30 l2 x34_2).f1))) (fun _ hk => trivial))); (case aS => exact (below_size (by repeat (first | (with_reducible first | exact HB.out | apply below_alloc | apply pw_below_drewN | apply below_drew1 | refine below_set ?_ GE156.out) | exact HB.out)))); (case aL => have := LMc25.out; omega); intro v158 w28 ho hb hg hat; rw [← Ny157.out] at ho; have n0_ := Aside0.mk (Kd.R_over' (by (with_reducible repeat (first | apply Kd.R_alloc | apply Kd.R_drewN | apply Kd.R_drew)); exact (Kd.R_mono (Kd.R_far (p := ⟨gb156, 1, none⟩) (Kd.R_far (p := ⟨gb156, 0, none⟩) (Kd.R_mono HO_7.out (fun k_ hk => (⟨hk, hk.2⟩ : _ ∧ k_ ≠ gb156))) (fun _ hk => hk.2) (.int .u32 ((rd_T30 l2 x34_2).f0))) (fun _ hk => hk.2) (.int .i64 ((rd_T30 l2 x34_2).f1))) (fun _ h_ => h_.1))) (Kd.R_typed (by (with_reducible repeat (first | apply Kd.R_alloc | apply Kd.R_drewN | apply Kd.R_drew)); exact (Kd.R_mono (Kd.R_far (p := ⟨gb156, 1, none⟩) (Kd.R_far (p := ⟨gb156, 0, none⟩) (Kd.R_types HO_8.out BK156.out (by decide)) (fun _ hk => hk.2) (.int .u32 ((rd_T30 l2 x34_2).f0))) (fun _ hk => hk.2) (.int .i64 ((rd_T30 l2 x34_2).f1))) (fun _ h_ => h_.1)))) (by decide) hg); have n1_ := Aside0.mk (blk_grown (g := gb156) (o := .cells #[.int .u32 ((rd_T30 l2 x34_2).f0), .int .i64 ((rd_T30 l2 x34_2).f1)] 30 (0, 0)) (by (with_reducible repeat (first | refine blk_drewN ?_ _ | refine blk_drew ?_ | refine blk_alloc ?_ _)); refine blk_put (cs := #[.int .u32 ((rd_T30 l2 x34_2).f0), .int .i64 0]) ?_ 1 _ rfl; (with_reducible repeat (first | refine blk_drewN ?_ _ | refine blk_drew ?_ | refine blk_alloc ?_ _)); refine blk_put (cs := #[.int .u32 0, .int .i64 0]) ?_ 0 _ rfl; (with_reducible repeat (first | refine blk_drewN ?_ _ | refine blk_drew ?_ | refine blk_alloc ?_ _)); exact BK156.out) hg (Kd.R_ne HO_8.out BK156.out (by decide))); have n2_ := Aside0.mk (hb); have n3_ := Aside0.mk (ho); clear HO_7; clear BK156; clear HB; clear HO_8; have HO_7 := n0_; have BK156 := n1_; have HB := n2_; have HO159 := n3_; clear n0_ n1_ n2_ n3_; clear ho hb hg hat))
                      go_roundg k2
                      case measure => have := HJ3.out; have := HK2.out; omega
                      case rel => exact ⟨(y157), (wrap64 (x34_2 + 1)), (by first | rfl | (simp; done) | (simp [*]; done)), H', ⟨by have := HJ3.out; have := HK2.out; omega⟩, ⟨by (with_reducible repeat (first | apply Kd.R_alloc | apply Kd.R_drewN | apply Kd.R_drew)); exact Kd.R_mono HO_7.out (fun _ hk => trivial)⟩, ⟨by (with_reducible repeat (first | apply Kd.R_alloc | apply Kd.R_drewN | apply Kd.R_drew)); exact HO159.out⟩, ⟨by repeat (first | (with_reducible first | exact HB.out | apply below_alloc | apply pw_below_drewN | apply below_drew1 | refine below_set ?_ GE156.out) | exact HB.out)⟩⟩
                    · rw [if_neg c25] at H
                      exact absurd H (by simp)
                  · rw [if_neg c24] at H
                    exact absurd H (by simp)
                · rw [if_neg c23] at H
                  exact absurd H (by simp)
              · rw [if_neg c22] at H
                have c22b0 : decide (x34_2 < (l2.length : Int)) = false := decide_eq_false c22
                clear c22
                replace H := Option.bind_eq_some_iff.mp H
                obtain ⟨⟨t160, t161, t162⟩, A290, H⟩ := H
                replace H : ((posternref20_Join.f x8_2).bind fun bt165 => ((posternlaw20_blocks.f k2 t160 bt165.1).bind fun t170 => (if t170 = true then (if t161 = bt165.2.1 then (if t162 = bt165.2.2 then ((posternlaw20_blocks.f k2 y152 x8_2).bind fun t171 => (some t171)) else (some false)) else (some false)) else (some false)))) = some r := H
                have A29 := Aside0.mk A290
                clear A290
                replace H := Option.bind_eq_some_iff.mp H
                obtain ⟨⟨t165, t166, t167⟩, A300, H⟩ := H
                replace H : ((posternlaw20_blocks.f k2 t160 t165).bind fun t170 => (if t170 = true then (if t161 = t166 then (if t162 = t167 then ((posternlaw20_blocks.f k2 y152 x8_2).bind fun t171 => (some t171)) else (some false)) else (some false)) else (some false))) = some r := H
                have A30 := Aside0.mk A300
                clear A300
                replace H := Option.bind_eq_some_iff.mp H
                obtain ⟨t170, A310, H⟩ := H
                replace H : (if t170 = true then (if t161 = t166 then (if t162 = t167 then ((posternlaw20_blocks.f k2 y152 x8_2).bind fun t171 => (some t171)) else (some false)) else (some false)) else (some false)) = some r := H
                have A31 := Aside0.mk A310
                clear A310
                by_cases c32 : t170 = true
                · subst c32
                  have H1 : (if t161 = t166 then (if t162 = t167 then ((posternlaw20_blocks.f k2 y152 x8_2).bind fun t171 => (some t171)) else (some false)) else (some false)) = some r := by rw [if_pos rfl] at H; exact H
                  clear H
                  have H := H1
                  clear H1
                  by_cases c33 : t161 = t166
                  · rw [if_pos c33] at H
                    have c33b0 : (t161 == t166) = true := beq_iff_eq.mpr c33
                    have c33b1 : (t161 != t166) = false := bne_eq_false_iff_eq.mpr c33
                    clear c33
                    by_cases c34 : t162 = t167
                    · rw [if_pos c34] at H
                      have c34b0 : (t162 == t167) = true := beq_iff_eq.mpr c34
                      have c34b1 : (t162 != t167) = false := bne_eq_false_iff_eq.mpr c34
                      clear c34
                      replace H := Option.bind_eq_some_iff.mp H
                      obtain ⟨t171, A350, H⟩ := H
                      replace H : (some t171) = some r := H
                      have A35 := Aside0.mk A350
                      clear A350
                      obtain rfl := Option.some.inj H
                      obtain ⟨Ao36, co36, eo36⟩ := Kd.R_slice HO_7.out
                      subst eo36
                      go_wp2_with (first | ((with_reducible refine gate_callee (f := 8) rfl ?_); refine goesL_ (some 49) rfl rfl Tryz.func8 (by kernel_rfl) rfl #[.slice Ao36 y152.length co36] rfl (by (try simp only [List.map_toArray, List.map_cons, List.map_nil]); first | done | rfl | (simp only [List.length_drop, List.length_take]; rfl)) ?_; (with_reducible refine (four_Join.calls _ _ y152 t160 t161 t162 _ ?side1 ?side2 (GW.keep HG.out (by repeat (first | (with_reducible first | exact HB.out | apply below_alloc | apply pw_below_drewN | apply below_drew1) | exact HB.out | exact Below.refl _ _))) A29.out).mono ?_); (case side1 => repeat (first | exact (Kd.R_reads' HO_7.out).2.2 | (with_reducible refine Kd.C_alloc ?_ _) | (with_reducible refine Kd.C_drewN ?_ _) | (with_reducible refine Kd.C_drew ?_))); (case side2 => exact (Kd.R_reads' HO_7.out).2.1); rintro e w37 ⟨v163, rfl, ho0, hb⟩; refine ⟨_, rfl, ?_⟩; have n0_ := Aside0.mk (Kd.R_elder' (by (with_reducible repeat (first | apply Kd.R_alloc | apply Kd.R_drewN | apply Kd.R_drew)); exact HO_7.out) (Kd.R_base ho0) hb); have n1_ := Aside0.mk (Kd.R_below (by (with_reducible repeat (first | apply Kd.R_alloc | apply Kd.R_drewN | apply Kd.R_drew)); exact HO_8.out) hb); have n2_ := Aside0.mk (Kd.R_lower (Kd.R_new' ho0 (Kd.R_lt (by (with_reducible repeat (first | apply Kd.R_alloc | apply Kd.R_drewN | apply Kd.R_drew)); exact HO_7.out))) (below_size (by repeat (first | (with_reducible first | exact HB.out | apply below_alloc | apply pw_below_drewN | apply below_drew1) | exact HB.out)))); have n3_ := Aside0.mk (below_step (by repeat (first | (with_reducible first | exact HB.out | apply below_alloc | apply pw_below_drewN | apply below_drew1) | exact HB.out)) hb); clear HO_7; clear HO_8; clear HB; have HO_7 := n0_; have HO_8 := n1_; have HO164 := n2_; have HB := n3_; clear n0_ n1_ n2_ n3_; (try clear hb); (try clear hb2); (try clear hk); (try clear hi); (try clear ho0); obtain ⟨Ao38, co38, eo38⟩ := Kd.R_slice HO_8.out; subst eo38) | ((with_reducible refine gate_callee (f := 9) rfl ?_); refine goesL_ (some 55) rfl rfl Tryz.func9 (by kernel_rfl) rfl #[.slice Ao38 x8_2.length co38] rfl (by (try simp only [List.map_toArray, List.map_cons, List.map_nil]); first | done | rfl | (simp only [List.length_drop, List.length_take]; rfl)) ?_; (with_reducible refine (posternref20_Join.calls _ _ x8_2 t165 t166 t167 _ ?side1 ?side2 A30.out).mono ?_); (case side1 => repeat (first | exact (Kd.R_reads' HO_8.out).2.2 | (with_reducible refine Kd.C_alloc ?_ _) | (with_reducible refine Kd.C_drewN ?_ _) | (with_reducible refine Kd.C_drew ?_))); (case side2 => exact (Kd.R_reads' HO_8.out).2.1); rintro e w39 ⟨v168, rfl, ho0, hb⟩; refine ⟨_, rfl, ?_⟩; have n0_ := Aside0.mk (Kd.R_below (by (with_reducible repeat (first | apply Kd.R_alloc | apply Kd.R_drewN | apply Kd.R_drew)); exact HO_7.out) hb); have n1_ := Aside0.mk (Kd.R_elder' (by (with_reducible repeat (first | apply Kd.R_alloc | apply Kd.R_drewN | apply Kd.R_drew)); exact HO_8.out) (Kd.R_base ho0) hb); have n2_ := Aside0.mk (Kd.R_below (by (with_reducible repeat (first | apply Kd.R_alloc | apply Kd.R_drewN | apply Kd.R_drew)); exact HO164.out) hb); have n3_ := Aside0.mk (Kd.R_lower (Kd.R_new' ho0 (Kd.R_lt (by (with_reducible repeat (first | apply Kd.R_alloc | apply Kd.R_drewN | apply Kd.R_drew)); exact HO_8.out))) (below_size (by repeat (first | (with_reducible first | exact HB.out | apply below_alloc | apply pw_below_drewN | apply below_drew1) | exact HB.out)))); have n4_ := Aside0.mk (below_step (by repeat (first | (with_reducible first | exact HB.out | apply below_alloc | apply pw_below_drewN | apply below_drew1) | exact HB.out)) hb); clear HO_7; clear HO_8; clear HO164; clear HB; have HO_7 := n0_; have HO_8 := n1_; have HO164 := n2_; have HO169 := n3_; have HB := n4_; clear n0_ n1_ n2_ n3_ n4_; (try clear hb); (try clear hb2); (try clear hk); (try clear hi); (try clear ho0); obtain ⟨Ao40, co40, eo40⟩ := Kd.R_slice HO164.out; subst eo40; obtain ⟨Ao41, co41, eo41⟩ := Kd.R_slice HO169.out; subst eo41) | ((with_reducible refine gate_callee (f := 5) rfl ?_); refine goesL_ (some 61) rfl rfl Tryz.func5 (by kernel_rfl) rfl #[.slice Ao40 t160.length co40, .slice Ao41 t165.length co41] rfl (by (try simp only [List.map_toArray, List.map_cons, List.map_nil]); first | done | rfl | (simp only [List.length_drop, List.length_take]; rfl)) ?_; (with_reducible refine (posternlaw20_blocks.calls k2 _ _ t160 _ _ t165 true _ ?side1 ?side2 ?side3 ?side4 A31.out).mono ?_); (case side1 => repeat (first | exact (Kd.R_reads' HO164.out).2.2 | (with_reducible refine Kd.C_alloc ?_ _) | (with_reducible refine Kd.C_drewN ?_ _) | (with_reducible refine Kd.C_drew ?_))); (case side2 => exact (Kd.R_reads' HO164.out).2.1); (case side3 => repeat (first | exact (Kd.R_reads' HO169.out).2.2 | (with_reducible refine Kd.C_alloc ?_ _) | (with_reducible refine Kd.C_drewN ?_ _) | (with_reducible refine Kd.C_drew ?_))); (case side4 => exact (Kd.R_reads' HO169.out).2.1); rintro e w42 ⟨rfl, hb⟩; refine ⟨_, rfl, ?_⟩; have n0_ := Aside0.mk (Kd.R_below (by (with_reducible repeat (first | apply Kd.R_alloc | apply Kd.R_drewN | apply Kd.R_drew)); exact HO_7.out) hb); have n1_ := Aside0.mk (Kd.R_below (by (with_reducible repeat (first | apply Kd.R_alloc | apply Kd.R_drewN | apply Kd.R_drew)); exact HO_8.out) hb); have n2_ := Aside0.mk (Kd.R_below (by (with_reducible repeat (first | apply Kd.R_alloc | apply Kd.R_drewN | apply Kd.R_drew)); exact HO164.out) hb); have n3_ := Aside0.mk (Kd.R_below (by (with_reducible repeat (first | apply Kd.R_alloc | apply Kd.R_drewN | apply Kd.R_drew)); exact HO169.out) hb); have n4_ := Aside0.mk (below_step (by repeat (first | (with_reducible first | exact HB.out | apply below_alloc | apply pw_below_drewN | apply below_drew1) | exact HB.out)) hb); clear HO_7; clear HO_8; clear HO164; clear HO169; clear HB; have HO_7 := n0_; have HO_8 := n1_; have HO164 := n2_; have HO169 := n3_; have HB := n4_; clear n0_ n1_ n2_ n3_ n4_; (try clear hb); (try clear hb2); (try clear hk); (try clear hi)) | (go_at_call 5; (with_reducible refine (posternlaw20_blocks.calls k2 _ _ y152 _ _ x8_2 t171 _ ?side1 ?side2 ?side3 ?side4 A35.out).mono ?_); (case side1 => repeat (first | exact (Kd.R_reads' HO_7.out).2.2 | (with_reducible refine Kd.C_alloc ?_ _) | (with_reducible refine Kd.C_drewN ?_ _) | (with_reducible refine Kd.C_drew ?_))); (case side2 => exact (Kd.R_reads' HO_7.out).2.1); (case side3 => repeat (first | exact (Kd.R_reads' HO_8.out).2.2 | (with_reducible refine Kd.C_alloc ?_ _) | (with_reducible refine Kd.C_drewN ?_ _) | (with_reducible refine Kd.C_drew ?_))); (case side4 => exact (Kd.R_reads' HO_8.out).2.1); rintro e w43 ⟨rfl, hb⟩; have n0_ := Aside0.mk (Kd.R_below (by (with_reducible repeat (first | apply Kd.R_alloc | apply Kd.R_drewN | apply Kd.R_drew)); exact HO_7.out) hb); have n1_ := Aside0.mk (Kd.R_below (by (with_reducible repeat (first | apply Kd.R_alloc | apply Kd.R_drewN | apply Kd.R_drew)); exact HO_8.out) hb); have n2_ := Aside0.mk (Kd.R_below (by (with_reducible repeat (first | apply Kd.R_alloc | apply Kd.R_drewN | apply Kd.R_drew)); exact HO164.out) hb); have n3_ := Aside0.mk (Kd.R_below (by (with_reducible repeat (first | apply Kd.R_alloc | apply Kd.R_drewN | apply Kd.R_drew)); exact HO169.out) hb); have n4_ := Aside0.mk (below_step (by repeat (first | (with_reducible first | exact HB.out | apply below_alloc | apply pw_below_drewN | apply below_drew1) | exact HB.out)) hb); clear HO_7; clear HO_8; clear HO164; clear HO169; clear HB; have HO_7 := n0_; have HO_8 := n1_; have HO164 := n2_; have HO169 := n3_; have HB := n4_; clear n0_ n1_ n2_ n3_ n4_; (try clear hb); (try clear hb2); (try clear hk); (try clear hi)))
                      go_ret
                      exact ⟨by first | rfl | (simp [errW_none, errW_some] <;> rfl) | (simp [*, errW_none, errW_some] <;> rfl), by repeat (first | (with_reducible first | exact HB.out | apply below_alloc | apply pw_below_drewN | apply below_drew1) | exact HB.out)⟩
                    · rw [if_neg c34] at H
                      have c34b0 : (t162 == t167) = false := beq_eq_false_iff_ne.mpr c34
                      have c34b1 : (t162 != t167) = true := bne_iff_ne.mpr c34
                      obtain rfl := Option.some.inj H
                      obtain ⟨Ao44, co44, eo44⟩ := Kd.R_slice HO_7.out
                      subst eo44
                      go_wp2_with (first | ((with_reducible refine gate_callee (f := 8) rfl ?_); refine goesL_ (some 49) rfl rfl Tryz.func8 (by kernel_rfl) rfl #[.slice Ao44 y152.length co44] rfl (by (try simp only [List.map_toArray, List.map_cons, List.map_nil]); first | done | rfl | (simp only [List.length_drop, List.length_take]; rfl)) ?_; (with_reducible refine (four_Join.calls _ _ y152 t160 t161 t162 _ ?side1 ?side2 (GW.keep HG.out (by repeat (first | (with_reducible first | exact HB.out | apply below_alloc | apply pw_below_drewN | apply below_drew1) | exact HB.out | exact Below.refl _ _))) A29.out).mono ?_); (case side1 => repeat (first | exact (Kd.R_reads' HO_7.out).2.2 | (with_reducible refine Kd.C_alloc ?_ _) | (with_reducible refine Kd.C_drewN ?_ _) | (with_reducible refine Kd.C_drew ?_))); (case side2 => exact (Kd.R_reads' HO_7.out).2.1); rintro e w45 ⟨v163, rfl, ho0, hb⟩; refine ⟨_, rfl, ?_⟩; have n0_ := Aside0.mk (Kd.R_elder' (by (with_reducible repeat (first | apply Kd.R_alloc | apply Kd.R_drewN | apply Kd.R_drew)); exact HO_7.out) (Kd.R_base ho0) hb); have n1_ := Aside0.mk (Kd.R_below (by (with_reducible repeat (first | apply Kd.R_alloc | apply Kd.R_drewN | apply Kd.R_drew)); exact HO_8.out) hb); have n2_ := Aside0.mk (Kd.R_lower (Kd.R_new' ho0 (Kd.R_lt (by (with_reducible repeat (first | apply Kd.R_alloc | apply Kd.R_drewN | apply Kd.R_drew)); exact HO_7.out))) (below_size (by repeat (first | (with_reducible first | exact HB.out | apply below_alloc | apply pw_below_drewN | apply below_drew1) | exact HB.out)))); have n3_ := Aside0.mk (below_step (by repeat (first | (with_reducible first | exact HB.out | apply below_alloc | apply pw_below_drewN | apply below_drew1) | exact HB.out)) hb); clear HO_7; clear HO_8; clear HB; have HO_7 := n0_; have HO_8 := n1_; have HO164 := n2_; have HB := n3_; clear n0_ n1_ n2_ n3_; (try clear hb); (try clear hb2); (try clear hk); (try clear hi); (try clear ho0); obtain ⟨Ao46, co46, eo46⟩ := Kd.R_slice HO_8.out; subst eo46) | ((with_reducible refine gate_callee (f := 9) rfl ?_); refine goesL_ (some 55) rfl rfl Tryz.func9 (by kernel_rfl) rfl #[.slice Ao46 x8_2.length co46] rfl (by (try simp only [List.map_toArray, List.map_cons, List.map_nil]); first | done | rfl | (simp only [List.length_drop, List.length_take]; rfl)) ?_; (with_reducible refine (posternref20_Join.calls _ _ x8_2 t165 t166 t167 _ ?side1 ?side2 A30.out).mono ?_); (case side1 => repeat (first | exact (Kd.R_reads' HO_8.out).2.2 | (with_reducible refine Kd.C_alloc ?_ _) | (with_reducible refine Kd.C_drewN ?_ _) | (with_reducible refine Kd.C_drew ?_))); (case side2 => exact (Kd.R_reads' HO_8.out).2.1); rintro e w47 ⟨v168, rfl, ho0, hb⟩; refine ⟨_, rfl, ?_⟩; have n0_ := Aside0.mk (Kd.R_below (by (with_reducible repeat (first | apply Kd.R_alloc | apply Kd.R_drewN | apply Kd.R_drew)); exact HO_7.out) hb); have n1_ := Aside0.mk (Kd.R_elder' (by (with_reducible repeat (first | apply Kd.R_alloc | apply Kd.R_drewN | apply Kd.R_drew)); exact HO_8.out) (Kd.R_base ho0) hb); have n2_ := Aside0.mk (Kd.R_below (by (with_reducible repeat (first | apply Kd.R_alloc | apply Kd.R_drewN | apply Kd.R_drew)); exact HO164.out) hb); have n3_ := Aside0.mk (Kd.R_lower (Kd.R_new' ho0 (Kd.R_lt (by (with_reducible repeat (first | apply Kd.R_alloc | apply Kd.R_drewN | apply Kd.R_drew)); exact HO_8.out))) (below_size (by repeat (first | (with_reducible first | exact HB.out | apply below_alloc | apply pw_below_drewN | apply below_drew1) | exact HB.out)))); have n4_ := Aside0.mk (below_step (by repeat (first | (with_reducible first | exact HB.out | apply below_alloc | apply pw_below_drewN | apply below_drew1) | exact HB.out)) hb); clear HO_7; clear HO_8; clear HO164; clear HB; have HO_7 := n0_; have HO_8 := n1_; have HO164 := n2_; have HO169 := n3_; have HB := n4_; clear n0_ n1_ n2_ n3_ n4_; (try clear hb); (try clear hb2); (try clear hk); (try clear hi); (try clear ho0); obtain ⟨Ao48, co48, eo48⟩ := Kd.R_slice HO164.out; subst eo48; obtain ⟨Ao49, co49, eo49⟩ := Kd.R_slice HO169.out; subst eo49) | ((with_reducible refine gate_callee (f := 5) rfl ?_); refine goesL_ (some 61) rfl rfl Tryz.func5 (by kernel_rfl) rfl #[.slice Ao48 t160.length co48, .slice Ao49 t165.length co49] rfl (by (try simp only [List.map_toArray, List.map_cons, List.map_nil]); first | done | rfl | (simp only [List.length_drop, List.length_take]; rfl)) ?_; (with_reducible refine (posternlaw20_blocks.calls k2 _ _ t160 _ _ t165 true _ ?side1 ?side2 ?side3 ?side4 A31.out).mono ?_); (case side1 => repeat (first | exact (Kd.R_reads' HO164.out).2.2 | (with_reducible refine Kd.C_alloc ?_ _) | (with_reducible refine Kd.C_drewN ?_ _) | (with_reducible refine Kd.C_drew ?_))); (case side2 => exact (Kd.R_reads' HO164.out).2.1); (case side3 => repeat (first | exact (Kd.R_reads' HO169.out).2.2 | (with_reducible refine Kd.C_alloc ?_ _) | (with_reducible refine Kd.C_drewN ?_ _) | (with_reducible refine Kd.C_drew ?_))); (case side4 => exact (Kd.R_reads' HO169.out).2.1); rintro e w50 ⟨rfl, hb⟩; refine ⟨_, rfl, ?_⟩; have n0_ := Aside0.mk (Kd.R_below (by (with_reducible repeat (first | apply Kd.R_alloc | apply Kd.R_drewN | apply Kd.R_drew)); exact HO_7.out) hb); have n1_ := Aside0.mk (Kd.R_below (by (with_reducible repeat (first | apply Kd.R_alloc | apply Kd.R_drewN | apply Kd.R_drew)); exact HO_8.out) hb); have n2_ := Aside0.mk (Kd.R_below (by (with_reducible repeat (first | apply Kd.R_alloc | apply Kd.R_drewN | apply Kd.R_drew)); exact HO164.out) hb); have n3_ := Aside0.mk (Kd.R_below (by (with_reducible repeat (first | apply Kd.R_alloc | apply Kd.R_drewN | apply Kd.R_drew)); exact HO169.out) hb); have n4_ := Aside0.mk (below_step (by repeat (first | (with_reducible first | exact HB.out | apply below_alloc | apply pw_below_drewN | apply below_drew1) | exact HB.out)) hb); clear HO_7; clear HO_8; clear HO164; clear HO169; clear HB; have HO_7 := n0_; have HO_8 := n1_; have HO164 := n2_; have HO169 := n3_; have HB := n4_; clear n0_ n1_ n2_ n3_ n4_; (try clear hb); (try clear hb2); (try clear hk); (try clear hi)))
                      go_ret
                      exact ⟨by first | rfl | (simp [errW_none, errW_some] <;> rfl) | (simp [*, errW_none, errW_some] <;> rfl), by repeat (first | (with_reducible first | exact HB.out | apply below_alloc | apply pw_below_drewN | apply below_drew1) | exact HB.out)⟩
                  · rw [if_neg c33] at H
                    have c33b0 : (t161 == t166) = false := beq_eq_false_iff_ne.mpr c33
                    have c33b1 : (t161 != t166) = true := bne_iff_ne.mpr c33
                    obtain rfl := Option.some.inj H
                    obtain ⟨Ao51, co51, eo51⟩ := Kd.R_slice HO_7.out
                    subst eo51
                    go_wp2_with (first | ((with_reducible refine gate_callee (f := 8) rfl ?_); refine goesL_ (some 49) rfl rfl Tryz.func8 (by kernel_rfl) rfl #[.slice Ao51 y152.length co51] rfl (by (try simp only [List.map_toArray, List.map_cons, List.map_nil]); first | done | rfl | (simp only [List.length_drop, List.length_take]; rfl)) ?_; (with_reducible refine (four_Join.calls _ _ y152 t160 t161 t162 _ ?side1 ?side2 (GW.keep HG.out (by repeat (first | (with_reducible first | exact HB.out | apply below_alloc | apply pw_below_drewN | apply below_drew1) | exact HB.out | exact Below.refl _ _))) A29.out).mono ?_); (case side1 => repeat (first | exact (Kd.R_reads' HO_7.out).2.2 | (with_reducible refine Kd.C_alloc ?_ _) | (with_reducible refine Kd.C_drewN ?_ _) | (with_reducible refine Kd.C_drew ?_))); (case side2 => exact (Kd.R_reads' HO_7.out).2.1); rintro e w52 ⟨v163, rfl, ho0, hb⟩; refine ⟨_, rfl, ?_⟩; have n0_ := Aside0.mk (Kd.R_elder' (by (with_reducible repeat (first | apply Kd.R_alloc | apply Kd.R_drewN | apply Kd.R_drew)); exact HO_7.out) (Kd.R_base ho0) hb); have n1_ := Aside0.mk (Kd.R_below (by (with_reducible repeat (first | apply Kd.R_alloc | apply Kd.R_drewN | apply Kd.R_drew)); exact HO_8.out) hb); have n2_ := Aside0.mk (Kd.R_lower (Kd.R_new' ho0 (Kd.R_lt (by (with_reducible repeat (first | apply Kd.R_alloc | apply Kd.R_drewN | apply Kd.R_drew)); exact HO_7.out))) (below_size (by repeat (first | (with_reducible first | exact HB.out | apply below_alloc | apply pw_below_drewN | apply below_drew1) | exact HB.out)))); have n3_ := Aside0.mk (below_step (by repeat (first | (with_reducible first | exact HB.out | apply below_alloc | apply pw_below_drewN | apply below_drew1) | exact HB.out)) hb); clear HO_7; clear HO_8; clear HB; have HO_7 := n0_; have HO_8 := n1_; have HO164 := n2_; have HB := n3_; clear n0_ n1_ n2_ n3_; (try clear hb); (try clear hb2); (try clear hk); (try clear hi); (try clear ho0); obtain ⟨Ao53, co53, eo53⟩ := Kd.R_slice HO_8.out; subst eo53) | ((with_reducible refine gate_callee (f := 9) rfl ?_); refine goesL_ (some 55) rfl rfl Tryz.func9 (by kernel_rfl) rfl #[.slice Ao53 x8_2.length co53] rfl (by (try simp only [List.map_toArray, List.map_cons, List.map_nil]); first | done | rfl | (simp only [List.length_drop, List.length_take]; rfl)) ?_; (with_reducible refine (posternref20_Join.calls _ _ x8_2 t165 t166 t167 _ ?side1 ?side2 A30.out).mono ?_); (case side1 => repeat (first | exact (Kd.R_reads' HO_8.out).2.2 | (with_reducible refine Kd.C_alloc ?_ _) | (with_reducible refine Kd.C_drewN ?_ _) | (with_reducible refine Kd.C_drew ?_))); (case side2 => exact (Kd.R_reads' HO_8.out).2.1); rintro e w54 ⟨v168, rfl, ho0, hb⟩; refine ⟨_, rfl, ?_⟩; have n0_ := Aside0.mk (Kd.R_below (by (with_reducible repeat (first | apply Kd.R_alloc | apply Kd.R_drewN | apply Kd.R_drew)); exact HO_7.out) hb); have n1_ := Aside0.mk (Kd.R_elder' (by (with_reducible repeat (first | apply Kd.R_alloc | apply Kd.R_drewN | apply Kd.R_drew)); exact HO_8.out) (Kd.R_base ho0) hb); have n2_ := Aside0.mk (Kd.R_below (by (with_reducible repeat (first | apply Kd.R_alloc | apply Kd.R_drewN | apply Kd.R_drew)); exact HO164.out) hb); have n3_ := Aside0.mk (Kd.R_lower (Kd.R_new' ho0 (Kd.R_lt (by (with_reducible repeat (first | apply Kd.R_alloc | apply Kd.R_drewN | apply Kd.R_drew)); exact HO_8.out))) (below_size (by repeat (first | (with_reducible first | exact HB.out | apply below_alloc | apply pw_below_drewN | apply below_drew1) | exact HB.out)))); have n4_ := Aside0.mk (below_step (by repeat (first | (with_reducible first | exact HB.out | apply below_alloc | apply pw_below_drewN | apply below_drew1) | exact HB.out)) hb); clear HO_7; clear HO_8; clear HO164; clear HB; have HO_7 := n0_; have HO_8 := n1_; have HO164 := n2_; have HO169 := n3_; have HB := n4_; clear n0_ n1_ n2_ n3_ n4_; (try clear hb); (try clear hb2); (try clear hk); (try clear hi); (try clear ho0); obtain ⟨Ao55, co55, eo55⟩ := Kd.R_slice HO164.out; subst eo55; obtain ⟨Ao56, co56, eo56⟩ := Kd.R_slice HO169.out; subst eo56) | ((with_reducible refine gate_callee (f := 5) rfl ?_); refine goesL_ (some 61) rfl rfl Tryz.func5 (by kernel_rfl) rfl #[.slice Ao55 t160.length co55, .slice Ao56 t165.length co56] rfl (by (try simp only [List.map_toArray, List.map_cons, List.map_nil]); first | done | rfl | (simp only [List.length_drop, List.length_take]; rfl)) ?_; (with_reducible refine (posternlaw20_blocks.calls k2 _ _ t160 _ _ t165 true _ ?side1 ?side2 ?side3 ?side4 A31.out).mono ?_); (case side1 => repeat (first | exact (Kd.R_reads' HO164.out).2.2 | (with_reducible refine Kd.C_alloc ?_ _) | (with_reducible refine Kd.C_drewN ?_ _) | (with_reducible refine Kd.C_drew ?_))); (case side2 => exact (Kd.R_reads' HO164.out).2.1); (case side3 => repeat (first | exact (Kd.R_reads' HO169.out).2.2 | (with_reducible refine Kd.C_alloc ?_ _) | (with_reducible refine Kd.C_drewN ?_ _) | (with_reducible refine Kd.C_drew ?_))); (case side4 => exact (Kd.R_reads' HO169.out).2.1); rintro e w57 ⟨rfl, hb⟩; refine ⟨_, rfl, ?_⟩; have n0_ := Aside0.mk (Kd.R_below (by (with_reducible repeat (first | apply Kd.R_alloc | apply Kd.R_drewN | apply Kd.R_drew)); exact HO_7.out) hb); have n1_ := Aside0.mk (Kd.R_below (by (with_reducible repeat (first | apply Kd.R_alloc | apply Kd.R_drewN | apply Kd.R_drew)); exact HO_8.out) hb); have n2_ := Aside0.mk (Kd.R_below (by (with_reducible repeat (first | apply Kd.R_alloc | apply Kd.R_drewN | apply Kd.R_drew)); exact HO164.out) hb); have n3_ := Aside0.mk (Kd.R_below (by (with_reducible repeat (first | apply Kd.R_alloc | apply Kd.R_drewN | apply Kd.R_drew)); exact HO169.out) hb); have n4_ := Aside0.mk (below_step (by repeat (first | (with_reducible first | exact HB.out | apply below_alloc | apply pw_below_drewN | apply below_drew1) | exact HB.out)) hb); clear HO_7; clear HO_8; clear HO164; clear HO169; clear HB; have HO_7 := n0_; have HO_8 := n1_; have HO164 := n2_; have HO169 := n3_; have HB := n4_; clear n0_ n1_ n2_ n3_ n4_; (try clear hb); (try clear hb2); (try clear hk); (try clear hi)))
                    go_ret
                    exact ⟨by first | rfl | (simp [errW_none, errW_some] <;> rfl) | (simp [*, errW_none, errW_some] <;> rfl), by repeat (first | (with_reducible first | exact HB.out | apply below_alloc | apply pw_below_drewN | apply below_drew1) | exact HB.out)⟩
                · replace c32 := Bool.eq_false_iff.mpr c32
                  subst c32
                  have H1 : (some false) = some r := by rw [if_neg (show ¬ (false = true) by decide)] at H; exact H
                  clear H
                  have H := H1
                  clear H1
                  obtain rfl := Option.some.inj H
                  obtain ⟨Ao58, co58, eo58⟩ := Kd.R_slice HO_7.out
                  subst eo58
                  go_wp2_with (first | ((with_reducible refine gate_callee (f := 8) rfl ?_); refine goesL_ (some 49) rfl rfl Tryz.func8 (by kernel_rfl) rfl #[.slice Ao58 y152.length co58] rfl (by (try simp only [List.map_toArray, List.map_cons, List.map_nil]); first | done | rfl | (simp only [List.length_drop, List.length_take]; rfl)) ?_; (with_reducible refine (four_Join.calls _ _ y152 t160 t161 t162 _ ?side1 ?side2 (GW.keep HG.out (by repeat (first | (with_reducible first | exact HB.out | apply below_alloc | apply pw_below_drewN | apply below_drew1) | exact HB.out | exact Below.refl _ _))) A29.out).mono ?_); (case side1 => repeat (first | exact (Kd.R_reads' HO_7.out).2.2 | (with_reducible refine Kd.C_alloc ?_ _) | (with_reducible refine Kd.C_drewN ?_ _) | (with_reducible refine Kd.C_drew ?_))); (case side2 => exact (Kd.R_reads' HO_7.out).2.1); rintro e w59 ⟨v163, rfl, ho0, hb⟩; refine ⟨_, rfl, ?_⟩; have n0_ := Aside0.mk (Kd.R_elder' (by (with_reducible repeat (first | apply Kd.R_alloc | apply Kd.R_drewN | apply Kd.R_drew)); exact HO_7.out) (Kd.R_base ho0) hb); have n1_ := Aside0.mk (Kd.R_below (by (with_reducible repeat (first | apply Kd.R_alloc | apply Kd.R_drewN | apply Kd.R_drew)); exact HO_8.out) hb); have n2_ := Aside0.mk (Kd.R_lower (Kd.R_new' ho0 (Kd.R_lt (by (with_reducible repeat (first | apply Kd.R_alloc | apply Kd.R_drewN | apply Kd.R_drew)); exact HO_7.out))) (below_size (by repeat (first | (with_reducible first | exact HB.out | apply below_alloc | apply pw_below_drewN | apply below_drew1) | exact HB.out)))); have n3_ := Aside0.mk (below_step (by repeat (first | (with_reducible first | exact HB.out | apply below_alloc | apply pw_below_drewN | apply below_drew1) | exact HB.out)) hb); clear HO_7; clear HO_8; clear HB; have HO_7 := n0_; have HO_8 := n1_; have HO164 := n2_; have HB := n3_; clear n0_ n1_ n2_ n3_; (try clear hb); (try clear hb2); (try clear hk); (try clear hi); (try clear ho0); obtain ⟨Ao60, co60, eo60⟩ := Kd.R_slice HO_8.out; subst eo60) | ((with_reducible refine gate_callee (f := 9) rfl ?_); refine goesL_ (some 55) rfl rfl Tryz.func9 (by kernel_rfl) rfl #[.slice Ao60 x8_2.length co60] rfl (by (try simp only [List.map_toArray, List.map_cons, List.map_nil]); first | done | rfl | (simp only [List.length_drop, List.length_take]; rfl)) ?_; (with_reducible refine (posternref20_Join.calls _ _ x8_2 t165 t166 t167 _ ?side1 ?side2 A30.out).mono ?_); (case side1 => repeat (first | exact (Kd.R_reads' HO_8.out).2.2 | (with_reducible refine Kd.C_alloc ?_ _) | (with_reducible refine Kd.C_drewN ?_ _) | (with_reducible refine Kd.C_drew ?_))); (case side2 => exact (Kd.R_reads' HO_8.out).2.1); rintro e w61 ⟨v168, rfl, ho0, hb⟩; refine ⟨_, rfl, ?_⟩; have n0_ := Aside0.mk (Kd.R_below (by (with_reducible repeat (first | apply Kd.R_alloc | apply Kd.R_drewN | apply Kd.R_drew)); exact HO_7.out) hb); have n1_ := Aside0.mk (Kd.R_elder' (by (with_reducible repeat (first | apply Kd.R_alloc | apply Kd.R_drewN | apply Kd.R_drew)); exact HO_8.out) (Kd.R_base ho0) hb); have n2_ := Aside0.mk (Kd.R_below (by (with_reducible repeat (first | apply Kd.R_alloc | apply Kd.R_drewN | apply Kd.R_drew)); exact HO164.out) hb); have n3_ := Aside0.mk (Kd.R_lower (Kd.R_new' ho0 (Kd.R_lt (by (with_reducible repeat (first | apply Kd.R_alloc | apply Kd.R_drewN | apply Kd.R_drew)); exact HO_8.out))) (below_size (by repeat (first | (with_reducible first | exact HB.out | apply below_alloc | apply pw_below_drewN | apply below_drew1) | exact HB.out)))); have n4_ := Aside0.mk (below_step (by repeat (first | (with_reducible first | exact HB.out | apply below_alloc | apply pw_below_drewN | apply below_drew1) | exact HB.out)) hb); clear HO_7; clear HO_8; clear HO164; clear HB; have HO_7 := n0_; have HO_8 := n1_; have HO164 := n2_; have HO169 := n3_; have HB := n4_; clear n0_ n1_ n2_ n3_ n4_; (try clear hb); (try clear hb2); (try clear hk); (try clear hi); (try clear ho0); obtain ⟨Ao62, co62, eo62⟩ := Kd.R_slice HO164.out; subst eo62; obtain ⟨Ao63, co63, eo63⟩ := Kd.R_slice HO169.out; subst eo63) | ((with_reducible refine gate_callee (f := 5) rfl ?_); refine goesL_ (some 61) rfl rfl Tryz.func5 (by kernel_rfl) rfl #[.slice Ao62 t160.length co62, .slice Ao63 t165.length co63] rfl (by (try simp only [List.map_toArray, List.map_cons, List.map_nil]); first | done | rfl | (simp only [List.length_drop, List.length_take]; rfl)) ?_; (with_reducible refine (posternlaw20_blocks.calls k2 _ _ t160 _ _ t165 false _ ?side1 ?side2 ?side3 ?side4 A31.out).mono ?_); (case side1 => repeat (first | exact (Kd.R_reads' HO164.out).2.2 | (with_reducible refine Kd.C_alloc ?_ _) | (with_reducible refine Kd.C_drewN ?_ _) | (with_reducible refine Kd.C_drew ?_))); (case side2 => exact (Kd.R_reads' HO164.out).2.1); (case side3 => repeat (first | exact (Kd.R_reads' HO169.out).2.2 | (with_reducible refine Kd.C_alloc ?_ _) | (with_reducible refine Kd.C_drewN ?_ _) | (with_reducible refine Kd.C_drew ?_))); (case side4 => exact (Kd.R_reads' HO169.out).2.1); rintro e w64 ⟨rfl, hb⟩; refine ⟨_, rfl, ?_⟩; have n0_ := Aside0.mk (Kd.R_below (by (with_reducible repeat (first | apply Kd.R_alloc | apply Kd.R_drewN | apply Kd.R_drew)); exact HO_7.out) hb); have n1_ := Aside0.mk (Kd.R_below (by (with_reducible repeat (first | apply Kd.R_alloc | apply Kd.R_drewN | apply Kd.R_drew)); exact HO_8.out) hb); have n2_ := Aside0.mk (Kd.R_below (by (with_reducible repeat (first | apply Kd.R_alloc | apply Kd.R_drewN | apply Kd.R_drew)); exact HO164.out) hb); have n3_ := Aside0.mk (Kd.R_below (by (with_reducible repeat (first | apply Kd.R_alloc | apply Kd.R_drewN | apply Kd.R_drew)); exact HO169.out) hb); have n4_ := Aside0.mk (below_step (by repeat (first | (with_reducible first | exact HB.out | apply below_alloc | apply pw_below_drewN | apply below_drew1) | exact HB.out)) hb); clear HO_7; clear HO_8; clear HO164; clear HO169; clear HB; have HO_7 := n0_; have HO_8 := n1_; have HO164 := n2_; have HO169 := n3_; have HB := n4_; clear n0_ n1_ n2_ n3_ n4_; (try clear hb); (try clear hb2); (try clear hk); (try clear hi)))
                  go_ret
                  exact ⟨by first | rfl | (simp [errW_none, errW_some] <;> rfl) | (simp [*, errW_none, errW_some] <;> rfl), by repeat (first | (with_reducible first | exact HB.out | apply below_alloc | apply pw_below_drewN | apply below_drew1) | exact HB.out)⟩
        · rw [if_neg c18] at H
          exact absurd H (by simp)
end Go.Proofs.YtgnahagnmodpdaaGreatDoor.X
