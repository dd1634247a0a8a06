/- What four.Parse answers. -/
import Derived.Test.YtgnahagnmodpdaaDoorFourV
import Derived.Test.YtgnahagnmodpdaaDoorExt
import Derived.Outline
namespace Go.Proofs.YtgnahagnmodpdaaDoor
open Go.RowKit Go.Proofs.YtgnahagnmodpdaaDoorW.PrintWords Go.Proofs.YtgnahagnmodpdaaDoor.X
set_option linter.unusedVariables false
set_option linter.unusedSimpArgs false

/-- The first part that is no number. -/
def firstErr : List (List UInt8) → Int → Option Int
  | [], _ => none
  | p :: ps, i => if (numberV p).2.2 = 0 then firstErr ps (i + 1) else some i
/-- The first number but the last one that is above 255. -/
def firstBig : List Int → Int → Option Int
  | [], _ => none
  | [_], _ => none
  | x :: y :: r, i => if 255 < x then some i else firstBig (y :: r) (i + 1)
def sumFrom : List Int → Nat → Int
  | [], _ => 0
  | [x], _ => x
  | x :: y :: r, i => sumFrom (y :: r) (i + 1) + x * 256 ^ (3 - i)
/-- The address of parts. -/
def parseP (P : List (List UInt8)) : Int × Int × Int := if 4 < P.length then (0, 4, 201) else
  match firstErr P 0 with
  | some i => (0, i, 200)
  | none =>
    match firstBig (P.map fun p => (numberV p).1) 0 with
    | some i => (0, i, 202)
    | none => if 256 ^ (5 - P.length) ≤ ((P.map fun p => (numberV p).1).getLastD 0) then (0, P.length - 1, 202) else (sumFrom (P.map fun p => (numberV p).1) 0, 0, 0)
def parseV (l : List UInt8) : Int × Int × Int := parseP (partsV l)
def ParseP (r : Int × Int × Int) (w : World) (e : Ending) (w' : World) : Prop := e = .returned (.tuple #[.int .u32 r.1, .int .i64 r.2.1, .int .i64 r.2.2]) ∧ Below w.heap.size w w'
theorem parseP_mk {r : Int × Int × Int} {w w' : World} {a b c : Int} (h : r = (a, b, c)) (hb : Below w.heap.size w w') : ParseP r w (.returned (.tuple #[.int .u32 a, .int .i64 b, .int .i64 c])) w' := by
  subst h
  exact ⟨rfl, hb⟩
theorem strs_at {w : World} {base : Nat} {e : Nat} {ok : Nat → Prop} {v : Value} {xs : List ByteArray} (h : Kd.R Kd.string e w base ok v xs) (hn : 0 < xs.length) :
    ∃ g c, v = .slice (some ⟨g, 0, none⟩) xs.length c ∧ g < w.heap.size ∧ ∀ i, i < xs.length → w.cell? ⟨g, i, none⟩ = some (.string (xs.getD i ByteArray.empty)) := by
  obtain ⟨inner, ho⟩ := Kd.R_own h
  rcases ho.2 with ⟨_, h0⟩ | ⟨g, c, cur, rfl, _, hg, _⟩
  · omega
  · have hc : ∀ i, i < xs.length → w.cell? ⟨g, i, none⟩ = some (.string (xs.getD i ByteArray.empty)) := fun i hi => by
      have := (Kd.R_cell (enc := Value.string) (h1 := fun _ => rfl) ByteArray.empty h (i : Int) (by omega) (by omega)).1
      simpa [rdOf] using this
    exact ⟨g, c, rfl, World.block_lt_of_cell? w _ (hc 0 hn), hc⟩

theorem not255 {x : Int} (h : x ≤ 255) : (255 < x) = False := eq_false (by omega)

set_option maxHeartbeats 8000000 in
set_option maxRecDepth 100000 in
theorem parse_walk1 (s : ByteArray) (hs : s.size ≤ 4294967280) (p0 : List UInt8) (hP : partsV s.data.toList = [p0]) (w : World) (hG : GW w) :
    Calls Tryd.prog 13 #[.string s] w (ParseP (parseP [p0]) w) := by
  have hpf := parts_f s hs
  have hlen : ∀ q ∈ [p0], (BA q).size ≤ 9223372036854775806 := fun q hq => by rw [ba_size]; have := partsV_part s.data.toList q (hP ▸ hq); have := size_len s; omega
  rw [hP] at hpf
  have n0 := number_calls (BA p0) (hlen p0 (by simp))
  obtain ⟨⟨x0, y0, e0⟩, hv0⟩ : ∃ r, numberV p0 = r := ⟨_, rfl⟩
  have hx0 := numberV_le p0
  have hq0 := numberV_err p0
  rw [hv0] at hq0
  have Q0 : Aside0 (e0 = 0 ∨ e0 = 200) := ⟨hq0⟩
  clear hq0
  rw [ba_list] at n0
  rw [hv0] at n0 hx0
  obtain ⟨l0, u0⟩ := hx0
  simp only at l0 u0
  have N0 := Aside0.mk n0
  have V0 := Aside0.mk hv0
  clear n0 hv0
  have HP := Aside0.mk hpf
  have HG := Aside0.mk hG
  clear hpf hG hlen hP
  go_enter Tryd.func13, Tryd.ntmps13
  go_wp2_with fail
  refine (four_parts.calls s _ _ HG.out HP.out).mono ?_
  rintro e w1 ⟨v, rfl, hR, hb1⟩
  have B1 := below_step (Below.refl _ _) hb1
  obtain ⟨g, c, rfl, lg, hC⟩ := strs_at hR (by simp)
  simp only [List.map_cons, List.map_nil, List.length_cons, List.length_nil, Nat.zero_add, Nat.reduceAdd] at hC ⊢
  clear hR hb1 HG HP
  obtain ⟨b, hbd⟩ : ∃ b, b = w1.heap.size := ⟨_, rfl⟩
  have lad : g < b := by rw [hbd]; exact lg
  have s0 : (w1.alloc (.cells #[.int .u64 0, .int .u64 0, .int .u64 0, .int .u64 0] 75)).cell? ⟨g, 0, none⟩ = some (.string (BA p0)) := (Below.cell (p := ⟨g, 0, none⟩) (below_alloc (Below.refl _ _) _) lg).trans (hC 0 (by decide))
  have a0 : (w1.alloc (.cells #[.int .u64 0, .int .u64 0, .int .u64 0, .int .u64 0] 75)).cell? ⟨b, 0, none⟩ = some (.int .u64 0) := by rw [hbd]; go_simp
  have a1 : (w1.alloc (.cells #[.int .u64 0, .int .u64 0, .int .u64 0, .int .u64 0] 75)).cell? ⟨b, 1, none⟩ = some (.int .u64 0) := by rw [hbd]; go_simp
  have a2 : (w1.alloc (.cells #[.int .u64 0, .int .u64 0, .int .u64 0, .int .u64 0] 75)).cell? ⟨b, 2, none⟩ = some (.int .u64 0) := by rw [hbd]; go_simp
  have a3 : (w1.alloc (.cells #[.int .u64 0, .int .u64 0, .int .u64 0, .int .u64 0] 75)).cell? ⟨b, 3, none⟩ = some (.int .u64 0) := by rw [hbd]; go_simp
  have z : ∀ j, (w1.alloc (.cells #[.int .u64 0, .int .u64 0, .int .u64 0, .int .u64 0] 75)).frozen? ⟨b, j, none⟩ = false := fun j => by rw [hbd]; go_simp
  have lb : b < (w1.alloc (.cells #[.int .u64 0, .int .u64 0, .int .u64 0, .int .u64 0] 75)).heap.size := by rw [hbd]; simp
  have lw : w.heap.size ≤ b := by rw [hbd]; exact B1.size
  have BB := below_alloc B1 (.cells #[.int .u64 0, .int .u64 0, .int .u64 0, .int .u64 0] 75)
  go_wp2_with fail
  rw [← hbd]
  obtain ⟨W, hW⟩ : ∃ W, W = w1.alloc (.cells #[.int .u64 0, .int .u64 0, .int .u64 0, .int .u64 0] 75) := ⟨_, rfl⟩
  rw [← hW] at s0 a0 a1 a2 a3 z lb BB ⊢
  clear hW hbd hC B1
  refine wp_loop_rounds 2 ?_
  rw [rounds_succ]
  go_wp2_with fail
  refine (N0.out _).mono ?_
  rintro e v0 ⟨rfl, hv0⟩
  replace a0 := (hv0.cell (p := ⟨b, 0, none⟩) lb).trans a0
  replace a1 := (hv0.cell (p := ⟨b, 1, none⟩) lb).trans a1
  replace a2 := (hv0.cell (p := ⟨b, 2, none⟩) lb).trans a2
  replace a3 := (hv0.cell (p := ⟨b, 3, none⟩) lb).trans a3
  replace z : ∀ j, v0.frozen? ⟨b, j, none⟩ = false := fun j => (hv0.frozen (p := ⟨b, j, none⟩) lb).trans (z j)
  replace BB := below_step BB hv0
  replace lb := Nat.lt_of_lt_of_le lb hv0.size
  clear hv0 s0
  rcases Q0.out with q | q <;> subst q
  case inr => go_wp2_with fail; go_ret3; exact parseP_mk (by simp [parseP, firstErr, V0.out]) BB
  have zz := z 0
  go_wp2_with fail
  clear zz
  replace a0 : (v0.setCell ⟨b, 0, none⟩ (.int .u64 x0)).cell? ⟨b, 0, none⟩ = some (.int .u64 x0) := by go_simp
  replace a1 : (v0.setCell ⟨b, 0, none⟩ (.int .u64 x0)).cell? ⟨b, 1, none⟩ = some (.int .u64 0) := by go_simp
  replace a2 : (v0.setCell ⟨b, 0, none⟩ (.int .u64 x0)).cell? ⟨b, 2, none⟩ = some (.int .u64 0) := by go_simp
  replace a3 : (v0.setCell ⟨b, 0, none⟩ (.int .u64 x0)).cell? ⟨b, 3, none⟩ = some (.int .u64 0) := by go_simp
  replace z : ∀ j, (v0.setCell ⟨b, 0, none⟩ (.int .u64 x0)).frozen? ⟨b, j, none⟩ = false := fun j => by rw [World.frozen?_setCell]; exact z j
  replace lb : b < (v0.setCell ⟨b, 0, none⟩ (.int .u64 x0)).heap.size := by simpa using lb
  replace BB := below_set (j := 0) (v := .int .u64 x0) BB lw
  rw [rounds_succ]
  go_wp2_with fail
  refine wp_loop_rounds 1 ?_
  rw [rounds_succ]
  by_cases hl : 4294967296 ≤ x0
  · go_wp2_with fail
    go_ret3
    exact parseP_mk (by simp [parseP, firstErr, firstBig, sumFrom, V0.out, hl]) BB
  go_wp2_with fail
  refine wp_loop_rounds 1 ?_
  rw [rounds_succ]
  go_wp2_with fail
  go_ret3
  refine parseP_mk ?_ BB
  simp [parseP, firstErr, firstBig, sumFrom, V0.out, hl]
  all_goals (rw [if_neg (by omega)]; congr 1; omega)

set_option maxHeartbeats 8000000 in
set_option maxRecDepth 100000 in
theorem parse_walk2 (s : ByteArray) (hs : s.size ≤ 4294967280) (p0 : List UInt8) (p1 : List UInt8) (hP : partsV s.data.toList = [p0, p1]) (w : World) (hG : GW w) :
    Calls Tryd.prog 13 #[.string s] w (ParseP (parseP [p0, p1]) w) := by
  have hpf := parts_f s hs
  have hlen : ∀ q ∈ [p0, p1], (BA q).size ≤ 9223372036854775806 := fun q hq => by rw [ba_size]; have := partsV_part s.data.toList q (hP ▸ hq); have := size_len s; omega
  rw [hP] at hpf
  have n0 := number_calls (BA p0) (hlen p0 (by simp))
  obtain ⟨⟨x0, y0, e0⟩, hv0⟩ : ∃ r, numberV p0 = r := ⟨_, rfl⟩
  have hx0 := numberV_le p0
  have hq0 := numberV_err p0
  rw [hv0] at hq0
  have Q0 : Aside0 (e0 = 0 ∨ e0 = 200) := ⟨hq0⟩
  clear hq0
  rw [ba_list] at n0
  rw [hv0] at n0 hx0
  obtain ⟨l0, u0⟩ := hx0
  simp only at l0 u0
  have N0 := Aside0.mk n0
  have V0 := Aside0.mk hv0
  clear n0 hv0
  have n1 := number_calls (BA p1) (hlen p1 (by simp))
  obtain ⟨⟨x1, y1, e1⟩, hv1⟩ : ∃ r, numberV p1 = r := ⟨_, rfl⟩
  have hx1 := numberV_le p1
  have hq1 := numberV_err p1
  rw [hv1] at hq1
  have Q1 : Aside0 (e1 = 0 ∨ e1 = 200) := ⟨hq1⟩
  clear hq1
  rw [ba_list] at n1
  rw [hv1] at n1 hx1
  obtain ⟨l1, u1⟩ := hx1
  simp only at l1 u1
  have N1 := Aside0.mk n1
  have V1 := Aside0.mk hv1
  clear n1 hv1
  have HP := Aside0.mk hpf
  have HG := Aside0.mk hG
  clear hpf hG hlen hP
  go_enter Tryd.func13, Tryd.ntmps13
  go_wp2_with fail
  refine (four_parts.calls s _ _ HG.out HP.out).mono ?_
  rintro e w1 ⟨v, rfl, hR, hb1⟩
  have B1 := below_step (Below.refl _ _) hb1
  obtain ⟨g, c, rfl, lg, hC⟩ := strs_at hR (by simp)
  simp only [List.map_cons, List.map_nil, List.length_cons, List.length_nil, Nat.zero_add, Nat.reduceAdd] at hC ⊢
  clear hR hb1 HG HP
  obtain ⟨b, hbd⟩ : ∃ b, b = w1.heap.size := ⟨_, rfl⟩
  have lad : g < b := by rw [hbd]; exact lg
  have s0 : (w1.alloc (.cells #[.int .u64 0, .int .u64 0, .int .u64 0, .int .u64 0] 75)).cell? ⟨g, 0, none⟩ = some (.string (BA p0)) := (Below.cell (p := ⟨g, 0, none⟩) (below_alloc (Below.refl _ _) _) lg).trans (hC 0 (by decide))
  have s1 : (w1.alloc (.cells #[.int .u64 0, .int .u64 0, .int .u64 0, .int .u64 0] 75)).cell? ⟨g, 1, none⟩ = some (.string (BA p1)) := (Below.cell (p := ⟨g, 1, none⟩) (below_alloc (Below.refl _ _) _) lg).trans (hC 1 (by decide))
  have a0 : (w1.alloc (.cells #[.int .u64 0, .int .u64 0, .int .u64 0, .int .u64 0] 75)).cell? ⟨b, 0, none⟩ = some (.int .u64 0) := by rw [hbd]; go_simp
  have a1 : (w1.alloc (.cells #[.int .u64 0, .int .u64 0, .int .u64 0, .int .u64 0] 75)).cell? ⟨b, 1, none⟩ = some (.int .u64 0) := by rw [hbd]; go_simp
  have a2 : (w1.alloc (.cells #[.int .u64 0, .int .u64 0, .int .u64 0, .int .u64 0] 75)).cell? ⟨b, 2, none⟩ = some (.int .u64 0) := by rw [hbd]; go_simp
  have a3 : (w1.alloc (.cells #[.int .u64 0, .int .u64 0, .int .u64 0, .int .u64 0] 75)).cell? ⟨b, 3, none⟩ = some (.int .u64 0) := by rw [hbd]; go_simp
  have z : ∀ j, (w1.alloc (.cells #[.int .u64 0, .int .u64 0, .int .u64 0, .int .u64 0] 75)).frozen? ⟨b, j, none⟩ = false := fun j => by rw [hbd]; go_simp
  have lb : b < (w1.alloc (.cells #[.int .u64 0, .int .u64 0, .int .u64 0, .int .u64 0] 75)).heap.size := by rw [hbd]; simp
  have lw : w.heap.size ≤ b := by rw [hbd]; exact B1.size
  have BB := below_alloc B1 (.cells #[.int .u64 0, .int .u64 0, .int .u64 0, .int .u64 0] 75)
  go_wp2_with fail
  rw [← hbd]
  obtain ⟨W, hW⟩ : ∃ W, W = w1.alloc (.cells #[.int .u64 0, .int .u64 0, .int .u64 0, .int .u64 0] 75) := ⟨_, rfl⟩
  rw [← hW] at s0 s1 a0 a1 a2 a3 z lb BB ⊢
  clear hW hbd hC B1
  refine wp_loop_rounds 3 ?_
  rw [rounds_succ]
  go_wp2_with fail
  refine (N0.out _).mono ?_
  rintro e v0 ⟨rfl, hv0⟩
  replace a0 := (hv0.cell (p := ⟨b, 0, none⟩) lb).trans a0
  replace a1 := (hv0.cell (p := ⟨b, 1, none⟩) lb).trans a1
  replace a2 := (hv0.cell (p := ⟨b, 2, none⟩) lb).trans a2
  replace a3 := (hv0.cell (p := ⟨b, 3, none⟩) lb).trans a3
  replace z : ∀ j, v0.frozen? ⟨b, j, none⟩ = false := fun j => (hv0.frozen (p := ⟨b, j, none⟩) lb).trans (z j)
  replace BB := below_step BB hv0
  replace s1 := (hv0.cell (p := ⟨g, 1, none⟩) (Nat.lt_trans lad lb)).trans s1
  replace lb := Nat.lt_of_lt_of_le lb hv0.size
  clear hv0 s0
  rcases Q0.out with q | q <;> subst q
  case inr => go_wp2_with fail; go_ret3; exact parseP_mk (by simp [parseP, firstErr, V0.out, V1.out]) BB
  have zz := z 0
  go_wp2_with fail
  clear zz
  replace a0 : (v0.setCell ⟨b, 0, none⟩ (.int .u64 x0)).cell? ⟨b, 0, none⟩ = some (.int .u64 x0) := by go_simp
  replace a1 : (v0.setCell ⟨b, 0, none⟩ (.int .u64 x0)).cell? ⟨b, 1, none⟩ = some (.int .u64 0) := by go_simp
  replace a2 : (v0.setCell ⟨b, 0, none⟩ (.int .u64 x0)).cell? ⟨b, 2, none⟩ = some (.int .u64 0) := by go_simp
  replace a3 : (v0.setCell ⟨b, 0, none⟩ (.int .u64 x0)).cell? ⟨b, 3, none⟩ = some (.int .u64 0) := by go_simp
  replace z : ∀ j, (v0.setCell ⟨b, 0, none⟩ (.int .u64 x0)).frozen? ⟨b, j, none⟩ = false := fun j => by rw [World.frozen?_setCell]; exact z j
  replace lb : b < (v0.setCell ⟨b, 0, none⟩ (.int .u64 x0)).heap.size := by simpa using lb
  replace BB := below_set (j := 0) (v := .int .u64 x0) BB lw
  replace s1 : (v0.setCell ⟨b, 0, none⟩ (.int .u64 x0)).cell? ⟨g, 1, none⟩ = some (.string (BA p1)) := (World.cell?_setCell_other _ _ _ _ (fun e => absurd (congrArg Addr.block e) (Nat.ne_of_gt lad))).trans s1
  rw [rounds_succ]
  go_wp2_with fail
  refine (N1.out _).mono ?_
  rintro e v1 ⟨rfl, hv1⟩
  replace a0 := (hv1.cell (p := ⟨b, 0, none⟩) lb).trans a0
  replace a1 := (hv1.cell (p := ⟨b, 1, none⟩) lb).trans a1
  replace a2 := (hv1.cell (p := ⟨b, 2, none⟩) lb).trans a2
  replace a3 := (hv1.cell (p := ⟨b, 3, none⟩) lb).trans a3
  replace z : ∀ j, v1.frozen? ⟨b, j, none⟩ = false := fun j => (hv1.frozen (p := ⟨b, j, none⟩) lb).trans (z j)
  replace BB := below_step BB hv1
  replace lb := Nat.lt_of_lt_of_le lb hv1.size
  clear hv1 s1
  rcases Q1.out with q | q <;> subst q
  case inr => go_wp2_with fail; go_ret3; exact parseP_mk (by simp [parseP, firstErr, V0.out, V1.out]) BB
  have zz := z 1
  go_wp2_with fail
  clear zz
  replace a0 : (v1.setCell ⟨b, 1, none⟩ (.int .u64 x1)).cell? ⟨b, 0, none⟩ = some (.int .u64 x0) := by go_simp
  replace a1 : (v1.setCell ⟨b, 1, none⟩ (.int .u64 x1)).cell? ⟨b, 1, none⟩ = some (.int .u64 x1) := by go_simp
  replace a2 : (v1.setCell ⟨b, 1, none⟩ (.int .u64 x1)).cell? ⟨b, 2, none⟩ = some (.int .u64 0) := by go_simp
  replace a3 : (v1.setCell ⟨b, 1, none⟩ (.int .u64 x1)).cell? ⟨b, 3, none⟩ = some (.int .u64 0) := by go_simp
  replace z : ∀ j, (v1.setCell ⟨b, 1, none⟩ (.int .u64 x1)).frozen? ⟨b, j, none⟩ = false := fun j => by rw [World.frozen?_setCell]; exact z j
  replace lb : b < (v1.setCell ⟨b, 1, none⟩ (.int .u64 x1)).heap.size := by simpa using lb
  replace BB := below_set (j := 1) (v := .int .u64 x1) BB lw
  rw [rounds_succ]
  go_wp2_with fail
  refine wp_loop_rounds 2 ?_
  rw [rounds_succ]
  by_cases hx0 : 255 < x0
  · go_wp2_with fail
    go_ret3
    exact parseP_mk (by simp [parseP, firstErr, firstBig, sumFrom, V0.out, V1.out, hx0]) BB
  have t0 : x0 ≤ 255 := by omega
  clear hx0
  go_wp2_with fail
  rw [rounds_succ]
  by_cases hl : 16777216 ≤ x1
  · go_wp2_with fail
    go_ret3
    exact parseP_mk (by simp [parseP, firstErr, firstBig, sumFrom, V0.out, V1.out, not255 t0, hl]) BB
  go_wp2_with fail
  refine wp_loop_rounds 2 ?_
  rw [rounds_succ]
  go_wp2_with fail
  rw [rounds_succ]
  go_wp2_with fail
  go_ret3
  refine parseP_mk ?_ BB
  simp [parseP, firstErr, firstBig, sumFrom, V0.out, V1.out, not255 t0, hl]
  all_goals (rw [if_neg (by omega)]; congr 1; omega)

set_option maxHeartbeats 8000000 in
set_option maxRecDepth 100000 in
theorem parse_walk3 (s : ByteArray) (hs : s.size ≤ 4294967280) (p0 : List UInt8) (p1 : List UInt8) (p2 : List UInt8) (hP : partsV s.data.toList = [p0, p1, p2]) (w : World) (hG : GW w) :
    Calls Tryd.prog 13 #[.string s] w (ParseP (parseP [p0, p1, p2]) w) := by
  have hpf := parts_f s hs
  have hlen : ∀ q ∈ [p0, p1, p2], (BA q).size ≤ 9223372036854775806 := fun q hq => by rw [ba_size]; have := partsV_part s.data.toList q (hP ▸ hq); have := size_len s; omega
  rw [hP] at hpf
  have n0 := number_calls (BA p0) (hlen p0 (by simp))
  obtain ⟨⟨x0, y0, e0⟩, hv0⟩ : ∃ r, numberV p0 = r := ⟨_, rfl⟩
  have hx0 := numberV_le p0
  have hq0 := numberV_err p0
  rw [hv0] at hq0
  have Q0 : Aside0 (e0 = 0 ∨ e0 = 200) := ⟨hq0⟩
  clear hq0
  rw [ba_list] at n0
  rw [hv0] at n0 hx0
  obtain ⟨l0, u0⟩ := hx0
  simp only at l0 u0
  have N0 := Aside0.mk n0
  have V0 := Aside0.mk hv0
  clear n0 hv0
  have n1 := number_calls (BA p1) (hlen p1 (by simp))
  obtain ⟨⟨x1, y1, e1⟩, hv1⟩ : ∃ r, numberV p1 = r := ⟨_, rfl⟩
  have hx1 := numberV_le p1
  have hq1 := numberV_err p1
  rw [hv1] at hq1
  have Q1 : Aside0 (e1 = 0 ∨ e1 = 200) := ⟨hq1⟩
  clear hq1
  rw [ba_list] at n1
  rw [hv1] at n1 hx1
  obtain ⟨l1, u1⟩ := hx1
  simp only at l1 u1
  have N1 := Aside0.mk n1
  have V1 := Aside0.mk hv1
  clear n1 hv1
  have n2 := number_calls (BA p2) (hlen p2 (by simp))
  obtain ⟨⟨x2, y2, e2⟩, hv2⟩ : ∃ r, numberV p2 = r := ⟨_, rfl⟩
  have hx2 := numberV_le p2
  have hq2 := numberV_err p2
  rw [hv2] at hq2
  have Q2 : Aside0 (e2 = 0 ∨ e2 = 200) := ⟨hq2⟩
  clear hq2
  rw [ba_list] at n2
  rw [hv2] at n2 hx2
  obtain ⟨l2, u2⟩ := hx2
  simp only at l2 u2
  have N2 := Aside0.mk n2
  have V2 := Aside0.mk hv2
  clear n2 hv2
  have HP := Aside0.mk hpf
  have HG := Aside0.mk hG
  clear hpf hG hlen hP
  go_enter Tryd.func13, Tryd.ntmps13
  go_wp2_with fail
  refine (four_parts.calls s _ _ HG.out HP.out).mono ?_
  rintro e w1 ⟨v, rfl, hR, hb1⟩
  have B1 := below_step (Below.refl _ _) hb1
  obtain ⟨g, c, rfl, lg, hC⟩ := strs_at hR (by simp)
  simp only [List.map_cons, List.map_nil, List.length_cons, List.length_nil, Nat.zero_add, Nat.reduceAdd] at hC ⊢
  clear hR hb1 HG HP
  obtain ⟨b, hbd⟩ : ∃ b, b = w1.heap.size := ⟨_, rfl⟩
  have lad : g < b := by rw [hbd]; exact lg
  have s0 : (w1.alloc (.cells #[.int .u64 0, .int .u64 0, .int .u64 0, .int .u64 0] 75)).cell? ⟨g, 0, none⟩ = some (.string (BA p0)) := (Below.cell (p := ⟨g, 0, none⟩) (below_alloc (Below.refl _ _) _) lg).trans (hC 0 (by decide))
  have s1 : (w1.alloc (.cells #[.int .u64 0, .int .u64 0, .int .u64 0, .int .u64 0] 75)).cell? ⟨g, 1, none⟩ = some (.string (BA p1)) := (Below.cell (p := ⟨g, 1, none⟩) (below_alloc (Below.refl _ _) _) lg).trans (hC 1 (by decide))
  have s2 : (w1.alloc (.cells #[.int .u64 0, .int .u64 0, .int .u64 0, .int .u64 0] 75)).cell? ⟨g, 2, none⟩ = some (.string (BA p2)) := (Below.cell (p := ⟨g, 2, none⟩) (below_alloc (Below.refl _ _) _) lg).trans (hC 2 (by decide))
  have a0 : (w1.alloc (.cells #[.int .u64 0, .int .u64 0, .int .u64 0, .int .u64 0] 75)).cell? ⟨b, 0, none⟩ = some (.int .u64 0) := by rw [hbd]; go_simp
  have a1 : (w1.alloc (.cells #[.int .u64 0, .int .u64 0, .int .u64 0, .int .u64 0] 75)).cell? ⟨b, 1, none⟩ = some (.int .u64 0) := by rw [hbd]; go_simp
  have a2 : (w1.alloc (.cells #[.int .u64 0, .int .u64 0, .int .u64 0, .int .u64 0] 75)).cell? ⟨b, 2, none⟩ = some (.int .u64 0) := by rw [hbd]; go_simp
  have a3 : (w1.alloc (.cells #[.int .u64 0, .int .u64 0, .int .u64 0, .int .u64 0] 75)).cell? ⟨b, 3, none⟩ = some (.int .u64 0) := by rw [hbd]; go_simp
  have z : ∀ j, (w1.alloc (.cells #[.int .u64 0, .int .u64 0, .int .u64 0, .int .u64 0] 75)).frozen? ⟨b, j, none⟩ = false := fun j => by rw [hbd]; go_simp
  have lb : b < (w1.alloc (.cells #[.int .u64 0, .int .u64 0, .int .u64 0, .int .u64 0] 75)).heap.size := by rw [hbd]; simp
  have lw : w.heap.size ≤ b := by rw [hbd]; exact B1.size
  have BB := below_alloc B1 (.cells #[.int .u64 0, .int .u64 0, .int .u64 0, .int .u64 0] 75)
  go_wp2_with fail
  rw [← hbd]
  obtain ⟨W, hW⟩ : ∃ W, W = w1.alloc (.cells #[.int .u64 0, .int .u64 0, .int .u64 0, .int .u64 0] 75) := ⟨_, rfl⟩
  rw [← hW] at s0 s1 s2 a0 a1 a2 a3 z lb BB ⊢
  clear hW hbd hC B1
  refine wp_loop_rounds 4 ?_
  rw [rounds_succ]
  go_wp2_with fail
  refine (N0.out _).mono ?_
  rintro e v0 ⟨rfl, hv0⟩
  replace a0 := (hv0.cell (p := ⟨b, 0, none⟩) lb).trans a0
  replace a1 := (hv0.cell (p := ⟨b, 1, none⟩) lb).trans a1
  replace a2 := (hv0.cell (p := ⟨b, 2, none⟩) lb).trans a2
  replace a3 := (hv0.cell (p := ⟨b, 3, none⟩) lb).trans a3
  replace z : ∀ j, v0.frozen? ⟨b, j, none⟩ = false := fun j => (hv0.frozen (p := ⟨b, j, none⟩) lb).trans (z j)
  replace BB := below_step BB hv0
  replace s1 := (hv0.cell (p := ⟨g, 1, none⟩) (Nat.lt_trans lad lb)).trans s1
  replace s2 := (hv0.cell (p := ⟨g, 2, none⟩) (Nat.lt_trans lad lb)).trans s2
  replace lb := Nat.lt_of_lt_of_le lb hv0.size
  clear hv0 s0
  rcases Q0.out with q | q <;> subst q
  case inr => go_wp2_with fail; go_ret3; exact parseP_mk (by simp [parseP, firstErr, V0.out, V1.out, V2.out]) BB
  have zz := z 0
  go_wp2_with fail
  clear zz
  replace a0 : (v0.setCell ⟨b, 0, none⟩ (.int .u64 x0)).cell? ⟨b, 0, none⟩ = some (.int .u64 x0) := by go_simp
  replace a1 : (v0.setCell ⟨b, 0, none⟩ (.int .u64 x0)).cell? ⟨b, 1, none⟩ = some (.int .u64 0) := by go_simp
  replace a2 : (v0.setCell ⟨b, 0, none⟩ (.int .u64 x0)).cell? ⟨b, 2, none⟩ = some (.int .u64 0) := by go_simp
  replace a3 : (v0.setCell ⟨b, 0, none⟩ (.int .u64 x0)).cell? ⟨b, 3, none⟩ = some (.int .u64 0) := by go_simp
  replace z : ∀ j, (v0.setCell ⟨b, 0, none⟩ (.int .u64 x0)).frozen? ⟨b, j, none⟩ = false := fun j => by rw [World.frozen?_setCell]; exact z j
  replace lb : b < (v0.setCell ⟨b, 0, none⟩ (.int .u64 x0)).heap.size := by simpa using lb
  replace BB := below_set (j := 0) (v := .int .u64 x0) BB lw
  replace s1 : (v0.setCell ⟨b, 0, none⟩ (.int .u64 x0)).cell? ⟨g, 1, none⟩ = some (.string (BA p1)) := (World.cell?_setCell_other _ _ _ _ (fun e => absurd (congrArg Addr.block e) (Nat.ne_of_gt lad))).trans s1
  replace s2 : (v0.setCell ⟨b, 0, none⟩ (.int .u64 x0)).cell? ⟨g, 2, none⟩ = some (.string (BA p2)) := (World.cell?_setCell_other _ _ _ _ (fun e => absurd (congrArg Addr.block e) (Nat.ne_of_gt lad))).trans s2
  rw [rounds_succ]
  go_wp2_with fail
  refine (N1.out _).mono ?_
  rintro e v1 ⟨rfl, hv1⟩
  replace a0 := (hv1.cell (p := ⟨b, 0, none⟩) lb).trans a0
  replace a1 := (hv1.cell (p := ⟨b, 1, none⟩) lb).trans a1
  replace a2 := (hv1.cell (p := ⟨b, 2, none⟩) lb).trans a2
  replace a3 := (hv1.cell (p := ⟨b, 3, none⟩) lb).trans a3
  replace z : ∀ j, v1.frozen? ⟨b, j, none⟩ = false := fun j => (hv1.frozen (p := ⟨b, j, none⟩) lb).trans (z j)
  replace BB := below_step BB hv1
  replace s2 := (hv1.cell (p := ⟨g, 2, none⟩) (Nat.lt_trans lad lb)).trans s2
  replace lb := Nat.lt_of_lt_of_le lb hv1.size
  clear hv1 s1
  rcases Q1.out with q | q <;> subst q
  case inr => go_wp2_with fail; go_ret3; exact parseP_mk (by simp [parseP, firstErr, V0.out, V1.out, V2.out]) BB
  have zz := z 1
  go_wp2_with fail
  clear zz
  replace a0 : (v1.setCell ⟨b, 1, none⟩ (.int .u64 x1)).cell? ⟨b, 0, none⟩ = some (.int .u64 x0) := by go_simp
  replace a1 : (v1.setCell ⟨b, 1, none⟩ (.int .u64 x1)).cell? ⟨b, 1, none⟩ = some (.int .u64 x1) := by go_simp
  replace a2 : (v1.setCell ⟨b, 1, none⟩ (.int .u64 x1)).cell? ⟨b, 2, none⟩ = some (.int .u64 0) := by go_simp
  replace a3 : (v1.setCell ⟨b, 1, none⟩ (.int .u64 x1)).cell? ⟨b, 3, none⟩ = some (.int .u64 0) := by go_simp
  replace z : ∀ j, (v1.setCell ⟨b, 1, none⟩ (.int .u64 x1)).frozen? ⟨b, j, none⟩ = false := fun j => by rw [World.frozen?_setCell]; exact z j
  replace lb : b < (v1.setCell ⟨b, 1, none⟩ (.int .u64 x1)).heap.size := by simpa using lb
  replace BB := below_set (j := 1) (v := .int .u64 x1) BB lw
  replace s2 : (v1.setCell ⟨b, 1, none⟩ (.int .u64 x1)).cell? ⟨g, 2, none⟩ = some (.string (BA p2)) := (World.cell?_setCell_other _ _ _ _ (fun e => absurd (congrArg Addr.block e) (Nat.ne_of_gt lad))).trans s2
  rw [rounds_succ]
  go_wp2_with fail
  refine (N2.out _).mono ?_
  rintro e v2 ⟨rfl, hv2⟩
  replace a0 := (hv2.cell (p := ⟨b, 0, none⟩) lb).trans a0
  replace a1 := (hv2.cell (p := ⟨b, 1, none⟩) lb).trans a1
  replace a2 := (hv2.cell (p := ⟨b, 2, none⟩) lb).trans a2
  replace a3 := (hv2.cell (p := ⟨b, 3, none⟩) lb).trans a3
  replace z : ∀ j, v2.frozen? ⟨b, j, none⟩ = false := fun j => (hv2.frozen (p := ⟨b, j, none⟩) lb).trans (z j)
  replace BB := below_step BB hv2
  replace lb := Nat.lt_of_lt_of_le lb hv2.size
  clear hv2 s2
  rcases Q2.out with q | q <;> subst q
  case inr => go_wp2_with fail; go_ret3; exact parseP_mk (by simp [parseP, firstErr, V0.out, V1.out, V2.out]) BB
  have zz := z 2
  go_wp2_with fail
  clear zz
  replace a0 : (v2.setCell ⟨b, 2, none⟩ (.int .u64 x2)).cell? ⟨b, 0, none⟩ = some (.int .u64 x0) := by go_simp
  replace a1 : (v2.setCell ⟨b, 2, none⟩ (.int .u64 x2)).cell? ⟨b, 1, none⟩ = some (.int .u64 x1) := by go_simp
  replace a2 : (v2.setCell ⟨b, 2, none⟩ (.int .u64 x2)).cell? ⟨b, 2, none⟩ = some (.int .u64 x2) := by go_simp
  replace a3 : (v2.setCell ⟨b, 2, none⟩ (.int .u64 x2)).cell? ⟨b, 3, none⟩ = some (.int .u64 0) := by go_simp
  replace z : ∀ j, (v2.setCell ⟨b, 2, none⟩ (.int .u64 x2)).frozen? ⟨b, j, none⟩ = false := fun j => by rw [World.frozen?_setCell]; exact z j
  replace lb : b < (v2.setCell ⟨b, 2, none⟩ (.int .u64 x2)).heap.size := by simpa using lb
  replace BB := below_set (j := 2) (v := .int .u64 x2) BB lw
  rw [rounds_succ]
  go_wp2_with fail
  refine wp_loop_rounds 3 ?_
  rw [rounds_succ]
  by_cases hx0 : 255 < x0
  · go_wp2_with fail
    go_ret3
    exact parseP_mk (by simp [parseP, firstErr, firstBig, sumFrom, V0.out, V1.out, V2.out, hx0]) BB
  have t0 : x0 ≤ 255 := by omega
  clear hx0
  go_wp2_with fail
  rw [rounds_succ]
  by_cases hx1 : 255 < x1
  · go_wp2_with fail
    go_ret3
    exact parseP_mk (by simp [parseP, firstErr, firstBig, sumFrom, V0.out, V1.out, V2.out, not255 t0, hx1]) BB
  have t1 : x1 ≤ 255 := by omega
  clear hx1
  go_wp2_with fail
  rw [rounds_succ]
  by_cases hl : 65536 ≤ x2
  · go_wp2_with fail
    go_ret3
    exact parseP_mk (by simp [parseP, firstErr, firstBig, sumFrom, V0.out, V1.out, V2.out, not255 t0, not255 t1, hl]) BB
  go_wp2_with fail
  refine wp_loop_rounds 3 ?_
  rw [rounds_succ]
  go_wp2_with fail
  rw [rounds_succ]
  go_wp2_with fail
  rw [rounds_succ]
  go_wp2_with fail
  go_ret3
  refine parseP_mk ?_ BB
  simp [parseP, firstErr, firstBig, sumFrom, V0.out, V1.out, V2.out, not255 t0, not255 t1, hl]
  all_goals (rw [if_neg (by omega)]; congr 1; omega)

set_option maxHeartbeats 8000000 in
set_option maxRecDepth 100000 in
theorem parse_walk4 (s : ByteArray) (hs : s.size ≤ 4294967280) (p0 : List UInt8) (p1 : List UInt8) (p2 : List UInt8) (p3 : List UInt8) (hP : partsV s.data.toList = [p0, p1, p2, p3]) (w : World) (hG : GW w) :
    Calls Tryd.prog 13 #[.string s] w (ParseP (parseP [p0, p1, p2, p3]) w) := by
  have hpf := parts_f s hs
  have hlen : ∀ q ∈ [p0, p1, p2, p3], (BA q).size ≤ 9223372036854775806 := fun q hq => by rw [ba_size]; have := partsV_part s.data.toList q (hP ▸ hq); have := size_len s; omega
  rw [hP] at hpf
  have n0 := number_calls (BA p0) (hlen p0 (by simp))
  obtain ⟨⟨x0, y0, e0⟩, hv0⟩ : ∃ r, numberV p0 = r := ⟨_, rfl⟩
  have hx0 := numberV_le p0
  have hq0 := numberV_err p0
  rw [hv0] at hq0
  have Q0 : Aside0 (e0 = 0 ∨ e0 = 200) := ⟨hq0⟩
  clear hq0
  rw [ba_list] at n0
  rw [hv0] at n0 hx0
  obtain ⟨l0, u0⟩ := hx0
  simp only at l0 u0
  have N0 := Aside0.mk n0
  have V0 := Aside0.mk hv0
  clear n0 hv0
  have n1 := number_calls (BA p1) (hlen p1 (by simp))
  obtain ⟨⟨x1, y1, e1⟩, hv1⟩ : ∃ r, numberV p1 = r := ⟨_, rfl⟩
  have hx1 := numberV_le p1
  have hq1 := numberV_err p1
  rw [hv1] at hq1
  have Q1 : Aside0 (e1 = 0 ∨ e1 = 200) := ⟨hq1⟩
  clear hq1
  rw [ba_list] at n1
  rw [hv1] at n1 hx1
  obtain ⟨l1, u1⟩ := hx1
  simp only at l1 u1
  have N1 := Aside0.mk n1
  have V1 := Aside0.mk hv1
  clear n1 hv1
  have n2 := number_calls (BA p2) (hlen p2 (by simp))
  obtain ⟨⟨x2, y2, e2⟩, hv2⟩ : ∃ r, numberV p2 = r := ⟨_, rfl⟩
  have hx2 := numberV_le p2
  have hq2 := numberV_err p2
  rw [hv2] at hq2
  have Q2 : Aside0 (e2 = 0 ∨ e2 = 200) := ⟨hq2⟩
  clear hq2
  rw [ba_list] at n2
  rw [hv2] at n2 hx2
  obtain ⟨l2, u2⟩ := hx2
  simp only at l2 u2
  have N2 := Aside0.mk n2
  have V2 := Aside0.mk hv2
  clear n2 hv2
  have n3 := number_calls (BA p3) (hlen p3 (by simp))
  obtain ⟨⟨x3, y3, e3⟩, hv3⟩ : ∃ r, numberV p3 = r := ⟨_, rfl⟩
  have hx3 := numberV_le p3
  have hq3 := numberV_err p3
  rw [hv3] at hq3
  have Q3 : Aside0 (e3 = 0 ∨ e3 = 200) := ⟨hq3⟩
  clear hq3
  rw [ba_list] at n3
  rw [hv3] at n3 hx3
  obtain ⟨l3, u3⟩ := hx3
  simp only at l3 u3
  have N3 := Aside0.mk n3
  have V3 := Aside0.mk hv3
  clear n3 hv3
  have HP := Aside0.mk hpf
  have HG := Aside0.mk hG
  clear hpf hG hlen hP
  go_enter Tryd.func13, Tryd.ntmps13
  go_wp2_with fail
  refine (four_parts.calls s _ _ HG.out HP.out).mono ?_
  rintro e w1 ⟨v, rfl, hR, hb1⟩
  have B1 := below_step (Below.refl _ _) hb1
  obtain ⟨g, c, rfl, lg, hC⟩ := strs_at hR (by simp)
  simp only [List.map_cons, List.map_nil, List.length_cons, List.length_nil, Nat.zero_add, Nat.reduceAdd] at hC ⊢
  clear hR hb1 HG HP
  obtain ⟨b, hbd⟩ : ∃ b, b = w1.heap.size := ⟨_, rfl⟩
  have lad : g < b := by rw [hbd]; exact lg
  have s0 : (w1.alloc (.cells #[.int .u64 0, .int .u64 0, .int .u64 0, .int .u64 0] 75)).cell? ⟨g, 0, none⟩ = some (.string (BA p0)) := (Below.cell (p := ⟨g, 0, none⟩) (below_alloc (Below.refl _ _) _) lg).trans (hC 0 (by decide))
  have s1 : (w1.alloc (.cells #[.int .u64 0, .int .u64 0, .int .u64 0, .int .u64 0] 75)).cell? ⟨g, 1, none⟩ = some (.string (BA p1)) := (Below.cell (p := ⟨g, 1, none⟩) (below_alloc (Below.refl _ _) _) lg).trans (hC 1 (by decide))
  have s2 : (w1.alloc (.cells #[.int .u64 0, .int .u64 0, .int .u64 0, .int .u64 0] 75)).cell? ⟨g, 2, none⟩ = some (.string (BA p2)) := (Below.cell (p := ⟨g, 2, none⟩) (below_alloc (Below.refl _ _) _) lg).trans (hC 2 (by decide))
  have s3 : (w1.alloc (.cells #[.int .u64 0, .int .u64 0, .int .u64 0, .int .u64 0] 75)).cell? ⟨g, 3, none⟩ = some (.string (BA p3)) := (Below.cell (p := ⟨g, 3, none⟩) (below_alloc (Below.refl _ _) _) lg).trans (hC 3 (by decide))
  have a0 : (w1.alloc (.cells #[.int .u64 0, .int .u64 0, .int .u64 0, .int .u64 0] 75)).cell? ⟨b, 0, none⟩ = some (.int .u64 0) := by rw [hbd]; go_simp
  have a1 : (w1.alloc (.cells #[.int .u64 0, .int .u64 0, .int .u64 0, .int .u64 0] 75)).cell? ⟨b, 1, none⟩ = some (.int .u64 0) := by rw [hbd]; go_simp
  have a2 : (w1.alloc (.cells #[.int .u64 0, .int .u64 0, .int .u64 0, .int .u64 0] 75)).cell? ⟨b, 2, none⟩ = some (.int .u64 0) := by rw [hbd]; go_simp
  have a3 : (w1.alloc (.cells #[.int .u64 0, .int .u64 0, .int .u64 0, .int .u64 0] 75)).cell? ⟨b, 3, none⟩ = some (.int .u64 0) := by rw [hbd]; go_simp
  have z : ∀ j, (w1.alloc (.cells #[.int .u64 0, .int .u64 0, .int .u64 0, .int .u64 0] 75)).frozen? ⟨b, j, none⟩ = false := fun j => by rw [hbd]; go_simp
  have lb : b < (w1.alloc (.cells #[.int .u64 0, .int .u64 0, .int .u64 0, .int .u64 0] 75)).heap.size := by rw [hbd]; simp
  have lw : w.heap.size ≤ b := by rw [hbd]; exact B1.size
  have BB := below_alloc B1 (.cells #[.int .u64 0, .int .u64 0, .int .u64 0, .int .u64 0] 75)
  go_wp2_with fail
  rw [← hbd]
  obtain ⟨W, hW⟩ : ∃ W, W = w1.alloc (.cells #[.int .u64 0, .int .u64 0, .int .u64 0, .int .u64 0] 75) := ⟨_, rfl⟩
  rw [← hW] at s0 s1 s2 s3 a0 a1 a2 a3 z lb BB ⊢
  clear hW hbd hC B1
  refine wp_loop_rounds 5 ?_
  rw [rounds_succ]
  go_wp2_with fail
  refine (N0.out _).mono ?_
  rintro e v0 ⟨rfl, hv0⟩
  replace a0 := (hv0.cell (p := ⟨b, 0, none⟩) lb).trans a0
  replace a1 := (hv0.cell (p := ⟨b, 1, none⟩) lb).trans a1
  replace a2 := (hv0.cell (p := ⟨b, 2, none⟩) lb).trans a2
  replace a3 := (hv0.cell (p := ⟨b, 3, none⟩) lb).trans a3
  replace z : ∀ j, v0.frozen? ⟨b, j, none⟩ = false := fun j => (hv0.frozen (p := ⟨b, j, none⟩) lb).trans (z j)
  replace BB := below_step BB hv0
  replace s1 := (hv0.cell (p := ⟨g, 1, none⟩) (Nat.lt_trans lad lb)).trans s1
  replace s2 := (hv0.cell (p := ⟨g, 2, none⟩) (Nat.lt_trans lad lb)).trans s2
  replace s3 := (hv0.cell (p := ⟨g, 3, none⟩) (Nat.lt_trans lad lb)).trans s3
  replace lb := Nat.lt_of_lt_of_le lb hv0.size
  clear hv0 s0
  rcases Q0.out with q | q <;> subst q
  case inr => go_wp2_with fail; go_ret3; exact parseP_mk (by simp [parseP, firstErr, V0.out, V1.out, V2.out, V3.out]) BB
  have zz := z 0
  go_wp2_with fail
  clear zz
  replace a0 : (v0.setCell ⟨b, 0, none⟩ (.int .u64 x0)).cell? ⟨b, 0, none⟩ = some (.int .u64 x0) := by go_simp
  replace a1 : (v0.setCell ⟨b, 0, none⟩ (.int .u64 x0)).cell? ⟨b, 1, none⟩ = some (.int .u64 0) := by go_simp
  replace a2 : (v0.setCell ⟨b, 0, none⟩ (.int .u64 x0)).cell? ⟨b, 2, none⟩ = some (.int .u64 0) := by go_simp
  replace a3 : (v0.setCell ⟨b, 0, none⟩ (.int .u64 x0)).cell? ⟨b, 3, none⟩ = some (.int .u64 0) := by go_simp
  replace z : ∀ j, (v0.setCell ⟨b, 0, none⟩ (.int .u64 x0)).frozen? ⟨b, j, none⟩ = false := fun j => by rw [World.frozen?_setCell]; exact z j
  replace lb : b < (v0.setCell ⟨b, 0, none⟩ (.int .u64 x0)).heap.size := by simpa using lb
  replace BB := below_set (j := 0) (v := .int .u64 x0) BB lw
  replace s1 : (v0.setCell ⟨b, 0, none⟩ (.int .u64 x0)).cell? ⟨g, 1, none⟩ = some (.string (BA p1)) := (World.cell?_setCell_other _ _ _ _ (fun e => absurd (congrArg Addr.block e) (Nat.ne_of_gt lad))).trans s1
  replace s2 : (v0.setCell ⟨b, 0, none⟩ (.int .u64 x0)).cell? ⟨g, 2, none⟩ = some (.string (BA p2)) := (World.cell?_setCell_other _ _ _ _ (fun e => absurd (congrArg Addr.block e) (Nat.ne_of_gt lad))).trans s2
  replace s3 : (v0.setCell ⟨b, 0, none⟩ (.int .u64 x0)).cell? ⟨g, 3, none⟩ = some (.string (BA p3)) := (World.cell?_setCell_other _ _ _ _ (fun e => absurd (congrArg Addr.block e) (Nat.ne_of_gt lad))).trans s3
  rw [rounds_succ]
  go_wp2_with fail
  refine (N1.out _).mono ?_
  rintro e v1 ⟨rfl, hv1⟩
  replace a0 := (hv1.cell (p := ⟨b, 0, none⟩) lb).trans a0
  replace a1 := (hv1.cell (p := ⟨b, 1, none⟩) lb).trans a1
  replace a2 := (hv1.cell (p := ⟨b, 2, none⟩) lb).trans a2
  replace a3 := (hv1.cell (p := ⟨b, 3, none⟩) lb).trans a3
  replace z : ∀ j, v1.frozen? ⟨b, j, none⟩ = false := fun j => (hv1.frozen (p := ⟨b, j, none⟩) lb).trans (z j)
  replace BB := below_step BB hv1
  replace s2 := (hv1.cell (p := ⟨g, 2, none⟩) (Nat.lt_trans lad lb)).trans s2
  replace s3 := (hv1.cell (p := ⟨g, 3, none⟩) (Nat.lt_trans lad lb)).trans s3
  replace lb := Nat.lt_of_lt_of_le lb hv1.size
  clear hv1 s1
  rcases Q1.out with q | q <;> subst q
  case inr => go_wp2_with fail; go_ret3; exact parseP_mk (by simp [parseP, firstErr, V0.out, V1.out, V2.out, V3.out]) BB
  have zz := z 1
  go_wp2_with fail
  clear zz
  replace a0 : (v1.setCell ⟨b, 1, none⟩ (.int .u64 x1)).cell? ⟨b, 0, none⟩ = some (.int .u64 x0) := by go_simp
  replace a1 : (v1.setCell ⟨b, 1, none⟩ (.int .u64 x1)).cell? ⟨b, 1, none⟩ = some (.int .u64 x1) := by go_simp
  replace a2 : (v1.setCell ⟨b, 1, none⟩ (.int .u64 x1)).cell? ⟨b, 2, none⟩ = some (.int .u64 0) := by go_simp
  replace a3 : (v1.setCell ⟨b, 1, none⟩ (.int .u64 x1)).cell? ⟨b, 3, none⟩ = some (.int .u64 0) := by go_simp
  replace z : ∀ j, (v1.setCell ⟨b, 1, none⟩ (.int .u64 x1)).frozen? ⟨b, j, none⟩ = false := fun j => by rw [World.frozen?_setCell]; exact z j
  replace lb : b < (v1.setCell ⟨b, 1, none⟩ (.int .u64 x1)).heap.size := by simpa using lb
  replace BB := below_set (j := 1) (v := .int .u64 x1) BB lw
  replace s2 : (v1.setCell ⟨b, 1, none⟩ (.int .u64 x1)).cell? ⟨g, 2, none⟩ = some (.string (BA p2)) := (World.cell?_setCell_other _ _ _ _ (fun e => absurd (congrArg Addr.block e) (Nat.ne_of_gt lad))).trans s2
  replace s3 : (v1.setCell ⟨b, 1, none⟩ (.int .u64 x1)).cell? ⟨g, 3, none⟩ = some (.string (BA p3)) := (World.cell?_setCell_other _ _ _ _ (fun e => absurd (congrArg Addr.block e) (Nat.ne_of_gt lad))).trans s3
  rw [rounds_succ]
  go_wp2_with fail
  refine (N2.out _).mono ?_
  rintro e v2 ⟨rfl, hv2⟩
  replace a0 := (hv2.cell (p := ⟨b, 0, none⟩) lb).trans a0
  replace a1 := (hv2.cell (p := ⟨b, 1, none⟩) lb).trans a1
  replace a2 := (hv2.cell (p := ⟨b, 2, none⟩) lb).trans a2
  replace a3 := (hv2.cell (p := ⟨b, 3, none⟩) lb).trans a3
  replace z : ∀ j, v2.frozen? ⟨b, j, none⟩ = false := fun j => (hv2.frozen (p := ⟨b, j, none⟩) lb).trans (z j)
  replace BB := below_step BB hv2
  replace s3 := (hv2.cell (p := ⟨g, 3, none⟩) (Nat.lt_trans lad lb)).trans s3
  replace lb := Nat.lt_of_lt_of_le lb hv2.size
  clear hv2 s2
  rcases Q2.out with q | q <;> subst q
  case inr => go_wp2_with fail; go_ret3; exact parseP_mk (by simp [parseP, firstErr, V0.out, V1.out, V2.out, V3.out]) BB
  have zz := z 2
  go_wp2_with fail
  clear zz
  replace a0 : (v2.setCell ⟨b, 2, none⟩ (.int .u64 x2)).cell? ⟨b, 0, none⟩ = some (.int .u64 x0) := by go_simp
  replace a1 : (v2.setCell ⟨b, 2, none⟩ (.int .u64 x2)).cell? ⟨b, 1, none⟩ = some (.int .u64 x1) := by go_simp
  replace a2 : (v2.setCell ⟨b, 2, none⟩ (.int .u64 x2)).cell? ⟨b, 2, none⟩ = some (.int .u64 x2) := by go_simp
  replace a3 : (v2.setCell ⟨b, 2, none⟩ (.int .u64 x2)).cell? ⟨b, 3, none⟩ = some (.int .u64 0) := by go_simp
  replace z : ∀ j, (v2.setCell ⟨b, 2, none⟩ (.int .u64 x2)).frozen? ⟨b, j, none⟩ = false := fun j => by rw [World.frozen?_setCell]; exact z j
  replace lb : b < (v2.setCell ⟨b, 2, none⟩ (.int .u64 x2)).heap.size := by simpa using lb
  replace BB := below_set (j := 2) (v := .int .u64 x2) BB lw
  replace s3 : (v2.setCell ⟨b, 2, none⟩ (.int .u64 x2)).cell? ⟨g, 3, none⟩ = some (.string (BA p3)) := (World.cell?_setCell_other _ _ _ _ (fun e => absurd (congrArg Addr.block e) (Nat.ne_of_gt lad))).trans s3
  rw [rounds_succ]
  go_wp2_with fail
  refine (N3.out _).mono ?_
  rintro e v3 ⟨rfl, hv3⟩
  replace a0 := (hv3.cell (p := ⟨b, 0, none⟩) lb).trans a0
  replace a1 := (hv3.cell (p := ⟨b, 1, none⟩) lb).trans a1
  replace a2 := (hv3.cell (p := ⟨b, 2, none⟩) lb).trans a2
  replace a3 := (hv3.cell (p := ⟨b, 3, none⟩) lb).trans a3
  replace z : ∀ j, v3.frozen? ⟨b, j, none⟩ = false := fun j => (hv3.frozen (p := ⟨b, j, none⟩) lb).trans (z j)
  replace BB := below_step BB hv3
  replace lb := Nat.lt_of_lt_of_le lb hv3.size
  clear hv3 s3
  rcases Q3.out with q | q <;> subst q
  case inr => go_wp2_with fail; go_ret3; exact parseP_mk (by simp [parseP, firstErr, V0.out, V1.out, V2.out, V3.out]) BB
  have zz := z 3
  go_wp2_with fail
  clear zz
  replace a0 : (v3.setCell ⟨b, 3, none⟩ (.int .u64 x3)).cell? ⟨b, 0, none⟩ = some (.int .u64 x0) := by go_simp
  replace a1 : (v3.setCell ⟨b, 3, none⟩ (.int .u64 x3)).cell? ⟨b, 1, none⟩ = some (.int .u64 x1) := by go_simp
  replace a2 : (v3.setCell ⟨b, 3, none⟩ (.int .u64 x3)).cell? ⟨b, 2, none⟩ = some (.int .u64 x2) := by go_simp
  replace a3 : (v3.setCell ⟨b, 3, none⟩ (.int .u64 x3)).cell? ⟨b, 3, none⟩ = some (.int .u64 x3) := by go_simp
  replace z : ∀ j, (v3.setCell ⟨b, 3, none⟩ (.int .u64 x3)).frozen? ⟨b, j, none⟩ = false := fun j => by rw [World.frozen?_setCell]; exact z j
  replace lb : b < (v3.setCell ⟨b, 3, none⟩ (.int .u64 x3)).heap.size := by simpa using lb
  replace BB := below_set (j := 3) (v := .int .u64 x3) BB lw
  rw [rounds_succ]
  go_wp2_with fail
  refine wp_loop_rounds 4 ?_
  rw [rounds_succ]
  by_cases hx0 : 255 < x0
  · go_wp2_with fail
    go_ret3
    exact parseP_mk (by simp [parseP, firstErr, firstBig, sumFrom, V0.out, V1.out, V2.out, V3.out, hx0]) BB
  have t0 : x0 ≤ 255 := by omega
  clear hx0
  go_wp2_with fail
  rw [rounds_succ]
  by_cases hx1 : 255 < x1
  · go_wp2_with fail
    go_ret3
    exact parseP_mk (by simp [parseP, firstErr, firstBig, sumFrom, V0.out, V1.out, V2.out, V3.out, not255 t0, hx1]) BB
  have t1 : x1 ≤ 255 := by omega
  clear hx1
  go_wp2_with fail
  rw [rounds_succ]
  by_cases hx2 : 255 < x2
  · go_wp2_with fail
    go_ret3
    exact parseP_mk (by simp [parseP, firstErr, firstBig, sumFrom, V0.out, V1.out, V2.out, V3.out, not255 t0, not255 t1, hx2]) BB
  have t2 : x2 ≤ 255 := by omega
  clear hx2
  go_wp2_with fail
  rw [rounds_succ]
  by_cases hl : 256 ≤ x3
  · go_wp2_with fail
    go_ret3
    exact parseP_mk (by simp [parseP, firstErr, firstBig, sumFrom, V0.out, V1.out, V2.out, V3.out, not255 t0, not255 t1, not255 t2, hl]) BB
  go_wp2_with fail
  refine wp_loop_rounds 4 ?_
  rw [rounds_succ]
  go_wp2_with fail
  rw [rounds_succ]
  go_wp2_with fail
  rw [rounds_succ]
  go_wp2_with fail
  rw [rounds_succ]
  go_wp2_with fail
  go_ret3
  refine parseP_mk ?_ BB
  simp [parseP, firstErr, firstBig, sumFrom, V0.out, V1.out, V2.out, V3.out, not255 t0, not255 t1, not255 t2, hl]
  all_goals (rw [if_neg (by omega)]; congr 1; omega)

set_option maxHeartbeats 1000000 in
set_option maxRecDepth 100000 in
theorem parse_walkN (s : ByteArray) (hs : s.size ≤ 4294967280) (hP : 4 < (partsV s.data.toList).length) (w : World) (hG : GW w) :
    Calls Tryd.prog 13 #[.string s] w (ParseP (parseP (partsV s.data.toList)) w) := by
  have hpf := parts_f s hs
  have hv : parseP (partsV s.data.toList) = (0, 4, 201) := if_pos hP
  have HV := Aside0.mk hv
  have HP := Aside0.mk hpf
  obtain ⟨n, hn⟩ : ∃ n, n = ((partsV s.data.toList).map BA).length := ⟨_, rfl⟩
  have hn4 : 4 < n := by rw [hn]; simpa using hP
  clear hv hpf hP
  go_enter Tryd.func13, Tryd.ntmps13
  go_wp2_with fail
  refine (four_parts.calls s _ _ hG HP.out).mono ?_
  rintro e w1 ⟨v, rfl, hR, hb1⟩
  obtain ⟨A, c, rfl, hle, hC⟩ := Kd.R_reads hR
  rw [← hn]
  clear hR hC hle hn
  go_wp2_with fail
  go_ret3
  exact parseP_mk HV.out hb1

theorem parse_walk (s : ByteArray) (hs : s.size ≤ 4294967280) (w : World) (hG : GW w) : Calls Tryd.prog 13 #[.string s] w (ParseP (parseV s.data.toList) w) := by
  unfold parseV
  match hP : partsV s.data.toList with
  | [] => exact absurd hP (partsV_ne _)
  | [p0] => exact parse_walk1 s hs p0 hP w hG
  | [p0, p1] => exact parse_walk2 s hs p0 p1 hP w hG
  | [p0, p1, p2] => exact parse_walk3 s hs p0 p1 p2 hP w hG
  | [p0, p1, p2, p3] => exact parse_walk4 s hs p0 p1 p2 p3 hP w hG
  | p0 :: p1 :: p2 :: p3 :: p4 :: r => exact hP ▸ parse_walkN s hs (by rw [hP]; simp) w hG
def four_Parse.f (a0 : ByteArray) : Option (Int × Int × Int) := if a0.size ≤ 4294967280 then some (parseV a0.data.toList) else none
theorem four_Parse.calls (a0 : ByteArray) (r1 r2 r3 : Int) (w : World) (hG : GW w) (h : four_Parse.f a0 = some (r1, r2, r3)) :
    Calls Tryd.prog 13 #[.string a0] w fun e w' => e = .returned (.tuple #[.int .u32 r1, .int .i64 r2, .int .i64 r3]) ∧ Below w.heap.size w w' := by
  unfold four_Parse.f at h
  by_cases hs : a0.size ≤ 4294967280
  · rw [if_pos hs] at h
    have h := Option.some.inj h
    refine (parse_walk a0 hs w hG).mono fun e w' hh => ?_
    rw [h] at hh
    exact hh
  · rw [if_neg hs] at h
    cases h
end Go.Proofs.YtgnahagnmodpdaaDoor
