/- Several texts in one (wip/gen/pack.py): FourApartP FourApart Frame FourOpenL FourApartCard. -/
import Derived.Test.YtgnahagnmodpdaaDoorPFA1
import Derived.Test.YtgnahagnmodpdaaDoorRows
import Derived.OpenShut
import Derived.ProofKit
import Derived.Test.YtgnahagnmodpdaaDoorPFA0
import Derived.ChangeSame
import Derived.ChangeMaps5
import Derived.Deep.DeepHandedRow
import Derived.LaidSub
import Derived.Lib.LaidTab
import Derived.Test.YtgnahagnmodpdaaDoorCards
import Derived.Test.YtgnahagnmodpdaaDoorTie
/-! FourApartP -/
namespace Go.Proofs.YtgnahagnmodpdaaDoor
open Go.RowKit Go.Proofs.YtgnahagnmodpdaaDoorW.PrintWords Go.Proofs.YtgnahagnmodpdaaDoor.X Go.IntWalk
set_option linter.unusedVariables false
set_option linter.unusedSimpArgs false
theorem sizeV_wid {b : Nat} (h : b ≤ 32) : sizeV (b : Int) = ((wid b : Nat) : Int) := by
  unfold sizeV wid
  rw [show (32 - (b : Int)).toNat = 32 - b by omega]
  simp
theorem isV_ok {x : Nat × Nat} (h : okP x) : isV (x.1 : Int) (x.2 : Int) = true := by
  obtain ⟨h1, ⟨m, hm⟩, _⟩ := h
  unfold isV
  rw [sizeV_wid h1, hm]
  have : 0 < wid x.2 := Nat.two_pow_pos _
  have e : ((wid x.2 * m : Nat) : Int) / ((wid x.2 : Nat) : Int) * ((wid x.2 : Nat) : Int) = ((wid x.2 * m : Nat) : Int) := by
    rw [← Int.natCast_ediv, ← Int.natCast_mul, Nat.mul_div_cancel_left _ this, Nat.mul_comm]
  rw [e]
  simp
  omega
theorem within_ok {x : Nat × Nat} (h : okP x) (n : Nat) : withinV (x.1 : Int) (x.2 : Int) (n : Int) = (decide (x.1 ≤ n) && decide (n < x.1 + wid x.2)) := by
  have hv := isV_ok h
  obtain ⟨h1, ⟨m, hm⟩, _⟩ := h
  have hw : 0 < wid x.2 := Nat.two_pow_pos _
  unfold withinV
  rw [hv, Bool.true_and, sizeV_wid h1, ← Int.natCast_ediv, ← Int.natCast_mul]
  have hd := Nat.div_add_mod n (wid x.2)
  have hl := Nat.mod_lt n hw
  generalize wid x.2 = q at *
  rw [hm]
  by_cases hc : q * m ≤ n ∧ n < q * m + q
  · have hq : n / q = m := by
      apply Nat.div_eq_of_lt_le
      · rw [Nat.mul_comm]; exact hc.1
      · rw [Nat.mul_comm, Nat.mul_add, Nat.mul_one]; exact hc.2
    rw [hq, Nat.mul_comm m q, decide_eq_true hc.1, decide_eq_true hc.2]
    simp
  · have hne : n / q * q ≠ q * m := by
      intro e
      rw [Nat.mul_comm] at e
      omega
    have : (decide (q * m ≤ n) && decide (n < q * m + q)) = false := by
      rw [Bool.and_eq_false_iff, decide_eq_false_iff_not, decide_eq_false_iff_not]
      omega
    rw [this, beq_eq_false_iff_ne]
    exact fun e => hne (Int.ofNat.inj e)
theorem rngS_toS {x : Nat × Nat} (h : okP x) : rngS (toS x) = rngN x := by
  have hw : 0 < wid x.2 := Nat.two_pow_pos _
  unfold rngS toS rngN
  simp only
  rw [sizeV_wid h.1]
  refine Prod.ext rfl ?_
  simp only
  omega
theorem isB_ok {x : Nat × Nat} (h : okP x) : isB (toS x) = true := by
  have h1 := isB_f (toS x)
  have h2 := is_f (x.1 : Int) (x.2 : Int) (by omega) (by have := h.2.2; have : 0 < wid x.2 := Nat.two_pow_pos _; omega)
  rw [isV_ok h] at h2
  exact Option.some.inj (h1.symm.trans h2)
theorem badI_none {l : List S50} (h : ∀ x ∈ l, isB x = true) : ¬ 0 ≤ badI l := by
  have e : decide (0 ≤ badI l) = l.any fun y => !isB y := Lib.idxBy_nonneg_iff (fun _ y => !isB y) l default
  have : (l.any fun y => !isB y) = false := by
    rw [List.any_eq_false]
    intro x hx
    simp [h x hx]
  rw [this] at e
  exact of_decide_eq_false e
/-- What covers a range is joined to itself. -/
theorem join_cov {a e : Nat} (h : a ≤ e) (he : e < 4294967296) : four_Join.f ((covL a e).map toS) = some ((covL a e).map toS, 0, 0) := by
  have hok := cov_ok he a
  have hlen := cov_len he a
  unfold four_Join.f
  rw [if_pos]
  · unfold joinV
    rw [if_neg (badI_none (fun x hx => by
      obtain ⟨y, hy, rfl⟩ := List.mem_map.1 hx
      exact isB_ok (hok y hy).1))]
    have e1 : ((covL a e).map toS).map rngS = (covL a e).map rngN := by
      rw [List.map_map]
      exact List.map_congr_left fun x hx => rngS_toS (hok x hx).1
    rw [e1, joinR_same h he]
  · refine ⟨List.all_eq_true.2 fun x hx => ?_, by rw [List.length_map]; omega⟩
    obtain ⟨y, hy, rfl⟩ := List.mem_map.1 hx
    have := (hok y hy).2
    have : 0 < wid y.2 := Nat.two_pow_pos _
    unfold toS
    simp
    omega
theorem rdS_map (z : List (Nat × Nat)) (i : Nat) (h : i < z.length) : rd_T50 (z.map toS) (i : Int) = toS z[i] := by
  unfold rd_T50
  rw [Int.toNat_natCast, List.getD_eq_getElem?_getD, List.getElem?_eq_getElem (by rw [List.length_map]; exact h), List.getElem_map]
  rfl
/-- The innermost loop counts the prefixes that hold an address. -/
theorem apart_l4 (z : List (Nat × Nat)) (hz : ∀ x ∈ z, okP x) (hzl : z.length ≤ 4294967296) (n : Nat) (hn : n < 4294967296) (p : List S50) (p1 p2 : Int) (y : List Int) (y1 y2 : Int) (h1 : many z n = 1)
    (hend : Ev (fun k => posternlaw20_FourApart.l3 k (z.map toS) p p1 p2 y y1 (wrap64 (y2 + 1))) true) : ∀ (m i c : Nat), i + m = z.length → c + many (z.drop i) n = 1 →
    Ev (fun k => posternlaw20_FourApart.l4 k (z.map toS) (n : Int) (c : Int) p p1 p2 y y1 y2 (z.map toS) ((z.map toS).length : Int) (i : Int)) true
  | 0, i, c, hm, hc => by
    rw [List.drop_of_length_le (by omega)] at hc
    have hc1 : c = 1 := hc
    refine Ev.step (fun k => ?_) hend
    simp only [posternlaw20_FourApart.l4]
    rw [if_neg (by rw [List.length_map]; omega), if_pos (by omega)]
  | m + 1, i, c, hm, hc => by
    have hi : i < z.length := by omega
    rw [List.drop_eq_getElem_cons hi, many_cons] at hc
    have hx := hz z[i] (List.getElem_mem hi)
    have hw : 0 < wid z[i].2 := Nat.two_pow_pos _
    have hwi := within_f (z[i].1 : Int) (z[i].2 : Int) (n : Int) (by omega) (by have := hx.2.2; omega) (by omega) (by omega)
    rw [within_ok hx n] at hwi
    by_cases hin : z[i].1 ≤ n ∧ n < z[i].1 + wid z[i].2
    · rw [if_pos hin] at hc
      refine Ev.step (fun k => ?_) (apart_l4 z hz hzl n hn p p1 p2 y y1 y2 h1 hend m (i + 1) (c + 1) (by omega) (by omega))
      simp only [posternlaw20_FourApart.l4]
      rw [if_pos (by rw [List.length_map]; omega), if_pos (by omega), if_pos (by rw [List.length_map]; omega), rdS_map z i hi]
      show ((four_Within.f (z[i].1 : Int) (z[i].2 : Int) (n : Int)).bind _) = _
      rw [hwi, Option.bind_some, decide_eq_true hin.1, decide_eq_true hin.2, if_pos (show (true && true) = true from rfl), wsucc c (by omega), wsucc i (by omega)]
    · rw [if_neg hin] at hc
      have hf : (decide (z[i].1 ≤ n) && decide (n < z[i].1 + wid z[i].2)) = false := by
        rw [Bool.and_eq_false_iff, decide_eq_false_iff_not, decide_eq_false_iff_not]
        omega
      refine Ev.step (fun k => ?_) (apart_l4 z hz hzl n hn p p1 p2 y y1 y2 h1 hend m (i + 1) c (by omega) (by omega))
      simp only [posternlaw20_FourApart.l4]
      rw [if_pos (by rw [List.length_map]; omega), if_pos (by omega), if_pos (by rw [List.length_map]; omega), rdS_map z i hi]
      show ((four_Within.f (z[i].1 : Int) (z[i].2 : Int) (n : Int)).bind _) = _
      rw [hwi, Option.bind_some, hf, if_neg (by decide), wsucc i (by omega)]
/-- A prefix of the list: its first and its last address. -/
theorem valid_nat {x : S50} (h0 : 0 ≤ x.f0) (h1 : x.f0 ≤ 4294967295) (h : isV x.f0 x.f1 = true) : ∃ f b : Nat, x.f0 = (f : Int) ∧ x.f1 = (b : Int) ∧ b ≤ 32 ∧ f + wid b ≤ 4294967296 := by
  obtain ⟨_, a1, a2⟩ := last_f x h0 h1 h
  have hb : 0 ≤ x.f1 ∧ x.f1 ≤ 32 := by
    unfold isV at h
    simp only [Bool.and_eq_true, decide_eq_true_eq] at h
    exact ⟨h.1, h.2.1⟩
  refine ⟨x.f0.toNat, x.f1.toNat, by omega, by omega, by omega, ?_⟩
  have e : rngS x = (x.f0, x.f0 + sizeV x.f1 - 1) := rfl
  have es := sizeV_wid (b := x.f1.toNat) (by omega)
  rw [Int.toNat_of_nonneg hb.1] at es
  rw [e, es] at a2
  simp only at a2
  omega
theorem shl_size : ∀ b : Fin 33, shl .u64 1 (IntKind.u64.wrap (wrap64 (32 - (b.val : Int)))) = ((wid b.val : Nat) : Int) := by decide +kernel
theorem wid_le (b : Nat) : wid b ≤ 4294967296 := by
  unfold wid
  exact Nat.pow_le_pow_right (n := 2) (by decide) (Nat.sub_le 32 b)
theorem apart_l3 (z : List (Nat × Nat)) (hz : ∀ x ∈ z, okP x) (hzl : z.length ≤ 4294967296) (n1 n2 : Nat) (h1 : n1 < 4294967296) (h2 : n2 < 4294967296) (m1 : many z n1 = 1) (m2 : many z n2 = 1) (p : List S50) (p1 p2 : Int)
    (hend : Ev (fun k => posternlaw20_FourApart.l2 k (z.map toS) p p1 (wrap64 (p2 + 1))) true) :
    Ev (fun k => posternlaw20_FourApart.l3 k (z.map toS) p p1 p2 [(n1 : Int), (n2 : Int)] (([(n1 : Int), (n2 : Int)].length : Nat) : Int) 0) true := by
  have e3 : Ev (fun k => posternlaw20_FourApart.l3 k (z.map toS) p p1 p2 [(n1 : Int), (n2 : Int)] 2 2) true := by
    refine Ev.step (fun k => ?_) hend
    simp only [posternlaw20_FourApart.l3]
    rw [if_neg (by decide)]
  have e2 : Ev (fun k => posternlaw20_FourApart.l3 k (z.map toS) p p1 p2 [(n1 : Int), (n2 : Int)] 2 1) true := by
    refine Ev.step (fun k => ?_) (apart_l4 z hz hzl n2 h2 p p1 p2 [(n1 : Int), (n2 : Int)] 2 1 m2 (by rw [show wrap64 (1 + 1) = 2 by decide +kernel]; exact e3) z.length 0 0 (by omega) (by simpa using m2))
    simp only [posternlaw20_FourApart.l3]
    rw [if_pos (by decide), if_pos (by decide), if_pos (by simp)]
    rfl
  refine Ev.step (fun k => ?_) (apart_l4 z hz hzl n1 h1 p p1 p2 [(n1 : Int), (n2 : Int)] 2 0 m1 (by rw [show wrap64 (0 + 1) = 1 by decide +kernel]; exact e2) z.length 0 0 (by omega) (by simpa using m1))
  simp only [posternlaw20_FourApart.l3]
  rw [if_pos (by simp), if_pos (by decide), if_pos (by simp)]
  rfl
theorem wsuccL (j : Nat) (h : j < 4611686018427387904) : wrap64 ((j : Int) + 1) = ((j + 1 : Nat) : Int) := by rw [wrap64_in _ (by omega)]; omega
theorem apart_l2 (z : List (Nat × Nat)) (hz : ∀ x ∈ z, okP x) (hzl : z.length ≤ 4294967296) (l : List S50) (hr : rgL l) (hv : vL l) (hlen : l.length ≤ 8796093022208)
    (hone : ∀ x ∈ l, ∀ n : Nat, (rngS x).1 ≤ (n : Int) → (n : Int) ≤ (rngS x).2 → many z n = 1) : ∀ (m i : Nat), i + m = l.length → Ev (fun k => posternlaw20_FourApart.l2 k (z.map toS) l (l.length : Int) (i : Int)) true
  | 0, i, hm => by
    refine Ev.step (f := fun k => some true) (fun k => ?_) (Ev.now _)
    simp only [posternlaw20_FourApart.l2]
    rw [if_neg (by omega)]
  | m + 1, i, hm => by
    have hi : i < l.length := by omega
    have hx := List.getElem_mem hi
    have hrd : rd_T50 l (i : Int) = l[i] := by
      unfold rd_T50
      rw [Int.toNat_natCast, List.getD_eq_getElem?_getD, List.getElem?_eq_getElem hi]
      rfl
    obtain ⟨f, b, ef, eb, hb, hfb⟩ := valid_nat (hr _ hx).1 (hr _ hx).2 (hv _ hx)
    have hw : 0 < wid b := Nat.two_pow_pos _
    have hwl := wid_le b
    have er : rngS l[i] = ((f : Int), ((f + wid b - 1 : Nat) : Int)) := by
      have : rngS l[i] = (l[i].f0, l[i].f0 + sizeV l[i].f1 - 1) := rfl
      rw [this, ef, eb, sizeV_wid hb]
      refine Prod.ext rfl ?_
      simp only
      omega
    have ho := hone _ hx
    rw [er] at ho
    have ih := apart_l2 z hz hzl l hr hv hlen hone m (i + 1) (by omega)
    have e := apart_l3 z hz hzl f (f + wid b - 1) (by omega) (by omega) (ho f (Int.le_refl _) (by simp only; omega)) (ho (f + wid b - 1) (by simp only; omega) (Int.le_refl _)) l (l.length : Int) (i : Int) (by rw [wsuccL i (by omega)]; exact ih)
    refine Ev.step (fun k => ?_) e
    have hsh := shl_size ⟨b, by omega⟩
    simp only at hsh
    have e1 : IntKind.u64.wrap (((wid b : Nat) : Int) - 1) = ((wid b - 1 : Nat) : Int) := by rw [wu64c _ (by omega) (by omega)]; omega
    have e2 : ((f : Int) + ((wid b - 1 : Nat) : Int) % 4294967296) % 4294967296 = ((f + wid b - 1 : Nat) : Int) := by omega
    have e0 : 0 ≤ IntKind.u64.wrap (wrap64 (32 - (b : Int))) := by
      rw [wrap64_in _ (by omega), wu64c _ (by omega) (by omega)]
      omega
    simp only [posternlaw20_FourApart.l2]
    rw [if_pos (by omega), if_pos (by omega), if_pos (by omega), hrd, ef, eb, if_pos e0, Option.bind_some, hsh, e1, e2]
theorem apart_l1 (X : List S50) (l : List S50) (hX : X.length ≤ 4294967296) (r : Bool) (hend : Ev (fun k => (four_Join.f l).bind fun bt351 => (if bt351.2.2 = 0 then (posternlaw20_FourApart.l2 k bt351.1 l (l.length : Int) 0) else (some ((bt351.1.length : Int) == 0)))) r) : ∀ (m i : Nat), i + m = X.length → Ev (fun k => posternlaw20_FourApart.l1 k l X X (X.length : Int) (i : Int)) r
  | 0, i, hm => by
    refine Ev.step (fun k => ?_) hend
    simp only [posternlaw20_FourApart.l1]
    rw [if_neg (by omega)]
  | m + 1, i, hm => by
    refine Ev.step (fun k => ?_) (apart_l1 X l hX r hend m (i + 1) (by omega))
    simp only [posternlaw20_FourApart.l1]
    rw [if_pos (by omega), if_pos (by omega), if_pos (by omega), if_pos (by omega), if_neg (by simp), wsucc i (by omega)]
theorem tiles_le : ∀ {l : List (Nat × Nat)} {a : Nat} {prev : Option (Nat × Nat)} {z : Nat}, tiles a prev l z → a ≤ z
  | [], a, prev, z, h => by
    rw [tiles_nil] at h
    omega
  | x :: l, a, prev, z, h => by
    rw [tiles_cons] at h
    have := tiles_le h.2.2.2.2
    omega
theorem apart_l0 (X : List (Nat × Nat)) (l : List S50) (e : Nat) (he : e < 4294967296) (hX : X.length ≤ 4294967296) (hok : ∀ x ∈ X, okP x) (r : Bool) (hend : Ev (fun k => (four_Join.f (X.map toS)).bind fun bt344 => (if bt344.2.2 = 0 then (posternlaw20_FourApart.j2 k l (X.map toS) bt344.1 ((bt344.1.length : Int) != ((X.map toS).length : Int))) else (posternlaw20_FourApart.j2 k l (X.map toS) bt344.1 true))) r) :
    ∀ (m i a : Nat) (prev : Option (Nat × Nat)), i + m = X.length → a ≤ e + 1 → tiles a prev (X.drop i) (e + 1) → (∀ h : 0 < i, i ≤ X.length → prev = X[i - 1]?) → Ev (fun k => posternlaw20_FourApart.l0 k (e : Int) l (X.map toS) (a : Int) (X.map toS) ((X.map toS).length : Int) (i : Int)) r
  | 0, i, a, prev, hm, ha, ht, hp => by
    rw [List.drop_of_length_le (by omega), tiles_nil] at ht
    subst ht
    refine Ev.step (fun k => ?_) hend
    simp only [posternlaw20_FourApart.l0]
    rw [if_neg (by rw [List.length_map]; omega), wu64c (e : Int) (by omega) (by omega), wu64c ((e : Int) + 1) (by omega) (by omega), if_pos (by omega)]
  | m + 1, i, a, prev, hm, ha, ht, hp => by
    have hi : i < X.length := by omega
    rw [List.drop_eq_getElem_cons hi, tiles_cons] at ht
    obtain ⟨t1, t2, t3, t4, t5⟩ := ht
    have hx := hok _ (List.getElem_mem hi)
    have hw : 0 < wid X[i].2 := Nat.two_pow_pos _
    have hwl := wid_le X[i].2
    have ha2 : a + wid X[i].2 ≤ e + 1 := by
      exact tiles_le t5
    have ih := apart_l0 X l e he hX hok r hend m (i + 1) (a + wid X[i].2) (some X[i]) (by omega) ha2 t5 (fun _ _ => by rw [Nat.add_sub_cancel, List.getElem?_eq_getElem hi])
    have hwi := within_f (X[i].1 : Int) (X[i].2 : Int) (X[i].1 : Int) (by omega) (by have := hx.2.2; omega) (by omega) (by have := hx.2.2; omega)
    rw [within_ok hx X[i].1, decide_eq_true (Nat.le_refl _), decide_eq_true (show X[i].1 < X[i].1 + wid X[i].2 by omega)] at hwi
    have hsh := shl_size ⟨X[i].2, by have := hx.1; omega⟩
    simp only at hsh
    have e0 : 0 ≤ IntKind.u64.wrap (wrap64 (32 - (X[i].2 : Int))) := by
      rw [wrap64_in _ (by omega), wu64c _ (by omega) (by omega)]
      omega
    have enext : IntKind.u64.wrap ((a : Int) + ((wid X[i].2 : Nat) : Int)) = ((a + wid X[i].2 : Nat) : Int) := by rw [wu64c _ (by omega) (by omega)]; omega
    have hj : Ev (fun k => posternlaw20_FourApart.j1 k (e : Int) l (X.map toS) (a : Int) (i : Int) (X.map toS) ((X.map toS).length : Int) (i : Int) false (X[i].1 : Int) (X[i].2 : Int)) r := by
      refine Ev.step (fun k => ?_) ih
      simp only [posternlaw20_FourApart.j1]
      rw [if_neg (by decide), if_pos e0, hsh, enext, wsucc i (by omega)]
      by_cases hi0 : (i : Int) > 0
      · have hi1 : i - 1 < X.length := by omega
        have hpr := hp (by omega) (by omega)
        rw [List.getElem?_eq_getElem hi1] at hpr
        have w1 : wrap64 ((i : Int) - 1) = ((i - 1 : Nat) : Int) := by rw [wrap64_in _ (by omega)]; omega
        have hpo := hok _ (List.getElem_mem hi1)
        rw [if_pos hi0, w1, if_pos (by omega), if_pos (by rw [List.length_map]; omega), rdS_map X (i - 1) hi1]
        show (if (X[i - 1].2 : Int) = (X[i].2 : Int) then _ else _) = _
        by_cases hbb : (X[i - 1].2 : Int) = (X[i].2 : Int)
        · have w2 : IntKind.u64.wrap (2 * ((wid X[i].2 : Nat) : Int)) = ((2 * wid X[i].2 : Nat) : Int) := by rw [wu64c _ (by omega) (by omega)]; omega
          have hnd := t4 _ hpr (by omega)
          rw [if_pos hbb, w2, if_neg (by omega)]
          have w3 : IntKind.u64.wrap ((toS X[i - 1]).f0) = (X[i - 1].1 : Int) := wu64c _ (by show (0 : Int) ≤ (X[i - 1].1 : Int); omega) (by show (X[i - 1].1 : Int) < _; have := hpo.2.2; omega)
          rw [w3, if_neg]
          rw [Int.tmod_eq_emod_of_nonneg (by omega), ← Int.natCast_emod]
          intro h
          exact hnd (Nat.dvd_of_mod_eq_zero (by omega))
        · rw [if_neg hbb]
      · rw [if_neg hi0]
    refine Ev.step (fun k => ?_) hj
    simp only [posternlaw20_FourApart.l0]
    rw [if_pos (by rw [List.length_map]; omega), if_pos (by omega), if_pos (by rw [List.length_map]; omega), rdS_map X i hi]
    show (if (X[i].2 : Int) < 0 then _ else if (X[i].2 : Int) > 32 then _ else if IntKind.u64.wrap (X[i].1 : Int) = (a : Int) then ((four_Within.f (X[i].1 : Int) (X[i].2 : Int) (X[i].1 : Int)).bind _) else _) = _
    rw [if_neg (by omega), if_neg (by omega), wu64c _ (by omega) (by omega), if_pos (by omega), hwi]
    rfl
theorem covR_length : ∀ (l : List (Int × Int)) (lo : Int), 0 ≤ lo → Sep l → (∀ r ∈ l, lo ≤ r.1 ∧ r.2 < 4294967296) → lo ≤ 4294967296 → ((covR l).length : Int) ≤ 4294967296 - lo
  | [], lo, h0, hs, hb, hl => by
    show ((0 : Nat) : Int) ≤ _
    omega
  | r :: l, lo, h0, hs, hb, hl => by
    have b := hb r (by simp)
    have hle := hs.head
    have ab := hs.above
    have i := covR_length l (r.2 + 1) (by omega) hs.tail (fun t ht => ⟨by have := ab t ht; omega, (hb t (by simp [ht])).2⟩) (by omega)
    have e : covR (r :: l) = covL r.1.toNat r.2.toNat ++ covR l := by simp [covR]
    have hc := cov_len (e := r.2.toNat) (by omega) r.1.toNat
    rw [e, List.length_append]
    omega
theorem apart_true (a b : Int) (l : List S50) (a0 : 0 ≤ a) (a1 : a ≤ 4294967295) (b0 : 0 ≤ b) (b1 : b ≤ 4294967295) (hl : rgB l = true) (hn : l.length ≤ 8796093022208) : Ev (fun k => posternlaw20_FourApart.f k a b l) true := by
  have hj : four_Join.f l = some (joinV l) := if_pos ⟨hl, hn⟩
  have hlast : Ev (fun k => (four_Join.f l).bind fun bt351 => (if bt351.2.2 = 0 then (posternlaw20_FourApart.l2 k bt351.1 l (l.length : Int) 0) else (some ((bt351.1.length : Int) == 0)))) true := by
    rw [hj]
    simp only [Option.bind_some]
    unfold joinV
    by_cases hb : 0 ≤ badI l
    · simp only [if_pos hb]
      refine Ev.congr (f := fun k => some true) (fun k => ?_) (Ev.now _)
      rfl
    · simp only [if_neg hb, if_true]
      have hrg := rgB_rgL hl
      have hv : vL l := fun x hx => by
        have h1 := is_f x.f0 x.f1 (hrg x hx).1 (hrg x hx).2
        rw [isB_f x, (badI_neg hb).2 x hx] at h1
        exact (Option.some.inj h1).symm
      have hlr : ∀ r ∈ l.map rngS, r.1 ≤ r.2 := fun r hr => by
        obtain ⟨x, hx, rfl⟩ := List.mem_map.1 hr
        exact (last_f x (hrg x hx).1 (hrg x hx).2 (hv x hx)).2.1
      have hbd : ∀ r ∈ l.map rngS, 0 ≤ r.1 ∧ r.2 < 4294967296 := fun r hr => by
        obtain ⟨x, hx, rfl⟩ := List.mem_map.1 hr
        have := (last_f x (hrg x hx).1 (hrg x hx).2 (hv x hx)).2.2
        exact ⟨(hrg x hx).1, by omega⟩
      have jb := joinR_bound _ hlr hbd
      have jo := joinR_ok (l.map rngS) [] trivial hlr
      have jl := covR_length _ 0 (Int.le_refl _) jo.1 (fun r hr => ⟨(jb r hr).1, (jb r hr).2⟩) (by decide)
      refine apart_l2 (covR (joinR [] (l.map rngS))) (covR_ok _ jb) (by omega) l hrg hv hn ?_ l.length 0 (by omega)
      intro x hx n n1 n2
      exact (covR_many _ n jo.1 jb).1 ((jo.2 _).2 (.inr ⟨rngS x, List.mem_map_of_mem hx, n1, n2⟩))
  unfold posternlaw20_FourApart.f
  refine Ev.bind awake_ev ?_
  simp only [if_true]
  by_cases h : a > b
  · simp only [if_pos h]
    refine Ev.bind (cover_ev a b a0 a1 b0 b1) (Ev.congr (f := fun _ => some true) (fun k => ?_) (Ev.now _))
    unfold covS
    rw [covL_lt (by omega)]
    rfl
  · simp only [if_neg h]
    refine Ev.bind (cover_ev a b a0 a1 b0 b1) ?_
    have he : b.toNat < 4294967296 := by omega
    have hab : a.toNat ≤ b.toNat := by omega
    have hok := cov_ok he a.toNat
    have hlen := cov_len he a.toNat
    have hcj := join_cov hab he
    have h1 := apart_l1 (covS a b) l (by unfold covS; rw [List.length_map]; omega) true hlast (covS a b).length 0 (by omega)
    have h2 : Ev (fun k => posternlaw20_FourApart.j2 k l (covS a b) (covS a b) false) true := by
      refine Ev.step (fun k => ?_) h1
      simp only [posternlaw20_FourApart.j2]
      rw [if_neg (by decide)]
      rfl
    have h3 : Ev (fun k => (four_Join.f ((covL a.toNat b.toNat).map toS)).bind fun bt344 => (if bt344.2.2 = 0 then (posternlaw20_FourApart.j2 k l ((covL a.toNat b.toNat).map toS) bt344.1 ((bt344.1.length : Int) != (((covL a.toNat b.toNat).map toS).length : Int))) else (posternlaw20_FourApart.j2 k l ((covL a.toNat b.toNat).map toS) bt344.1 true))) true := by
      rw [hcj]
      simp only [Option.bind_some, if_true]
      refine Ev.congr (fun k => ?_) h2
      rw [bne_self_eq_false]
      rfl
    have h4 := apart_l0 (covL a.toNat b.toNat) l b.toNat he (by omega) (fun x hx => (hok x hx).1) true h3 (covL a.toNat b.toNat).length 0 a.toNat none (by omega) (by omega) (by rw [List.drop_zero]; exact cov_tiles he a.toNat none (by omega) (fun p hp => by cases hp)) (fun h => absurd h (by decide))
    rw [Int.toNat_of_nonneg a0, Int.toNat_of_nonneg b0] at h4
    rw [wu64c a a0 (by omega)]
    exact h4
end Go.Proofs.YtgnahagnmodpdaaDoor
/-! FourApart -/
namespace Go.Proofs.YtgnahagnmodpdaaDoor
open Go.RowKit Go.Proofs.YtgnahagnmodpdaaDoorW.PrintWords Go.Proofs.YtgnahagnmodpdaaDoor.X Go.IntWalk
set_option linter.unusedVariables false
set_option linter.unusedSimpArgs false
theorem bulk_pos {H : Type} (d : DataW H) : 1 ≤ Rows.uptoBulk d := by
  cases d with
  | lit l => cases l <;> simp [Rows.uptoBulk]
  | _ => simp [Rows.uptoBulk]
theorem bulk_len {H : Type} : ∀ es : List (DataW H), es.length ≤ Rows.uptoBulkAll es
  | [] => Nat.zero_le _
  | d :: r => by
    rw [Rows.uptoBulkAll, List.length_cons]
    have := bulk_pos d
    have := bulk_len r
    omega
theorem bulk_slice {H : Type} {l : List S50} {d : DataW H} {n : Nat} (h : l = [] ∨ ∃ es rest, d = .slice es rest ∧ es.length = l.length) (hb : Rows.uptoBulk d ≤ n) : l.length ≤ n := by
  rcases h with rfl | ⟨es, rest, rfl, e⟩
  · exact Nat.zero_le _
  · rw [Rows.uptoBulk] at hb
    have := bulk_len es
    omega
theorem apart_walk (a b : Int) (A : Option Addr) (c : Nat) (l : List S50) (a0 : 0 ≤ a) (a1 : a ≤ 4294967295) (b0 : 0 ≤ b) (b1 : b ≤ 4294967295) (hl : ∀ x ∈ l, 0 ≤ x.f0 ∧ x.f0 ≤ 4294967295) (hn : l.length ≤ 8796093022208) (w : World) (hC : Kd.C k50 w A l.length l) (hc : l.length ≤ c) (hG : GW w) :
    Calls Tryd.prog 10 #[.int .u32 a, .int .u32 b, .slice A l.length c] w fun e w' => e = .returned (.bool true) ∧ Below w.heap.size w w' := by
  have hr : rgB l = true := List.all_eq_true.2 fun x hx => by
    have := hl x hx
    simpa using this
  obtain ⟨k, h⟩ := (apart_true a b l a0 a1 b0 b1 hr hn).rounds
  exact posternlaw20_FourApart.calls k a b A c l true w hC hc hG h
end Go.Proofs.YtgnahagnmodpdaaDoor
/-! Frame -/
namespace Go.Proofs.YtgnahagnmodpdaaDoor
open Go.RowKit Go.WideShapes Go.ChangeShapes Go.ChangeAt
set_option linter.unusedVariables false
set_option linter.unusedSimpArgs false
section
variable {H : Type} {enc : TypeId × Value → H} {P : Program}
theorem law_below {f : Func} {s : ChangeSpec} {apart fresh handsOn again : Bool} {W W' : World} {args : Array Value} {v : Value} {ds gs : List (DataW H)} {before pa pv : List MemPlace}
    (hW : DataW.Whole enc P f.params.toList s.vars apart W args.toList ds gs before)
    (hres : ∀ (b : Nat) (sp : Nat → Bool) (hd : Bool), DataW.TrodAll enc P W' b sp hd f.resultTypes.toList (v.resultList f.resultTypes.size) (s.fn H (ds ++ gs)).results [])
    (hargs : ∀ sp : Nat → Bool, (∀ p ∈ before, sp p.block = true) → DataW.TrodAll enc P W' 0 sp true f.params.toList args.toList (s.fn H (ds ++ gs)).args pa)
    (hvars : ∀ sp : Nat → Bool, (∀ p ∈ before, sp p.block = true) → DataW.TrodVars enc P W' sp s.vars (s.fn H (ds ++ gs)).vars pv)
    (hps : before = pa ++ pv) (hb : Below W.heap.size W W')
    (hok : ∀ (j : Nat) (t : TypeId) (r : Value), f.resultTypes[j]? = some t → (v.resultList f.resultTypes.size)[j]? = some r → Value.okWide P W' .any 0 t r) :
    s.post enc P f apart fresh handsOn again W args v W' := by
  have hlt : ∀ p ∈ before, p.block < W.heap.size := fun p hp => hW.lt p hp
  have hold : ∀ p ∈ before, (fun b => decide (b < W.heap.size)) p.block = true := fun p hp => by simpa using hlt p hp
  refine ⟨ds, gs, before, [], pa, pv, hW, hres _ _ _, hargs _ hold, hvars _ hold, World.keptBut_mono (fun p hp => ⟨hp, ?_⟩) (hb.frame (· ∈ before)), fun _ => ?_⟩
  · rw [hps, List.mem_append] at hp
    exact Or.inr hp
  · obtain ⟨_, _, _, _, _, hz, hn⟩ := hW
    refine ⟨hok, _, _, ([] ++ pa) ++ pv, ⟨[] ++ pa, pv, trodAll_append (hargs _ (fun _ _ => rfl)) (hres _ _ _), hvars _ (fun _ _ => rfl), rfl, ?_, ?_⟩, ?_⟩
    · intro b off hp
      have hin : MemPlace.cell b off ∈ before := by rw [hps]; simpa using hp
      rw [hb.frozen (hlt _ hin)]
      exact hz b off hin
    · intro ha
      have := hn ha
      rw [hps] at this
      simpa using this
    · intro p hp _
      rw [hps]
      simpa using hp
/-- All arguments read as they did, where all stays that was there. -/
theorem args_stay (hl : laidOutB P = true) {W W' : World} (hB : Below W.heap.size W W') {sp : Nat → Bool} :
    ∀ (ts : List TypeId) (vs : List Value) (ds : List (DataW H)) (ps : List MemPlace), (∀ t ∈ ts, P.readableRec t = true ∧ t < P.types.size) → DataW.TrodAll enc P W 0 (fun _ => true) true ts vs ds ps →
      (∀ p ∈ ps, p.block < W.heap.size) → (∀ p ∈ ps, sp p.block = true) → DataW.TrodAll enc P W' 0 sp true ts vs ds ps
  | [], vs, ds, ps, _, h, _, _ => by
    obtain ⟨rfl, rfl, rfl⟩ := trodAll_nil h
    exact trodAll_mk0
  | t :: ts, vs, ds, ps, hr, h, hlt, hs => by
    obtain ⟨v, vs1, d, ds1, a, b, rfl, rfl, rfl, h1, h2⟩ := trodAll_cons h
    have hlt' := hlt
    exact trodAll_cons_mk (WideElems.Trod_stays hl (hr t (by simp)).1 (hr t (by simp)).2 h1 (fun x hx => hB.same (hlt x (by simp [hx]))) (fun x hx => hs x (by simp [hx])))
      (args_stay hl hB ts vs1 ds1 b (fun t ht => hr t (by simp [ht])) h2 (fun p hp => hlt p (by simp [hp])) (fun p hp => hs p (by simp [hp])))
/-- THE STEP OF A LAW's ROW. -/
theorem law_post {f : Func} {s : ChangeSpec} {tb : TypeId} {W W' : World} {args : Array Value} {ds : List (DataW H)} {before : List MemPlace} (hv : s.vars = []) (hfn : s.fn H ds = { results := [.lit (.bool true)], args := ds })
    (hres : f.resultTypes = #[tb]) (hb : P.underlying tb = some .bool) (hl : laidOutB P = true) (hr : ∀ t ∈ f.params.toList, P.readableRec t = true ∧ t < P.types.size)
    (hW : DataW.Whole enc P f.params.toList s.vars false W args.toList ds [] before) (hB : Below W.heap.size W W') : s.post enc P f false true false false W args (.bool true) W' := by
  have hW' := hW
  obtain ⟨p, q, hA, hV, hpq, hfz, hnd⟩ := hW
  have hA : DataW.TrodAll enc P W 0 (fun _ => true) true f.params.toList args.toList ds p := hA
  rw [hv] at hV
  obtain ⟨_, rfl⟩ := trodVars_none hV
  have hlt : ∀ x ∈ before, x.block < W.heap.size := fun x hx => hW'.lt x hx
  subst hpq
  refine law_below (pa := p) (pv := []) hW' ?_ ?_ ?_ (by simp) hB ?_
  · intro b sp hd
    rw [List.append_nil, hfn, hres]
    exact trodAll_cons_mk (shut_bool hb true) trodAll_mk0
  · intro sp hs
    rw [List.append_nil, hfn]
    exact args_stay hl hB _ _ _ _ hr hA (fun x hx => hlt x (by simp [hx])) (fun x hx => hs x (by simp [hx]))
  · intro sp hs
    rw [List.append_nil, hfn, hv]
    rfl
  · exact ok_one hres rfl (okWide_bool_mk hb true)
end
end Go.Proofs.YtgnahagnmodpdaaDoor
/-! FourOpenL -/
namespace Go.Proofs.YtgnahagnmodpdaaDoor
open Go.RowKit Go.WideShapes Go.ChangeShapes Go.ChangeAt Go.Proofs.YtgnahagnmodpdaaDoorW.PrintWords Go.Proofs.YtgnahagnmodpdaaDoor.X
set_option linter.unusedVariables false
set_option linter.unusedSimpArgs false
theorem blkCells : Tryd.prog.cellsOf 50 = 2 := by kernel_rfl
section
variable {H : Type} {enc : TypeId × Value → H} {W : World} {base : Nat} {sp : Nat → Bool} {held : Bool}
set_option maxRecDepth 100000 in
theorem blk_trod {n : Nat} {cs : List Value} {y : DataW H × List MemPlace} (h : DataW.trod enc Tryd.prog W base sp held n 50 cs = some y) :
    ∃ x : S50, cs = [.int .u32 x.f0, .int .i64 x.f1] ∧ (0 ≤ x.f0 ∧ x.f0 ≤ 4294967295) ∧ -9223372036854775808 ≤ x.f1 ∧ x.f1 ≤ 9223372036854775807 := by
  obtain ⟨y0, y1, m, rfl, hl, h0, h1⟩ := trod_struct2 Tryd.underlying50 h
  rw [blkCells] at hl
  match cs, hl with
  | [c0, c1], _ =>
    have e0 : Tryd.prog.cellsOf 22 = 1 := by kernel_rfl
    have e1 : Tryd.prog.cellsOf 3 = 1 := by kernel_rfl
    simp only [e0, e1, List.drop_zero, List.drop_succ_cons, List.take_succ_cons, List.take_zero] at h0 h1
    obtain ⟨a, ha, rfl, wa⟩ := DataW.trod_int Tryd.underlying22 h0
    obtain ⟨b, hb, rfl, wb⟩ := DataW.trod_int Tryd.underlying3 h1
    simp only [Lit.wf, Bool.and_eq_true, decide_eq_true_eq] at wa wb
    refine ⟨⟨a, b⟩, ?_, wa, wb⟩
    obtain rfl : c0 = _ := (List.cons.inj ha).1
    obtain rfl : c1 = _ := (List.cons.inj hb).1
    rfl
set_option maxRecDepth 100000 in
theorem blocks_open {base2 : Nat} {v : Value} {d : DataW H} {ps : List MemPlace} (hval : Value.okWide Tryd.prog W .any base2 68 v) (h : DataW.Trod enc Tryd.prog W base sp held 68 v d ps) :
    ∃ (A : Option Addr) (c : Nat) (l : List S50), v = .slice A l.length c ∧ l.length ≤ c ∧ Kd.C k50 W A l.length l ∧ (∀ x ∈ l, 0 ≤ x.f0 ∧ x.f0 ≤ 4294967295) ∧ (l = [] ∨ ∃ es rest, d = .slice es rest ∧ es.length = l.length) := by
  obtain ⟨a0, len0, cap0, rfl⟩ := okWide_slice Tryd.underlying68 hval
  obtain ⟨fuel, hf⟩ := h
  rcases DataW.trod_slice Tryd.underlying68 hf with ⟨hcs, _⟩ | ⟨a, len, cap, elems, rest, n, _, hcs, hx, hb, hl, hm, hlen, hel, hsp, hns⟩
  · simp [Value.cells] at hcs
    obtain ⟨rfl, rfl, rfl⟩ := hcs
    exact ⟨none, 0, [], rfl, Nat.le_refl _, ⟨rfl, by decide, fun h => absurd h (by decide)⟩, fun x hx => absurd hx (by simp), .inl rfl⟩
  · simp [Value.cells] at hcs
    obtain ⟨rfl, rfl, rfl⟩ := hcs
    rw [blkCells] at hel
    have key : ∀ i, i < len0 → ∃ x : S50, (W.cell? (a.add (i * 2)) = some (.int .u32 x.f0) ∧ W.cell? (a.add (i * 2 + 1)) = some (.int .i64 x.f1)) ∧ 0 ≤ x.f0 ∧ x.f0 ≤ 4294967295 := by
      intro i hi
      have he := hel i hi
      rw [List.getElem?_eq_getElem (by omega), Option.bind_eq_some_iff] at he
      obtain ⟨cs, hc, ht⟩ := he
      obtain ⟨x, rfl, hr, _⟩ := blk_trod ht
      have hc' := (World.cells?_some hc).2.2
      refine ⟨x, ⟨?_, ?_⟩, hr⟩
      · have := hc' 0 (by omega)
        simpa [Addr.add] using this
      · have := hc' 1 (by omega)
        have e : (a.add (i * 2)).add 1 = a.add (i * 2 + 1) := by
          unfold Addr.add
          by_cases h : i * 2 = 0
          · rw [if_neg (by decide), if_pos h, if_neg (by omega), h]
          · rw [if_neg (by decide), if_neg h, if_neg (by omega), Nat.add_assoc]
        rw [e] at this
        simpa using this
    obtain ⟨l, hll, hlk⟩ : ∃ l : List S50, l.length = len0 ∧ ∀ i x, l[i]? = some x → (W.cell? (a.add (i * 2)) = some (.int .u32 x.f0) ∧ W.cell? (a.add (i * 2 + 1)) = some (.int .i64 x.f1)) ∧ 0 ≤ x.f0 ∧ x.f0 ≤ 4294967295 := by
      clear hel hlen hsp hns hx hf hval hl
      have : ∀ m, m ≤ len0 → ∃ l : List S50, l.length = m ∧ ∀ i x, l[i]? = some x → (W.cell? (a.add (i * 2)) = some (.int .u32 x.f0) ∧ W.cell? (a.add (i * 2 + 1)) = some (.int .i64 x.f1)) ∧ 0 ≤ x.f0 ∧ x.f0 ≤ 4294967295 := by
        intro m
        induction m with
        | zero => exact fun _ => ⟨[], rfl, fun i x h => by simp at h⟩
        | succ m ih =>
          intro hm
          obtain ⟨l, e, hk⟩ := ih (by omega)
          obtain ⟨x, hx⟩ := key m (by omega)
          refine ⟨l ++ [x], by simp [e], fun i z hz => ?_⟩
          rcases Nat.lt_or_ge i l.length with hi | hi
          · rw [List.getElem?_append_left hi] at hz
            exact hk i z hz
          · rw [List.getElem?_append_right hi] at hz
            have : i = m := by
              rcases Nat.lt_or_ge (i - l.length) 1 with h | h
              · omega
              · rw [List.getElem?_eq_none (by simpa using h)] at hz; cases hz
            subst this
            rw [e, Nat.sub_self] at hz
            obtain rfl := (Option.some.inj hz)
            exact hx
      exact this len0 (Nat.le_refl _)
    refine ⟨some a, cap0, l, by rw [hll], by rw [hll]; exact hl, ⟨by rw [hll], by rw [hll]; exact Nat.le_trans hl (Nat.le_trans hm (by decide)), fun _ => ⟨a, rfl, fun j p hj => ?_⟩⟩, fun x hx => ?_, .inr ⟨_, _, congrArg Prod.fst hx, by rw [List.length_map]; omega⟩⟩
    · have hk := (hlk j p hj).1
      refine ⟨[.int .u32 p.f0, .int .i64 p.f1], rfl, k50_mk _ _, fun i u hi => ?_⟩
      match i, hi with
      | 0, hi => rw [← Option.some.inj hi]; exact hk.1
      | 1, hi => rw [← Option.some.inj hi]; exact hk.2
      | i + 2, hi => cases hi
    · obtain ⟨i, hi⟩ := List.getElem?_of_mem hx
      exact (hlk i x hi).2
end
end Go.Proofs.YtgnahagnmodpdaaDoor
/-! FourApartCard -/
namespace Go.Proofs.YtgnahagnmodpdaaDoor.fnFourApart
open Go.ChangeShapes Go.WideShapes Go.ChangeAt Go.RowKit Go.Proofs.YtgnahagnmodpdaaDoor
set_option linter.unusedVariables false
theorem own : ownKnob Tryd.prog.godebug = none := by kernel_rfl
theorem laidOut : laidOutB Tryd.prog = true := by kernel_rfl
theorem pow10_of {W : World} (hL : laidMetH Tryd.prog Rows.fourApartUptoRow.laid W) : Lib.TabIs Tryd.prog W "internal/strconv.uint64pow10" .u64 Lib.pow10Tab := by
  have h1 := laidMetH.filter (fun x => x.1 == "internal/strconv.uint64pow10") hL
  rw [show Rows.fourApartUptoRow.laid.filter (fun x => x.1 == "internal/strconv.uint64pow10") = [("internal/strconv.uint64pow10", Lib.tabData .u64 Lib.pow10Tab)] by kernel_rfl] at h1
  exact Lib.tabIs_of_head (g := 4) (n := 20) (rest := []) (by kernel_rfl) (by kernel_rfl) Tryd.underlying162 Tryd.underlying27 (by kernel_rfl) (by kernel_rfl) h1
theorem tz_of {W : World} (hL : laidMetH Tryd.prog Rows.fourApartUptoRow.laid W) : Lib.TabIs Tryd.prog W "math/bits.deBruijn64tab" .u8 (Lib.deBruijn64tab.map fun n : Nat => (n : Int)) := by
  have h1 := laidMetH.filter (fun x => x.1 == "math/bits.deBruijn64tab") hL
  rw [show Rows.fourApartUptoRow.laid.filter (fun x => x.1 == "math/bits.deBruijn64tab") = [("math/bits.deBruijn64tab", Lib.tabData .u8 (Lib.deBruijn64tab.map fun n : Nat => (n : Int)))] by kernel_rfl] at h1
  exact Lib.tabIs_of_head (g := 0) (n := 64) (rest := []) (by kernel_rfl) (by kernel_rfl) Tryd.underlying120 Tryd.underlying5 (by kernel_rfl) (by kernel_rfl) h1
theorem gw_of {W : World} (h : W.ShapedOpen Tryd.prog) (hL : laidMetH Tryd.prog Rows.fourApartUptoRow.laid W) : GW W where
  maxLen := Tryd.laysM219.s1_3 W h
  pow10 := pow10_of hL
  tz := tz_of hL
set_option maxRecDepth 100000 in
theorem contract (H : Type) (enc : TypeId × Value → H) (W : World) (base : Nat) (args : Array Value) (ds gs : List (DataW H)) (before : List MemPlace)
    (hval : ∀ (j : Nat) t v, Tryd.f10.params[j]? = some t → args[j]? = some v → Value.okWide Tryd.prog W .any base t v)
    (hW : DataW.Whole enc Tryd.prog Tryd.f10.params.toList Rows.fourApartSpec.vars false W args.toList ds gs before) (hk : Rows.uptoSmall H (ds ++ gs) = true) (hL : laidMetH Tryd.prog Rows.fourApartUptoRow.laid W) (hsh : W.ShapedOpen Tryd.prog) :
    Calls Tryd.prog 10 args W fun e W' => ∃ v, e = .returned v ∧ Rows.fourApartSpec.post enc Tryd.prog Tryd.f10 false true false false W args v W' := by
  have hW' := hW
  obtain ⟨p, q, hA0, hV, rfl, hfz, hnd⟩ := hW
  have hA : DataW.TrodAll enc Tryd.prog W 0 (fun _ => true) true Tryd.f10.params.toList args.toList ds p := hA0
  rw [Tryd.params10] at hA hval
  obtain ⟨v0, vs0, d0, ds0, p0, q0, hargs, rfl, rfl, h0, r0⟩ := trodAll_cons hA
  obtain ⟨v1, vs1, d1, ds1, p1, q1, rfl, rfl, rfl, h1, r1⟩ := trodAll_cons r0
  obtain ⟨v2, vs2, d2, ds2, p2, q2, rfl, rfl, rfl, h2, r2⟩ := trodAll_cons r1
  obtain ⟨rfl, rfl, rfl⟩ := trodAll_nil r2
  obtain rfl : args = #[v0, v1, v2] := by cases args; simp_all
  obtain ⟨rfl, rfl⟩ := trodVars_none hV
  obtain ⟨s0, rfl, rfl, rfl, y0⟩ := open_int Tryd.underlying22 (hval 0 22 v0 rfl rfl) h0
  have z0 : (0 : Int) ≤ s0 ∧ s0 ≤ 4294967295 := by
    have h := y0
    simp only [Lit.wf, Bool.and_eq_true, decide_eq_true_eq] at h
    exact h
  obtain ⟨s1, rfl, rfl, rfl, y1⟩ := open_int Tryd.underlying22 (hval 1 22 v1 rfl rfl) h1
  have z1 : (0 : Int) ≤ s1 ∧ s1 ≤ 4294967295 := by
    have h := y1
    simp only [Lit.wf, Bool.and_eq_true, decide_eq_true_eq] at h
    exact h
  obtain ⟨A2, c2, l2, rfl, hc2, hC2, hr2, hd2⟩ := blocks_open (hval 2 68 v2 rfl rfl) h2
  clear hA0
  have hb : Rows.uptoBulkAll _ ≤ 1048576 := of_decide_eq_true hk
  simp only [Rows.uptoBulkAll, Rows.uptoBulk, List.append_nil] at hb
  have hG := gw_of hsh hL
  refine (apart_walk s0 s1 A2 c2 l2 z0.1 z0.2 z1.1 z1.2 hr2 (by have := bulk_slice (n := 1048576) hd2 (by omega); omega) W hC2 hc2 hG).mono fun e W' ⟨he, hg⟩ => ?_
  subst he
  exact ⟨_, rfl, law_post (s := Rows.fourApartSpec) (f := Tryd.f10) rfl rfl (tb := 4) rfl Tryd.underlying4 laidOut (by rw [Tryd.params10]; intro t ht; simp at ht; rcases ht with rfl | rfl <;> exact ⟨by kernel_rfl, of_decide_eq_true (by kernel_rfl)⟩) hW' hg⟩
def accepts : List Nat := [128, 191, 160, 191, 128, 159, 144, 191, 128, 143, 0, 0, 0, 0, 0, 0, 0, 0, 0, 0, 0, 0, 0, 0, 0, 0, 0, 0, 0, 0, 0, 0]
/-- A world for the witness: the settled one, the tables holding what their initialisers lay. -/
noncomputable def laidWorld (os : Os) : World := { World.holding Tryd.prog os ⟨#[], #[], []⟩ with heap := ((((((World.holding Tryd.prog os ⟨#[], #[], []⟩).heap.modify 3 fun | .cells _ t frozen => .cells (accepts.map fun (z : Nat) => Value.int .u8 z).toArray t frozen | o => o).modify 2 fun | .cells _ t frozen => .cells (Go.Pinned.utf8FirstZ.map fun (z : Nat) => Value.int .u8 z).toArray t frozen | o => o).modify 5 fun | .cells _ t frozen => .cells (([0, 1, 28, 2, 29, 14, 24, 3, 30, 22, 20, 15, 25, 17, 4, 8, 31, 27, 13, 23, 21, 19, 16, 7, 26, 12, 18, 6, 11, 5, 10, 9] : List Nat).map fun (z : Nat) => Value.int .u8 z).toArray t frozen | o => o).modify 0 fun | .cells _ t frozen => .cells ((Lib.deBruijn64tab : List Nat).map fun (z : Nat) => Value.int .u8 z).toArray t frozen | o => o).modify 4 fun | .cells _ t frozen => .cells (([1, 10, 100, 1000, 10000, 100000, 1000000, 10000000, 100000000, 1000000000, 10000000000, 100000000000, 1000000000000, 10000000000000, 100000000000000, 1000000000000000, 10000000000000000, 100000000000000000, 1000000000000000000, 10000000000000000000] : List Nat).map fun (z : Nat) => Value.int .u64 z).toArray t frozen | o => o) }
theorem laid_met (os : Os) : laidMet Tryd.prog Rows.fourApartUptoRow.laid ((laidWorld os).forCall (fun _ _ => 0) ⟨#[], #[.int .u32 0, .int .u32 0, .slice none 0 0], []⟩).memory :=
  laidMet_of_run' 8 (by kernel_rfl) (by kernel_rfl)
theorem reads (os : Os) {H : Type} (enc : TypeId × Value → H) : ∃ places, DataW.whole enc Tryd.prog ((laidWorld os).forCall (fun _ _ => 0) ⟨#[], #[.int .u32 0, .int .u32 0, .slice none 0 0], []⟩).memory Tryd.f10.params.toList Rows.fourApartSpec.vars false (#[.int .u32 0, .int .u32 0, .slice none 0 0] : Array Value).toList 8 = some ([.lit (.int .u32 0), .lit (.int .u32 0), .nil], [], places) :=
  ⟨[], by kernel_rfl⟩
set_option maxRecDepth 100000 in
theorem lifted (os : Os) (started : os.Started) (H : Type) (enc : TypeId × Value → H) (F : Stop.Interp) :
    ReturnsInHanded {} Tryd.checked os 10 .any ((Rows.OpenSpec.upto Rows.fourApartSpec).preRow enc Tryd.prog Tryd.f10 Rows.fourApartUptoRow.domain false Rows.fourApartUptoRow.laid) (((Rows.OpenSpec.upto Rows.fourApartSpec).at F).post enc Tryd.prog Tryd.f10 false true false false) := by
  obtain ⟨places, hx⟩ := reads os enc
  refine returnsInHanded_of_row (C := Tryd.checked) (s := Rows.OpenSpec.upto Rows.fourApartSpec) own started (by kernel_rfl) Tryd.func10
    (witness_row_at (enc := enc) (C := Tryd.checked) false (laidWorld os) #[.int .u32 0, .int .u32 0, .slice none 0 0] rfl (by kernel_rfl) (by kernel_rfl) (by kernel_rfl)
      (OpenSpec.preRow_of_cond 8 hx (by kernel_rfl) (fun k hk => by cases hk; kernel_rfl) (by kernel_rfl) (laid_met os))) ?_
  intro W base args ds gs before hval hW _ hcond _ hL hsh _
  exact contract H enc W base args ds gs before hval hW (hcond _ rfl) hL hsh
theorem said : Rows.FourApartUptoSaid :=
  OpenClaim.holds_of_cond 10 Tryd.f10 rfl rfl rfl rfl rfl rfl rfl ⟨rfl, rfl, rfl, rfl, rfl⟩ rfl rfl rfl rfl rfl (by kernel_rfl) Tryd.func10 (by kernel_rfl)
    (of_decide_eq_true (by kernel_rfl)) (by unfold Func.isWrapper; first | (rw [if_pos (by decide +kernel)]; kernel_rfl) | (rw [if_neg (by decide +kernel)]; exact ⟨rfl, rfl⟩))
    (fun os started H enc _ F => by rw [OpenClaim.pre_eq_preRow]; exact lifted os started H enc F)
/-- No parameter wants a stand-in; the program's own looks are off. -/
theorem plain (f : FuncId) (fn : Func) (hf : Tryd.pinned.checked.prog.funcNamed "postern/posternlaw20.FourApart" = some f) (hfn : Tryd.pinned.checked.prog.funcs[f]? = some fn) :
    false = Tryd.pinned.checked.prog.looks [] ∧ ∀ (j : Nat) t, fn.params[j]? = some t → Tryd.pinned.checked.prog.wantsStandIn t = false := by
  obtain rfl : f = 10 := Option.some.inj ((show Tryd.prog.funcNamed "postern/posternlaw20.FourApart" = some 10 by kernel_rfl).symm.trans hf) |>.symm
  obtain rfl : fn = Tryd.f10 := (Option.some.inj (Tryd.func10.symm.trans hfn)).symm
  refine ⟨by kernel_rfl, fun j t ht => ?_⟩
  rw [Tryd.params10] at ht
  have hm := Array.mem_of_getElem? ht
  simp at hm
  rcases hm with rfl | rfl
  · exact (show Tryd.prog.wantsStandIn 22 = false by kernel_rfl)
  · exact (show Tryd.prog.wantsStandIn 68 = false by kernel_rfl)
theorem card : Rows.FourApartUptoCardSaid :=
  Claim7.holds_tied_plain_at .later [] _ _ _ _ said (fun _ h => by cases h) (by kernel_rfl) (fun _ h => by cases h) fourApartUpto_row_tie rfl ⟨rfl, rfl⟩ (by kernel_rfl) rfl plain (by kernel_rfl)
#print axioms card
end Go.Proofs.YtgnahagnmodpdaaDoor.fnFourApart
