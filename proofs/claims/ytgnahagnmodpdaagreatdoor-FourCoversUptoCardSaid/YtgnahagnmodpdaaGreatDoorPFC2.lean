/- Several texts in one (wip/gen/pack.py): FourCoversP FourCovers Frame FourOpenL FourCoversCard. -/
import Derived.Test.YtgnahagnmodpdaaGreatDoorPFC1
import Derived.Test.YtgnahagnmodpdaaGreatDoorPFC0
import Derived.Test.YtgnahagnmodpdaaGreatDoorRows
import Derived.OpenShut
import Derived.ProofKit
import Derived.ChangeSame
import Derived.ChangeMaps5
import Derived.Deep.DeepHandedRow
import Derived.LaidSub
import Derived.Lib.LaidTab
import Derived.Test.YtgnahagnmodpdaaGreatDoorCards
import Derived.Test.YtgnahagnmodpdaaGreatDoorTie
/-! FourCoversP -/
namespace Go.Proofs.YtgnahagnmodpdaaGreatDoor
open Go.RowKit Go.Proofs.YtgnahagnmodpdaaGreatDoorW.PrintWords Go.Proofs.YtgnahagnmodpdaaGreatDoor.X Go.IntWalk
set_option linter.unusedVariables false
set_option linter.unusedSimpArgs false
def toB (x : S30) : S31 := ⟨x.f0, x.f1⟩
theorem rd_map_toB (l : List S30) {i : Nat} (hi : i < l.length) : rd_T31 (l.map toB) (i : Int) = toB (rd_T30 l (i : Int)) := by
  unfold rd_T31 rd_T30
  rw [Int.toNat_natCast, List.getD_eq_getElem?_getD, List.getD_eq_getElem?_getD, List.getElem?_map, List.getElem?_eq_getElem hi]
  rfl
theorem blocks_l0 (l : List S30) (hn : l.length ≤ 8796093022208) : ∀ (m i : Nat), i + m = l.length → Ev (fun k => posternlaw20_blocks.l0 k l (l.map toB) (l.length : Int) (i : Int)) true
  | 0, i, hm => by
    refine Ev.step (f := fun k => some true) (fun k => ?_) (Ev.now _)
    simp only [posternlaw20_blocks.l0]
    rw [if_neg (by omega)]
  | m + 1, i, hm => by
    have ih := blocks_l0 l hn m (i + 1) (by omega)
    refine Ev.step (f := fun k => posternlaw20_blocks.l0 k l (l.map toB) (l.length : Int) ((i + 1 : Nat) : Int)) (fun k => ?_) ih
    simp only [posternlaw20_blocks.l0, List.length_map]
    have hw : wrap64 ((i : Int) + 1) = ((i + 1 : Nat) : Int) := by rw [wrap64_in _ (by omega)]; omega
    have hb : posternlaw20_block.f (rd_T30 l (i : Int)).f0 (rd_T30 l (i : Int)).f1 (rd_T31 (l.map toB) (i : Int)).f0 (rd_T31 (l.map toB) (i : Int)).f1 = some true := by
      rw [rd_map_toB l (by omega)]
      unfold posternlaw20_block.f toB
      rw [if_pos rfl]
      simp
    rw [if_pos (by omega), if_pos (by omega), if_pos (by omega), if_pos (by omega), hb, hw]
    rfl
theorem blocks_true (l : List S30) (hn : l.length ≤ 8796093022208) : Ev (fun k => posternlaw20_blocks.f k l (l.map toB)) true := by
  have h := blocks_l0 l hn l.length 0 (by omega)
  refine Ev.congr (fun k => ?_) h
  unfold posternlaw20_blocks.f
  rw [if_pos (by rw [List.length_map])]
  rfl
theorem toS_toB (L : List (Nat × Nat)) : (L.map toS).map toB = L.map toR := by
  rw [List.map_map]
  rfl
theorem idx_find (p : S30 → Bool) : ∀ (l : List S30) (i : Nat), Lib.idxByFrom (fun _ y => p y) default l i = match l.findIdx? p with
    | some k => ((i + k : Nat) : Int)
    | none => -1
  | [], i => rfl
  | y :: l, i => by
    rw [Lib.idxByFrom, List.findIdx?_cons]
    by_cases h : p y = true
    · rw [if_pos h, if_pos h]
      rfl
    · rw [if_neg h, if_neg h, idx_find p l (i + 1)]
      cases l.findIdx? p with
      | none => rfl
      | some k =>
        show ((i + 1 + k : Nat) : Int) = ((i + (k + 1) : Nat) : Int)
        congr 1
        omega
theorem isB_isV {x : S30} (h0 : 0 ≤ x.f0) (h1 : x.f0 ≤ 4294967295) : isB x = isV x.f0 x.f1 := by
  have h := is_f x.f0 x.f1 h0 h1
  rw [isB_f x] at h
  exact Option.some.inj h
theorem find_congr {p q : S30 → Bool} : ∀ {l : List S30}, (∀ x ∈ l, p x = q x) → l.findIdx? p = l.findIdx? q
  | [], _ => rfl
  | y :: l, h => by
    rw [List.findIdx?_cons, List.findIdx?_cons, h y (by simp), find_congr (l := l) (fun x hx => h x (by simp [hx]))]
theorem bad_same {l : List S30} (h : rgL l) : badI l = match badR (l.map toB) with
    | some k => (k : Int)
    | none => -1 := by
  have e : badR (l.map toB) = l.findIdx? fun y => !isB y := by
    unfold badR
    rw [List.findIdx?_map]
    exact find_congr (fun x hx => by
      show (!isV x.f0 x.f1) = !isB x
      rw [isB_isV (h x hx).1 (h x hx).2])
  rw [e]
  unfold badI Lib.idxBy
  rw [idx_find (fun y => !isB y) l 0]
  cases l.findIdx? fun y => !isB y with
  | none => rfl
  | some k =>
    show ((0 + k : Nat) : Int) = (k : Int)
    rw [Nat.zero_add]
theorem join_same {l : List S30} (h : rgL l) : joinRV (l.map toB) = ((joinV l).1.map toB, (joinV l).2.1, (joinV l).2.2) := by
  have e := bad_same h
  unfold joinRV joinV
  cases hb : badR (l.map toB) with
  | some k =>
    rw [hb] at e
    have e : badI l = (k : Int) := e
    rw [e, if_pos (by omega)]
    rfl
  | none =>
    rw [hb] at e
    have e : badI l = -1 := e
    rw [e, if_neg (by decide)]
    show ((covR (joinR [] ((l.map toB).map rngR))).map toR, (0 : Int), (0 : Int)) = (((covR (joinR [] (l.map rngS))).map toS).map toB, (0 : Int), (0 : Int))
    rw [toS_toB, List.map_map]
    rfl
theorem join_len {l : List S30} (h : rgL l) : (joinV l).1.length ≤ 4294967296 := by
  unfold joinV
  by_cases hb : 0 ≤ badI l
  · rw [if_pos hb]
    exact Nat.zero_le _
  · rw [if_neg hb]
    have hv := (badI_neg hb).2
    have hl : ∀ r ∈ l.map rngS, r.1 ≤ r.2 ∧ 0 ≤ r.1 ∧ r.2 < 4294967296 := fun r hr => by
      obtain ⟨x, hx, rfl⟩ := List.mem_map.1 hr
      have h1 := h x hx
      have h2 := last_f x h1.1 h1.2 ((isB_isV h1.1 h1.2).symm.trans (hv x hx))
      have e : (rngS x).1 = x.f0 := rfl
      omega
    have jb := joinR_bound _ (fun r hr => (hl r hr).1) (fun r hr => (hl r hr).2)
    have jo := joinR_ok (l.map rngS) [] trivial (fun r hr => (hl r hr).1)
    have hin : ∀ r ∈ joinR [] (l.map rngS), r.1 ≤ r.2 := fun r hr => by
      have := List.mem_iff_append.1 hr
      obtain ⟨a, b, e⟩ := this
      have hs := jo.1
      rw [e] at hs
      have : Sep (r :: b) := hs.sub (List.sublist_append_right a (r :: b))
      exact this.head
    have := covR_len (joinR [] (l.map rngS)) 0 (Int.le_refl _) (by decide) jo.1 (fun r hr => ⟨(jb r hr).1, hin r hr, by have := (jb r hr).2; omega⟩)
    simp only [List.length_map]
    omega
theorem covers_l0 (l : List S30) (hr : rgB l = true) (hn : l.length < 8796093022208) : ∀ (m i : Nat), i + m = l.length → Ev (fun k => posternlaw20_FourCovers.l0 k l ((l.take i).map toB) l (l.length : Int) (i : Int)) true
  | 0, i, hm => by
    have hrg := rgB_rgL hr
    have hrr : rgRB (l.map toB) = true := by
      unfold rgRB
      rw [List.all_map]
      exact hr
    have hj : four_Join.f l = some (joinV l) := by unfold four_Join.f; rw [if_pos ⟨hr, by omega⟩]
    have hk : posternref20_Join.f (l.map toB) = some (joinRV (l.map toB)) := by unfold posternref20_Join.f; rw [if_pos ⟨hrr, by rw [List.length_map]; omega⟩]
    have h1 := blocks_true (joinV l).1 (Nat.le_trans (join_len hrg) (by decide))
    have h2 := blocks_true l (by omega)
    refine Ev.step (f := fun k => (posternlaw20_blocks.f k (joinV l).1 ((joinV l).1.map toB)).bind fun t => if t = true then (posternlaw20_blocks.f k l (l.map toB)).bind fun t => some t else some false) (fun k => ?_) (Ev.bind h1 ?_)
    · simp only [posternlaw20_FourCovers.l0]
      rw [if_neg (by omega), List.take_of_length_le (by omega), hj]
      simp only [Option.bind_some]
      rw [hk]
      simp only [Option.bind_some]
      rw [join_same hrg]
      simp only [if_true]
    · simp only [if_true]
      exact Ev.bind h2 (Ev.now _)
  | m + 1, i, hm => by
    have ih := covers_l0 l hr hn m (i + 1) (by omega)
    refine Ev.step (f := fun k => posternlaw20_FourCovers.l0 k l ((l.take (i + 1)).map toB) l (l.length : Int) ((i + 1 : Nat) : Int)) (fun k => ?_) ih
    simp only [posternlaw20_FourCovers.l0]
    have hw : wrap64 ((i : Int) + 1) = ((i + 1 : Nat) : Int) := by rw [wrap64_in _ (by omega)]; omega
    have ht : (l.take (i + 1)).map toB = (l.take i).map toB ++ [⟨(rd_T30 l (i : Int)).f0, (rd_T30 l (i : Int)).f1⟩] := by
      rw [List.take_add_one, List.getElem?_eq_getElem (by omega), List.map_append]
      unfold rd_T30
      rw [Int.toNat_natCast, List.getD_eq_getElem?_getD, List.getElem?_eq_getElem (by omega)]
      rfl
    rw [if_pos (by omega), if_pos (by omega), if_pos (by omega), if_pos (by rw [List.length_map, List.length_take]; omega), hw, ht]
theorem covers_true (a b : Int) (l : List S30) (a0 : 0 ≤ a) (a1 : a ≤ 4294967295) (b0 : 0 ≤ b) (b1 : b ≤ 4294967295) (hr : rgB l = true) (hn : l.length < 8796093022208) : Ev (fun k => posternlaw20_FourCovers.f k a b l) true := by
  unfold posternlaw20_FourCovers.f
  refine Ev.bind awake_ev ?_
  simp only [if_true]
  refine Ev.bind (cover_ev a b a0 a1 b0 b1) ?_
  have hc : posternref20_Cover.f a b = some ((covL a.toNat b.toNat).map toR) := by unfold posternref20_Cover.f; rw [if_pos ⟨a0, a1, b0, b1⟩]
  have he : b.toNat < 4294967296 := by omega
  have hlen := cov_len he a.toNat
  have hb := blocks_true (covS a b) (by unfold covS; rw [List.length_map]; omega)
  rw [show (covS a b).map toB = (covL a.toNat b.toNat).map toR from toS_toB _] at hb
  have h0 := covers_l0 l hr hn l.length 0 (by omega)
  refine Ev.congr (f := fun k => (posternlaw20_blocks.f k (covS a b) ((covL a.toNat b.toNat).map toR)).bind fun t => posternlaw20_FourCovers.j0 k l (!t)) (fun k => by rw [hc]; rfl) (Ev.bind hb ?_)
  refine Ev.step (f := fun k => posternlaw20_FourCovers.l0 k l [] l (l.length : Int) 0) (fun k => ?_) h0
  simp only [posternlaw20_FourCovers.j0, Option.bind_some, Bool.not_true, List.nil_append, List.length_nil, Nat.zero_add]
  rw [if_neg (by decide), if_pos hn]
end Go.Proofs.YtgnahagnmodpdaaGreatDoor
/-! FourCovers -/
namespace Go.Proofs.YtgnahagnmodpdaaGreatDoor
open Go.RowKit Go.Proofs.YtgnahagnmodpdaaGreatDoorW.PrintWords Go.Proofs.YtgnahagnmodpdaaGreatDoor.X Go.IntWalk
set_option linter.unusedVariables false
set_option linter.unusedSimpArgs false
theorem bulk_pos {H : Type} (d : DataW H) : 1 ≤ Rows.uptoBulk d := by
  cases d with
  | lit l => cases l <;> simp [Rows.uptoBulk]
  | _ => simp [Rows.uptoBulk]
theorem bulk_len {H : Type} : ∀ es : List (DataW H), es.length ≤ Rows.uptoBulkAll es
  | [] => Nat.zero_le _
  | d :: r => by
    rw [Rows.uptoBulkAll, List.length_cons]
    have := bulk_pos d
    have := bulk_len r
    omega
theorem bulk_slice {H : Type} {l : List S30} {d : DataW H} {n : Nat} (h : l = [] ∨ ∃ es rest, d = .slice es rest ∧ es.length = l.length) (hb : Rows.uptoBulk d ≤ n) : l.length ≤ n := by
  rcases h with rfl | ⟨es, rest, rfl, e⟩
  · exact Nat.zero_le _
  · rw [Rows.uptoBulk] at hb
    have := bulk_len es
    omega
theorem covers_walk (a b : Int) (A : Option Addr) (c : Nat) (l : List S30) (a0 : 0 ≤ a) (a1 : a ≤ 4294967295) (b0 : 0 ≤ b) (b1 : b ≤ 4294967295) (hl : ∀ x ∈ l, 0 ≤ x.f0 ∧ x.f0 ≤ 4294967295) (hn : l.length < 8796093022208) (w : World) (hC : Kd.C k30 w A l.length l) (hc : l.length ≤ c) (hG : GW w) :
    Calls Tryz.prog 3 #[.int .u32 a, .int .u32 b, .slice A l.length c] w fun e w' => e = .returned (.bool true) ∧ Below w.heap.size w w' := by
  have hr : rgB l = true := List.all_eq_true.2 fun x hx => by
    have := hl x hx
    simpa using this
  obtain ⟨k, h⟩ := (covers_true a b l a0 a1 b0 b1 hr hn).rounds
  exact posternlaw20_FourCovers.calls k a b A c l true w hC hc hG h
end Go.Proofs.YtgnahagnmodpdaaGreatDoor
/-! Frame -/
namespace Go.Proofs.YtgnahagnmodpdaaGreatDoor
open Go.RowKit Go.WideShapes Go.ChangeShapes Go.ChangeAt
set_option linter.unusedVariables false
set_option linter.unusedSimpArgs false
section
variable {H : Type} {enc : TypeId × Value → H} {P : Program}
theorem law_below {f : Func} {s : ChangeSpec} {apart fresh handsOn again : Bool} {W W' : World} {args : Array Value} {v : Value} {ds gs : List (DataW H)} {before pa pv : List MemPlace}
    (hW : DataW.Whole enc P f.params.toList s.vars apart W args.toList ds gs before)
    (hres : ∀ (b : Nat) (sp : Nat → Bool) (hd : Bool), DataW.TrodAll enc P W' b sp hd f.resultTypes.toList (v.resultList f.resultTypes.size) (s.fn H (ds ++ gs)).results [])
    (hargs : ∀ sp : Nat → Bool, (∀ p ∈ before, sp p.block = true) → DataW.TrodAll enc P W' 0 sp true f.params.toList args.toList (s.fn H (ds ++ gs)).args pa)
    (hvars : ∀ sp : Nat → Bool, (∀ p ∈ before, sp p.block = true) → DataW.TrodVars enc P W' sp s.vars (s.fn H (ds ++ gs)).vars pv)
    (hps : before = pa ++ pv) (hb : Below W.heap.size W W')
    (hok : ∀ (j : Nat) (t : TypeId) (r : Value), f.resultTypes[j]? = some t → (v.resultList f.resultTypes.size)[j]? = some r → Value.okWide P W' .any 0 t r) :
    s.post enc P f apart fresh handsOn again W args v W' := by
  have hlt : ∀ p ∈ before, p.block < W.heap.size := fun p hp => hW.lt p hp
  have hold : ∀ p ∈ before, (fun b => decide (b < W.heap.size)) p.block = true := fun p hp => by simpa using hlt p hp
  refine ⟨ds, gs, before, [], pa, pv, hW, hres _ _ _, hargs _ hold, hvars _ hold, World.keptBut_mono (fun p hp => ⟨hp, ?_⟩) (hb.frame (· ∈ before)), fun _ => ?_⟩
  · rw [hps, List.mem_append] at hp
    exact Or.inr hp
  · obtain ⟨_, _, _, _, _, hz, hn⟩ := hW
    refine ⟨hok, _, _, ([] ++ pa) ++ pv, ⟨[] ++ pa, pv, trodAll_append (hargs _ (fun _ _ => rfl)) (hres _ _ _), hvars _ (fun _ _ => rfl), rfl, ?_, ?_⟩, ?_⟩
    · intro b off hp
      have hin : MemPlace.cell b off ∈ before := by rw [hps]; simpa using hp
      rw [hb.frozen (hlt _ hin)]
      exact hz b off hin
    · intro ha
      have := hn ha
      rw [hps] at this
      simpa using this
    · intro p hp _
      rw [hps]
      simpa using hp
/-- All arguments read as they did, where all stays that was there. -/
theorem args_stay (hl : laidOutB P = true) {W W' : World} (hB : Below W.heap.size W W') {sp : Nat → Bool} :
    ∀ (ts : List TypeId) (vs : List Value) (ds : List (DataW H)) (ps : List MemPlace), (∀ t ∈ ts, P.readableRec t = true ∧ t < P.types.size) → DataW.TrodAll enc P W 0 (fun _ => true) true ts vs ds ps →
      (∀ p ∈ ps, p.block < W.heap.size) → (∀ p ∈ ps, sp p.block = true) → DataW.TrodAll enc P W' 0 sp true ts vs ds ps
  | [], vs, ds, ps, _, h, _, _ => by
    obtain ⟨rfl, rfl, rfl⟩ := trodAll_nil h
    exact trodAll_mk0
  | t :: ts, vs, ds, ps, hr, h, hlt, hs => by
    obtain ⟨v, vs1, d, ds1, a, b, rfl, rfl, rfl, h1, h2⟩ := trodAll_cons h
    have hlt' := hlt
    exact trodAll_cons_mk (WideElems.Trod_stays hl (hr t (by simp)).1 (hr t (by simp)).2 h1 (fun x hx => hB.same (hlt x (by simp [hx]))) (fun x hx => hs x (by simp [hx])))
      (args_stay hl hB ts vs1 ds1 b (fun t ht => hr t (by simp [ht])) h2 (fun p hp => hlt p (by simp [hp])) (fun p hp => hs p (by simp [hp])))
/-- THE STEP OF A LAW's ROW. -/
theorem law_post {f : Func} {s : ChangeSpec} {tb : TypeId} {W W' : World} {args : Array Value} {ds : List (DataW H)} {before : List MemPlace} (hv : s.vars = []) (hfn : s.fn H ds = { results := [.lit (.bool true)], args := ds })
    (hres : f.resultTypes = #[tb]) (hb : P.underlying tb = some .bool) (hl : laidOutB P = true) (hr : ∀ t ∈ f.params.toList, P.readableRec t = true ∧ t < P.types.size)
    (hW : DataW.Whole enc P f.params.toList s.vars false W args.toList ds [] before) (hB : Below W.heap.size W W') : s.post enc P f false true false false W args (.bool true) W' := by
  have hW' := hW
  obtain ⟨p, q, hA, hV, hpq, hfz, hnd⟩ := hW
  have hA : DataW.TrodAll enc P W 0 (fun _ => true) true f.params.toList args.toList ds p := hA
  rw [hv] at hV
  obtain ⟨_, rfl⟩ := trodVars_none hV
  have hlt : ∀ x ∈ before, x.block < W.heap.size := fun x hx => hW'.lt x hx
  subst hpq
  refine law_below (pa := p) (pv := []) hW' ?_ ?_ ?_ (by simp) hB ?_
  · intro b sp hd
    rw [List.append_nil, hfn, hres]
    exact trodAll_cons_mk (shut_bool hb true) trodAll_mk0
  · intro sp hs
    rw [List.append_nil, hfn]
    exact args_stay hl hB _ _ _ _ hr hA (fun x hx => hlt x (by simp [hx])) (fun x hx => hs x (by simp [hx]))
  · intro sp hs
    rw [List.append_nil, hfn, hv]
    rfl
  · exact ok_one hres rfl (okWide_bool_mk hb true)
end
end Go.Proofs.YtgnahagnmodpdaaGreatDoor
/-! FourOpenL -/
namespace Go.Proofs.YtgnahagnmodpdaaGreatDoor
open Go.RowKit Go.WideShapes Go.ChangeShapes Go.ChangeAt Go.Proofs.YtgnahagnmodpdaaGreatDoorW.PrintWords Go.Proofs.YtgnahagnmodpdaaGreatDoor.X
set_option linter.unusedVariables false
set_option linter.unusedSimpArgs false
theorem blkCells : Tryz.prog.cellsOf 30 = 2 := by kernel_rfl
section
variable {H : Type} {enc : TypeId × Value → H} {W : World} {base : Nat} {sp : Nat → Bool} {held : Bool}
set_option maxRecDepth 100000 in
theorem blk_trod {n : Nat} {cs : List Value} {y : DataW H × List MemPlace} (h : DataW.trod enc Tryz.prog W base sp held n 30 cs = some y) :
    ∃ x : S30, cs = [.int .u32 x.f0, .int .i64 x.f1] ∧ (0 ≤ x.f0 ∧ x.f0 ≤ 4294967295) ∧ -9223372036854775808 ≤ x.f1 ∧ x.f1 ≤ 9223372036854775807 := by
  obtain ⟨y0, y1, m, rfl, hl, h0, h1⟩ := trod_struct2 Tryz.underlying30 h
  rw [blkCells] at hl
  match cs, hl with
  | [c0, c1], _ =>
    have e0 : Tryz.prog.cellsOf 22 = 1 := by kernel_rfl
    have e1 : Tryz.prog.cellsOf 3 = 1 := by kernel_rfl
    simp only [e0, e1, List.drop_zero, List.drop_succ_cons, List.take_succ_cons, List.take_zero] at h0 h1
    obtain ⟨a, ha, rfl, wa⟩ := DataW.trod_int Tryz.underlying22 h0
    obtain ⟨b, hb, rfl, wb⟩ := DataW.trod_int Tryz.underlying3 h1
    simp only [Lit.wf, Bool.and_eq_true, decide_eq_true_eq] at wa wb
    refine ⟨⟨a, b⟩, ?_, wa, wb⟩
    obtain rfl : c0 = _ := (List.cons.inj ha).1
    obtain rfl : c1 = _ := (List.cons.inj hb).1
    rfl
set_option maxRecDepth 100000 in
theorem blocks_open {base2 : Nat} {v : Value} {d : DataW H} {ps : List MemPlace} (hval : Value.okWide Tryz.prog W .any base2 23 v) (h : DataW.Trod enc Tryz.prog W base sp held 23 v d ps) :
    ∃ (A : Option Addr) (c : Nat) (l : List S30), v = .slice A l.length c ∧ l.length ≤ c ∧ Kd.C k30 W A l.length l ∧ (∀ x ∈ l, 0 ≤ x.f0 ∧ x.f0 ≤ 4294967295) ∧ (l = [] ∨ ∃ es rest, d = .slice es rest ∧ es.length = l.length) := by
  obtain ⟨a0, len0, cap0, rfl⟩ := okWide_slice Tryz.underlying23 hval
  obtain ⟨fuel, hf⟩ := h
  rcases DataW.trod_slice Tryz.underlying23 hf with ⟨hcs, _⟩ | ⟨a, len, cap, elems, rest, n, _, hcs, hx, hb, hl, hm, hlen, hel, hsp, hns⟩
  · simp [Value.cells] at hcs
    obtain ⟨rfl, rfl, rfl⟩ := hcs
    exact ⟨none, 0, [], rfl, Nat.le_refl _, ⟨rfl, by decide, fun h => absurd h (by decide)⟩, fun x hx => absurd hx (by simp), .inl rfl⟩
  · simp [Value.cells] at hcs
    obtain ⟨rfl, rfl, rfl⟩ := hcs
    rw [blkCells] at hel
    have key : ∀ i, i < len0 → ∃ x : S30, (W.cell? (a.add (i * 2)) = some (.int .u32 x.f0) ∧ W.cell? (a.add (i * 2 + 1)) = some (.int .i64 x.f1)) ∧ 0 ≤ x.f0 ∧ x.f0 ≤ 4294967295 := by
      intro i hi
      have he := hel i hi
      rw [List.getElem?_eq_getElem (by omega), Option.bind_eq_some_iff] at he
      obtain ⟨cs, hc, ht⟩ := he
      obtain ⟨x, rfl, hr, _⟩ := blk_trod ht
      have hc' := (World.cells?_some hc).2.2
      refine ⟨x, ⟨?_, ?_⟩, hr⟩
      · have := hc' 0 (by omega)
        simpa [Addr.add] using this
      · have := hc' 1 (by omega)
        have e : (a.add (i * 2)).add 1 = a.add (i * 2 + 1) := by
          unfold Addr.add
          by_cases h : i * 2 = 0
          · rw [if_neg (by decide), if_pos h, if_neg (by omega), h]
          · rw [if_neg (by decide), if_neg h, if_neg (by omega), Nat.add_assoc]
        rw [e] at this
        simpa using this
    obtain ⟨l, hll, hlk⟩ : ∃ l : List S30, l.length = len0 ∧ ∀ i x, l[i]? = some x → (W.cell? (a.add (i * 2)) = some (.int .u32 x.f0) ∧ W.cell? (a.add (i * 2 + 1)) = some (.int .i64 x.f1)) ∧ 0 ≤ x.f0 ∧ x.f0 ≤ 4294967295 := by
      clear hel hlen hsp hns hx hf hval hl
      have : ∀ m, m ≤ len0 → ∃ l : List S30, l.length = m ∧ ∀ i x, l[i]? = some x → (W.cell? (a.add (i * 2)) = some (.int .u32 x.f0) ∧ W.cell? (a.add (i * 2 + 1)) = some (.int .i64 x.f1)) ∧ 0 ≤ x.f0 ∧ x.f0 ≤ 4294967295 := by
        intro m
        induction m with
        | zero => exact fun _ => ⟨[], rfl, fun i x h => by simp at h⟩
        | succ m ih =>
          intro hm
          obtain ⟨l, e, hk⟩ := ih (by omega)
          obtain ⟨x, hx⟩ := key m (by omega)
          refine ⟨l ++ [x], by simp [e], fun i z hz => ?_⟩
          rcases Nat.lt_or_ge i l.length with hi | hi
          · rw [List.getElem?_append_left hi] at hz
            exact hk i z hz
          · rw [List.getElem?_append_right hi] at hz
            have : i = m := by
              rcases Nat.lt_or_ge (i - l.length) 1 with h | h
              · omega
              · rw [List.getElem?_eq_none (by simpa using h)] at hz; cases hz
            subst this
            rw [e, Nat.sub_self] at hz
            obtain rfl := (Option.some.inj hz)
            exact hx
      exact this len0 (Nat.le_refl _)
    refine ⟨some a, cap0, l, by rw [hll], by rw [hll]; exact hl, ⟨by rw [hll], by rw [hll]; exact Nat.le_trans hl (Nat.le_trans hm (by decide)), fun _ => ⟨a, rfl, fun j p hj => ?_⟩⟩, fun x hx => ?_, .inr ⟨_, _, congrArg Prod.fst hx, by rw [List.length_map]; omega⟩⟩
    · have hk := (hlk j p hj).1
      refine ⟨[.int .u32 p.f0, .int .i64 p.f1], rfl, k30_mk _ _, fun i u hi => ?_⟩
      match i, hi with
      | 0, hi => rw [← Option.some.inj hi]; exact hk.1
      | 1, hi => rw [← Option.some.inj hi]; exact hk.2
      | i + 2, hi => cases hi
    · obtain ⟨i, hi⟩ := List.getElem?_of_mem hx
      exact (hlk i x hi).2
end
end Go.Proofs.YtgnahagnmodpdaaGreatDoor
/-! FourCoversCard -/
namespace Go.Proofs.YtgnahagnmodpdaaGreatDoor.fnFourCovers
open Go.ChangeShapes Go.WideShapes Go.ChangeAt Go.RowKit Go.Proofs.YtgnahagnmodpdaaGreatDoor
set_option linter.unusedVariables false
theorem own : ownKnob Tryz.prog.godebug = none := by kernel_rfl
theorem laidOut : laidOutB Tryz.prog = true := by kernel_rfl
theorem pow10_of {W : World} (hL : laidMetH Tryz.prog Rows.fourCoversUptoRow.laid W) : Lib.TabIs Tryz.prog W "internal/strconv.uint64pow10" .u64 Lib.pow10Tab := by
  have h1 := laidMetH.filter (fun x => x.1 == "internal/strconv.uint64pow10") hL
  rw [show Rows.fourCoversUptoRow.laid.filter (fun x => x.1 == "internal/strconv.uint64pow10") = [("internal/strconv.uint64pow10", Lib.tabData .u64 Lib.pow10Tab)] by kernel_rfl] at h1
  exact Lib.tabIs_of_head (g := 1) (n := 20) (rest := []) (by kernel_rfl) (by kernel_rfl) Tryz.underlying133 Tryz.underlying43 (by kernel_rfl) (by kernel_rfl) h1
theorem tz_of {W : World} (hL : laidMetH Tryz.prog Rows.fourCoversUptoRow.laid W) : Lib.TabIs Tryz.prog W "math/bits.deBruijn64tab" .u8 (Lib.deBruijn64tab.map fun n : Nat => (n : Int)) := by
  have h1 := laidMetH.filter (fun x => x.1 == "math/bits.deBruijn64tab") hL
  rw [show Rows.fourCoversUptoRow.laid.filter (fun x => x.1 == "math/bits.deBruijn64tab") = [("math/bits.deBruijn64tab", Lib.tabData .u8 (Lib.deBruijn64tab.map fun n : Nat => (n : Int)))] by kernel_rfl] at h1
  exact Lib.tabIs_of_head (g := 0) (n := 64) (rest := []) (by kernel_rfl) (by kernel_rfl) Tryz.underlying65 Tryz.underlying5 (by kernel_rfl) (by kernel_rfl) h1
theorem gw_of {W : World} (h : W.ShapedOpen Tryz.prog) (hL : laidMetH Tryz.prog Rows.fourCoversUptoRow.laid W) : GW W where
  maxLen := Tryz.laysM219.s1_3 W h
  pow10 := pow10_of hL
  tz := tz_of hL
set_option maxRecDepth 100000 in
theorem contract (H : Type) (enc : TypeId × Value → H) (W : World) (base : Nat) (args : Array Value) (ds gs : List (DataW H)) (before : List MemPlace)
    (hval : ∀ (j : Nat) t v, Tryz.f3.params[j]? = some t → args[j]? = some v → Value.okWide Tryz.prog W .any base t v)
    (hW : DataW.Whole enc Tryz.prog Tryz.f3.params.toList Rows.fourCoversSpec.vars false W args.toList ds gs before) (hk : Rows.uptoSmall H (ds ++ gs) = true) (hL : laidMetH Tryz.prog Rows.fourCoversUptoRow.laid W) (hsh : W.ShapedOpen Tryz.prog) :
    Calls Tryz.prog 3 args W fun e W' => ∃ v, e = .returned v ∧ Rows.fourCoversSpec.post enc Tryz.prog Tryz.f3 false true false false W args v W' := by
  have hW' := hW
  obtain ⟨p, q, hA0, hV, rfl, hfz, hnd⟩ := hW
  have hA : DataW.TrodAll enc Tryz.prog W 0 (fun _ => true) true Tryz.f3.params.toList args.toList ds p := hA0
  rw [Tryz.params3] at hA hval
  obtain ⟨v0, vs0, d0, ds0, p0, q0, hargs, rfl, rfl, h0, r0⟩ := trodAll_cons hA
  obtain ⟨v1, vs1, d1, ds1, p1, q1, rfl, rfl, rfl, h1, r1⟩ := trodAll_cons r0
  obtain ⟨v2, vs2, d2, ds2, p2, q2, rfl, rfl, rfl, h2, r2⟩ := trodAll_cons r1
  obtain ⟨rfl, rfl, rfl⟩ := trodAll_nil r2
  obtain rfl : args = #[v0, v1, v2] := by cases args; simp_all
  obtain ⟨rfl, rfl⟩ := trodVars_none hV
  obtain ⟨s0, rfl, rfl, rfl, y0⟩ := open_int Tryz.underlying22 (hval 0 22 v0 rfl rfl) h0
  have z0 : (0 : Int) ≤ s0 ∧ s0 ≤ 4294967295 := by
    have h := y0
    simp only [Lit.wf, Bool.and_eq_true, decide_eq_true_eq] at h
    exact h
  obtain ⟨s1, rfl, rfl, rfl, y1⟩ := open_int Tryz.underlying22 (hval 1 22 v1 rfl rfl) h1
  have z1 : (0 : Int) ≤ s1 ∧ s1 ≤ 4294967295 := by
    have h := y1
    simp only [Lit.wf, Bool.and_eq_true, decide_eq_true_eq] at h
    exact h
  obtain ⟨A2, c2, l2, rfl, hc2, hC2, hr2, hd2⟩ := blocks_open (hval 2 23 v2 rfl rfl) h2
  clear hA0
  have hb : Rows.uptoBulkAll _ ≤ 1048576 := of_decide_eq_true hk
  simp only [Rows.uptoBulkAll, Rows.uptoBulk, List.append_nil] at hb
  have hG := gw_of hsh hL
  refine (covers_walk s0 s1 A2 c2 l2 z0.1 z0.2 z1.1 z1.2 hr2 (by have := bulk_slice (n := 1048576) hd2 (by omega); omega) W hC2 hc2 hG).mono fun e W' ⟨he, hg⟩ => ?_
  subst he
  exact ⟨_, rfl, law_post (s := Rows.fourCoversSpec) (f := Tryz.f3) rfl rfl (tb := 4) rfl Tryz.underlying4 laidOut (by rw [Tryz.params3]; intro t ht; simp at ht; rcases ht with rfl | rfl <;> exact ⟨by kernel_rfl, of_decide_eq_true (by kernel_rfl)⟩) hW' hg⟩
def accepts : List Nat := [128, 191, 160, 191, 128, 159, 144, 191, 128, 143, 0, 0, 0, 0, 0, 0, 0, 0, 0, 0, 0, 0, 0, 0, 0, 0, 0, 0, 0, 0, 0, 0]
/-- A world for the witness: the settled one, the tables holding what their initialisers lay. -/
noncomputable def laidWorld (os : Os) : World := { World.holding Tryz.prog os ⟨#[], #[], []⟩ with heap := ((((((World.holding Tryz.prog os ⟨#[], #[], []⟩).heap.modify 4 fun | .cells _ t frozen => .cells (accepts.map fun (z : Nat) => Value.int .u8 z).toArray t frozen | o => o).modify 3 fun | .cells _ t frozen => .cells (Go.Pinned.utf8FirstZ.map fun (z : Nat) => Value.int .u8 z).toArray t frozen | o => o).modify 5 fun | .cells _ t frozen => .cells (([0, 1, 28, 2, 29, 14, 24, 3, 30, 22, 20, 15, 25, 17, 4, 8, 31, 27, 13, 23, 21, 19, 16, 7, 26, 12, 18, 6, 11, 5, 10, 9] : List Nat).map fun (z : Nat) => Value.int .u8 z).toArray t frozen | o => o).modify 0 fun | .cells _ t frozen => .cells ((Lib.deBruijn64tab : List Nat).map fun (z : Nat) => Value.int .u8 z).toArray t frozen | o => o).modify 1 fun | .cells _ t frozen => .cells (([1, 10, 100, 1000, 10000, 100000, 1000000, 10000000, 100000000, 1000000000, 10000000000, 100000000000, 1000000000000, 10000000000000, 100000000000000, 1000000000000000, 10000000000000000, 100000000000000000, 1000000000000000000, 10000000000000000000] : List Nat).map fun (z : Nat) => Value.int .u64 z).toArray t frozen | o => o) }
theorem laid_met (os : Os) : laidMet Tryz.prog Rows.fourCoversUptoRow.laid ((laidWorld os).forCall (fun _ _ => 0) ⟨#[], #[.int .u32 0, .int .u32 0, .slice none 0 0], []⟩).memory :=
  laidMet_of_run' 8 (by kernel_rfl) (by kernel_rfl)
theorem reads (os : Os) {H : Type} (enc : TypeId × Value → H) : ∃ places, DataW.whole enc Tryz.prog ((laidWorld os).forCall (fun _ _ => 0) ⟨#[], #[.int .u32 0, .int .u32 0, .slice none 0 0], []⟩).memory Tryz.f3.params.toList Rows.fourCoversSpec.vars false (#[.int .u32 0, .int .u32 0, .slice none 0 0] : Array Value).toList 8 = some ([.lit (.int .u32 0), .lit (.int .u32 0), .nil], [], places) :=
  ⟨[], by kernel_rfl⟩
set_option maxRecDepth 100000 in
theorem lifted (os : Os) (started : os.Started) (H : Type) (enc : TypeId × Value → H) (F : Stop.Interp) :
    ReturnsInHanded {} Tryz.checked os 3 .any ((Rows.OpenSpec.upto Rows.fourCoversSpec).preRow enc Tryz.prog Tryz.f3 Rows.fourCoversUptoRow.domain false Rows.fourCoversUptoRow.laid) (((Rows.OpenSpec.upto Rows.fourCoversSpec).at F).post enc Tryz.prog Tryz.f3 false true false false) := by
  obtain ⟨places, hx⟩ := reads os enc
  refine returnsInHanded_of_row (C := Tryz.checked) (s := Rows.OpenSpec.upto Rows.fourCoversSpec) own started (by kernel_rfl) Tryz.func3
    (witness_row_at (enc := enc) (C := Tryz.checked) false (laidWorld os) #[.int .u32 0, .int .u32 0, .slice none 0 0] rfl (by kernel_rfl) (by kernel_rfl) (by kernel_rfl)
      (OpenSpec.preRow_of_cond 8 hx (by kernel_rfl) (fun k hk => by cases hk; kernel_rfl) (by kernel_rfl) (laid_met os))) ?_
  intro W base args ds gs before hval hW _ hcond _ hL hsh _
  exact contract H enc W base args ds gs before hval hW (hcond _ rfl) hL hsh
theorem said : Rows.FourCoversUptoSaid :=
  OpenClaim.holds_of_cond 3 Tryz.f3 rfl rfl rfl rfl rfl rfl rfl ⟨rfl, rfl, rfl, rfl, rfl⟩ rfl rfl rfl rfl rfl (by kernel_rfl) Tryz.func3 (by kernel_rfl)
    (of_decide_eq_true (by kernel_rfl)) (by unfold Func.isWrapper; first | (rw [if_pos (by decide +kernel)]; kernel_rfl) | (rw [if_neg (by decide +kernel)]; exact ⟨rfl, rfl⟩))
    (fun os started H enc _ F => by rw [OpenClaim.pre_eq_preRow]; exact lifted os started H enc F)
/-- No parameter wants a stand-in; the program's own looks are off. -/
theorem plain (f : FuncId) (fn : Func) (hf : Tryz.pinned.checked.prog.funcNamed "postern/posternlaw20.FourCovers" = some f) (hfn : Tryz.pinned.checked.prog.funcs[f]? = some fn) :
    false = Tryz.pinned.checked.prog.looks [] ∧ ∀ (j : Nat) t, fn.params[j]? = some t → Tryz.pinned.checked.prog.wantsStandIn t = false := by
  obtain rfl : f = 3 := Option.some.inj ((show Tryz.prog.funcNamed "postern/posternlaw20.FourCovers" = some 3 by kernel_rfl).symm.trans hf) |>.symm
  obtain rfl : fn = Tryz.f3 := (Option.some.inj (Tryz.func3.symm.trans hfn)).symm
  refine ⟨by kernel_rfl, fun j t ht => ?_⟩
  rw [Tryz.params3] at ht
  have hm := Array.mem_of_getElem? ht
  simp at hm
  rcases hm with rfl | rfl
  · exact (show Tryz.prog.wantsStandIn 22 = false by kernel_rfl)
  · exact (show Tryz.prog.wantsStandIn 23 = false by kernel_rfl)
theorem card : Rows.FourCoversUptoCardSaid :=
  Claim7.holds_tied_plain_at .later [] _ _ _ _ said (fun _ h => by cases h) (by kernel_rfl) (fun _ h => by cases h) fourCoversUpto_row_tie rfl ⟨rfl, rfl⟩ (by kernel_rfl) rfl plain (by kernel_rfl)
#print axioms card
end Go.Proofs.YtgnahagnmodpdaaGreatDoor.fnFourCovers
