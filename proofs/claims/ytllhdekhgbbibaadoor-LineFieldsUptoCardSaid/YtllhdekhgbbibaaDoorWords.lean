/- What line.words tells: what stands between spaces. -/
import Derived.Test.YtllhdekhgbbibaaDoorStr
import Derived.Shelf.SlicesE.DeleteFunc
namespace Go.Proofs.YtllhdekhgbbibaaDoor
open Go.RowKit Go.Proofs.YtllhdekhgbbibaaDoorW.PrintWords Go.Sort
set_option linter.unusedVariables false
set_option linter.unusedSimpArgs false

def emptyB (x : ByteArray) : Bool := x.toList == []
set_option maxHeartbeats 1000000 in
theorem isEmpty_walk (x : ByteArray) (w : World) : Calls Tryd.prog 39 #[.string x] w fun e w' => e = .returned (.bool (emptyB x)) ∧ w = w' := by
  cases h : (x.toList == [])
  · rw [show emptyB x = false from h]
    have h1 : x.toList.isEmpty = false := by simpa using h
    go_enter Tryd.func39, Tryd.ntmps39
    go_wp2
    go_ret
    exact ⟨by simp_all, rfl⟩
  · rw [show emptyB x = true from h]
    have h1 : x.toList.isEmpty = true := by simpa using h
    go_enter Tryd.func39, Tryd.ntmps39
    go_wp2
    go_ret
    exact ⟨by simp_all, rfl⟩
theorem isEmpty_gives (x : ByteArray) (W : World) : FnGives Tryd.prog 39 #[] #[.string x] (.bool (emptyB x)) W := by
  show Calls Tryd.prog 39 #[.string x] W _
  exact (isEmpty_walk x W).mono fun e w' ⟨he, hw⟩ => ⟨he, 0, hw.symm⟩

def line_words.f (a0 : ByteArray) : Option (List ByteArray) :=
  if a0.size < 4294967281 then some ((Lib.splitB ⟨#[32]⟩ 0 (Lib.countB a0 ⟨#[32]⟩) a0).filter fun x => !emptyB x) else none
set_option maxHeartbeats 1000000 in
set_option maxRecDepth 100000 in
theorem line_words.calls (a0 : ByteArray) (r : List ByteArray) (w : World) (hG : GW w) (h : line_words.f a0 = some r) :
    Calls Tryd.prog 27 #[.string a0] w fun e w' => ∃ v0_ : Value, e = .returned v0_ ∧ Kd.R Kd.string 9 w' w.heap.size (fun _ => True) v0_ r ∧ Below w.heap.size w w' := by
  unfold line_words.f at h
  by_cases hs : a0.size < 4294967281
  · rw [if_pos hs] at h
    obtain ⟨L, hL⟩ : ∃ L, L = Lib.splitB ⟨#[32]⟩ 0 (Lib.countB a0 ⟨#[32]⟩) a0 := ⟨_, rfl⟩
    have hlen := Lib.splitB_all ⟨#[32]⟩ (by decide) 0 _ a0 rfl
    have hle := Lib.countB_le ⟨#[32]⟩ (by decide) _ a0 (Nat.le_refl _)
    rw [← hL] at h hlen
    obtain ⟨m, hm⟩ := hG.maxLen
    have hsp := Tryd.strings_Split a0 ⟨#[32]⟩ m w hs hm (by decide)
    rw [← hL, ← hlen] at hsp
    have hown := own_made w w.heap.size 9 (L.map Value.string) (by rw [List.length_map]; unfold maxLen; omega) (Nat.le_refl _)
    rw [List.length_map] at hown
    have eg : ∀ args w, (callFunc 39 args).run Tryd.prog w = .ok (.enter 39 args) w := enters_of Tryd.func39 (by kernel_rfl) rfl
    obtain ⟨W, hW⟩ : ∃ W, W = w.alloc (.cells (L.map Value.string).toArray 9) := ⟨_, rfl⟩
    rw [← hW] at hsp hown
    have hB : Below w.heap.size w W := hW ▸ (Below.refl _ _).alloc (Nat.le_refl _) _
    obtain ⟨g, cap, hv, hg1, hg2, hg3, hg4, hg5, hH⟩ := Lib.holds_of_ownsRow (enc := Value.string) hown (by simp)
    injection hv with e1 _ e3
    injection e1 with e1
    injection e1 with e1
    subst e1
    have hdel := Tryd.slices_DeleteFunc Value.string (fun _ => rfl) emptyB 39 #[] eg ⟨#[]⟩ (fun w => by kernel_rfl) w.heap.size 0 L.length L.toArray W
      (fun W' x _ => isEmpty_gives x W') (fun n os dk x _ => isEmpty_gives x _) hH (by simp; omega) (by simp)
    simp only [List.size_toArray] at hdel
    have hend : ∀ q, ∃ v0_ : Value, Value.slice (some ⟨w.heap.size, 0, none⟩) (L.filter fun x => !emptyB x).length L.length = v0_ ∧
        Kd.R Kd.string 9 (putRow Value.string (Sort.ahead W q) w.heap.size 0 ((L.filter fun x => !emptyB x) ++ List.replicate (L.length - (L.filter fun x => !emptyB x).length) (⟨#[]⟩ : ByteArray)).toArray) w.heap.size (fun _ => True) v0_ r ∧
        Below w.heap.size w (putRow Value.string (Sort.ahead W q) w.heap.size 0 ((L.filter fun x => !emptyB x) ++ List.replicate (L.length - (L.filter fun x => !emptyB x).length) (⟨#[]⟩ : ByteArray)).toArray) := by
      intro q
      have hk := List.length_filter_le (fun x => !emptyB x) L
      obtain rfl := Option.some.inj h
      refine ⟨_, rfl, kd_strings (n := (L.filter fun x => !emptyB x).length) ?_, Lib.below_putRow hB (Nat.le_refl _)⟩
      have := Lib.ownsRow_putRow (q := q) (k := (L.filter fun x => !emptyB x).length) (ys := (L.filter fun x => !emptyB x) ++ List.replicate (L.length - (L.filter fun x => !emptyB x).length) (⟨#[]⟩ : ByteArray)) hown (by simp; omega) hk
      rw [List.take_left] at this
      exact this
    have HS := Aside0.mk hsp
    have HD := Aside0.mk hdel
    have HE := Aside0.mk hend
    clear hH hown hsp hdel hend hB eg hm hG h hL hlen hle e3 hg1 hg2 hg3 hg4 hg5 hW hs
    go_enter Tryd.func27, Tryd.ntmps27
    go_wp2_with (first | (go_at_call 38; (with_reducible refine HS.out.mono ?_); rintro e w' ⟨rfl, rfl⟩) | (go_at_call 37; (with_reducible refine HD.out.mono ?_); rintro e w' ⟨rfl, q, rfl⟩))
    go_ret
    obtain ⟨v0, h1, h2, h3⟩ := HE.out q
    subst h1
    exact ⟨_, rfl, h2, h3⟩
  · rw [if_neg hs] at h
    cases h
end Go.Proofs.YtllhdekhgbbibaaDoor
