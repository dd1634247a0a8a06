/- What four.Octets and four.Print answer. -/
import Derived.Test.YtgnahagnmodpdaaDoorItoa
import Derived.Test.YtgnahagnmodpdaaDoorApp
import Derived.Test.YtgnahagnmodpdaaDoorDec
import Derived.Outline
namespace Go.Proofs.YtgnahagnmodpdaaDoor
open Go.RowKit Go.Proofs.YtgnahagnmodpdaaDoorW.PrintWords
set_option linter.unusedVariables false
set_option linter.unusedSimpArgs false

theorem own_below {w W : World} {base : Nat} {e : TypeId} {size n : Nat} {v : Value} {xs : List Value} (h : w.ownsRow base e size v n xs) (hb : Below w.heap.size w W) : W.ownsRow base e size v n xs :=
  own_move h (fun k hk => hb.block k (own_lt h k hk))
/-- The four bytes of an address. -/
def oct4 (n : Int) : List Int := [n / 16777216, n / 65536 % 256, n / 256 % 256, n % 256]
/-- An address as a text. -/
def printV (n : Int) : List UInt8 := Lib.join ((oct4 n).map Lib.itoa) [46]

theorem join4_len {b0 b1 b2 b3 : Int} (a0 : 0 ≤ b0) (a1 : 0 ≤ b1) (a2 : 0 ≤ b2) (a3 : 0 ≤ b3) (c0 : b0 ≤ 255) (c1 : b1 ≤ 255) (c2 : b2 ≤ 255) (c3 : b3 ≤ 255) : (Lib.join ([b0, b1, b2, b3].map Lib.itoa) [46]).length ≤ 140737488355328 := by
  have := itoa_len a0 c0
  have := itoa_len a1 c1
  have := itoa_len a2 c2
  have := itoa_len a3 c3
  simp only [List.map_cons, List.map_nil, join4, List.length_append, List.length_cons]
  omega
set_option maxHeartbeats 1000000 in
set_option maxRecDepth 100000 in
theorem octets_walk (n : Int) (h0 : 0 ≤ n) (h1 : n ≤ 4294967295) (w : World) :
    Calls Tryd.prog 24 #[.int .u32 n] w fun e w' => e = .returned (.agg #[.int .u8 (n / 16777216), .int .u8 (n / 65536 % 256), .int .u8 (n / 256 % 256), .int .u8 (n % 256)]) ∧ Below w.heap.size w w' := by
  go_enter Tryd.func24, Tryd.ntmps24
  go_wp2
  go_returns
  exact ⟨rfl, by go_grown⟩

set_option maxHeartbeats 4000000 in
set_option maxRecDepth 100000 in
theorem print_walk (n : Int) (h0 : 0 ≤ n) (h1 : n ≤ 4294967295) (w : World) (hG : GW w) :
    Calls Tryd.prog 23 #[.int .u32 n] w fun e w' => e = .returned (.string (BA (printV n))) ∧ Below w.heap.size w w' := by
  obtain ⟨b0, hb0⟩ : ∃ b, b = n / 16777216 := ⟨_, rfl⟩
  obtain ⟨b1, hb1⟩ : ∃ b, b = n / 65536 % 256 := ⟨_, rfl⟩
  obtain ⟨b2, hb2⟩ : ∃ b, b = n / 256 % 256 := ⟨_, rfl⟩
  obtain ⟨b3, hb3⟩ : ∃ b, b = n % 256 := ⟨_, rfl⟩
  have hO := octets_walk n h0 h1
  have hP : printV n = Lib.join ([b0, b1, b2, b3].map Lib.itoa) [46] := by rw [hb0, hb1, hb2, hb3]; rfl
  rw [← hb0, ← hb1, ← hb2, ← hb3] at hO
  have a0 : 0 ≤ b0 := by omega
  have a1 : 0 ≤ b1 := by omega
  have a2 : 0 ≤ b2 := by omega
  have a3 : 0 ≤ b3 := by omega
  have c0 : b0 ≤ 255 := by omega
  have c1 : b1 ≤ 255 := by omega
  have c2 : b2 ≤ 255 := by omega
  have c3 : b3 ≤ 255 := by omega
  have HO := Aside0.mk hO
  have HP := Aside0.mk hP
  have HG := Aside0.mk hG
  clear hO hP hG hb0 hb1 hb2 hb3
  go_enter Tryd.func23, Tryd.ntmps23
  go_wp2_with fail
  refine (HO.out _).mono ?_
  rintro e w1 ⟨rfl, hb1⟩
  go_wp2_with fail
  have i0 : ∀ w, (Instr.index 44 (.agg #[.int .u8 b0, .int .u8 b1, .int .u8 b2, .int .u8 b3]) (.int .i64 0)).run Tryd.prog w = .ok (.int .u8 b0) w := fun _ => by kernel_rfl
  have i1 : ∀ w, (Instr.index 44 (.agg #[.int .u8 b0, .int .u8 b1, .int .u8 b2, .int .u8 b3]) (.int .i64 1)).run Tryd.prog w = .ok (.int .u8 b1) w := fun _ => by kernel_rfl
  have i2 : ∀ w, (Instr.index 44 (.agg #[.int .u8 b0, .int .u8 b1, .int .u8 b2, .int .u8 b3]) (.int .i64 2)).run Tryd.prog w = .ok (.int .u8 b2) w := fun _ => by kernel_rfl
  have i3 : ∀ w, (Instr.index 44 (.agg #[.int .u8 b0, .int .u8 b1, .int .u8 b2, .int .u8 b3]) (.int .i64 3)).run Tryd.prog w = .ok (.int .u8 b3) w := fun _ => by kernel_rfl
  obtain ⟨i0_, hi, hz0, hz1, hz2⟩ := info_parts (show (Tryd.prog.info? 9).map (fun i => (i.zero, i.size, i.bytes)) = some (some (.string ⟨#[]⟩), 1, 16) by kernel_rfl)
  have R0 : w1.ownsRow w.heap.size 9 1 (.slice none 0 0) 0 [] := ⟨by simp, .inl ⟨rfl, rfl⟩⟩
  have B0 : Below w.heap.size w w1 := hb1
  clear hb1 HO
  refine wp_loop_rounds 5 ?_
  rw [rounds_succ]
  go_wp2_with (simp only [i0])
  refine (strconv_Itoa.calls b0 (BA (Lib.itoa b0)) _ (HG.out.keep B0) (if_pos ⟨by omega, by omega⟩)).mono ?_
  rintro e u0 ⟨rfl, hu0⟩
  have o0 := own_below R0 hu0
  have C0 := below_step B0 hu0
  have hs0 := C0.size
  clear R0 B0 hu0
  go_wp2_with (at_builtin; refine app_one rfl _ _ 39 rfl w.heap.size 9 i0_ (.string ⟨#[]⟩) 1 16 Tryd.underlying39 hi hz0 hz1 hz2 rfl (by decide) _ _ _ rfl o0 [.string (BA (Lib.itoa b0))] rfl rfl (by simp [Value.oneCell']) (by unfold maxLen; omega) (by omega) hs0 ?_; intro g1 cap1 v1 hg1 R1 hgrow1 hbel1)
  have B1 := hbel1 _ _ (Nat.le_refl _) C0
  clear o0 C0 hs0 hg1 hgrow1 hbel1
  rw [rounds_succ]
  go_wp2_with (simp only [i1])
  refine (strconv_Itoa.calls b1 (BA (Lib.itoa b1)) _ (HG.out.keep B1) (if_pos ⟨by omega, by omega⟩)).mono ?_
  rintro e u1 ⟨rfl, hu1⟩
  have o1 := own_below R1 hu1
  have C1 := below_step B1 hu1
  have hs1 := C1.size
  clear R1 B1 hu1
  go_wp2_with (at_builtin; refine app_one rfl _ _ 39 rfl w.heap.size 9 i0_ (.string ⟨#[]⟩) 1 16 Tryd.underlying39 hi hz0 hz1 hz2 rfl (by decide) _ _ _ rfl o1 [.string (BA (Lib.itoa b1))] rfl rfl (by simp [Value.oneCell']) (by unfold maxLen; omega) (by omega) hs1 ?_; intro g2 cap2 v2 hg2 R2 hgrow2 hbel2)
  have B2 := hbel2 _ _ (Nat.le_refl _) C1
  clear o1 C1 hs1 hg2 hgrow2 hbel2
  rw [rounds_succ]
  go_wp2_with (simp only [i2])
  refine (strconv_Itoa.calls b2 (BA (Lib.itoa b2)) _ (HG.out.keep B2) (if_pos ⟨by omega, by omega⟩)).mono ?_
  rintro e u2 ⟨rfl, hu2⟩
  have o2 := own_below R2 hu2
  have C2 := below_step B2 hu2
  have hs2 := C2.size
  clear R2 B2 hu2
  go_wp2_with (at_builtin; refine app_one rfl _ _ 39 rfl w.heap.size 9 i0_ (.string ⟨#[]⟩) 1 16 Tryd.underlying39 hi hz0 hz1 hz2 rfl (by decide) _ _ _ rfl o2 [.string (BA (Lib.itoa b2))] rfl rfl (by simp [Value.oneCell']) (by unfold maxLen; omega) (by omega) hs2 ?_; intro g3 cap3 v3 hg3 R3 hgrow3 hbel3)
  have B3 := hbel3 _ _ (Nat.le_refl _) C2
  clear o2 C2 hs2 hg3 hgrow3 hbel3
  rw [rounds_succ]
  go_wp2_with (simp only [i3])
  refine (strconv_Itoa.calls b3 (BA (Lib.itoa b3)) _ (HG.out.keep B3) (if_pos ⟨by omega, by omega⟩)).mono ?_
  rintro e u3 ⟨rfl, hu3⟩
  have o3 := own_below R3 hu3
  have C3 := below_step B3 hu3
  have hs3 := C3.size
  clear R3 B3 hu3
  go_wp2_with (at_builtin; refine app_one rfl _ _ 39 rfl w.heap.size 9 i0_ (.string ⟨#[]⟩) 1 16 Tryd.underlying39 hi hz0 hz1 hz2 rfl (by decide) _ _ _ rfl o3 [.string (BA (Lib.itoa b3))] rfl rfl (by simp [Value.oneCell']) (by unfold maxLen; omega) (by omega) hs3 ?_; intro g4 cap4 v4 hg4 R4 hgrow4 hbel4)
  have B4 := hbel4 _ _ (Nat.le_refl _) C3
  clear o3 C3 hs3 hg4 hgrow4 hbel4
  rw [rounds_succ]
  go_wp2_with fail
  have KR := kd_strings (xs := [BA (Lib.itoa b0), BA (Lib.itoa b1), BA (Lib.itoa b2), BA (Lib.itoa b3)]) R4
  obtain ⟨A, c, hv, hle, hC⟩ := Kd.R_reads KR
  injection hv with e1 _ e3
  subst e1 e3
  refine (strings_Join.calls _ cap4 _ (BA [46]) (BA (printV n)) _ hC hle ?_).mono ?_
  · unfold strings_Join.f
    have hl := join4_len a0 a1 a2 a3 c0 c1 c2 c3
    rw [if_pos ⟨by simp, by simpa [ba_list] using hl⟩, HP.out]
    rfl
  rintro e w9 ⟨rfl, hb9⟩
  have B5 := below_step B4 hb9
  go_wp2_with fail
  go_ret
  exact ⟨rfl, B5⟩

def four_Print.f (a0 : Int) : Option ByteArray := if 0 ≤ a0 ∧ a0 ≤ 4294967295 then some (BA (printV a0)) else none
theorem four_Print.calls (a0 : Int) (r : ByteArray) (w : World) (hG : GW w) (h : four_Print.f a0 = some r) :
    Calls Tryd.prog 23 #[.int .u32 a0] w fun e w' => e = .returned (.string r) ∧ Below w.heap.size w w' := by
  unfold four_Print.f at h
  by_cases hs : 0 ≤ a0 ∧ a0 ≤ 4294967295
  · rw [if_pos hs] at h
    obtain rfl := Option.some.inj h
    exact print_walk a0 hs.1 hs.2 w hG
  · rw [if_neg hs] at h
    cases h
end Go.Proofs.YtgnahagnmodpdaaDoor
