/- The walk of package heap's SetByte. The closures that two and compare make. -/
import Derived.Test.YteiikhcadjdkcaaGreatDoorGX27
import Derived.Test.YteiikhcadjdkcaaGreatDoorGX09
import Derived.Test.YteiikhcadjdkcaaGreatDoorGX15
import Derived.Test.YteiikhcadjdkcaaGreatDoorGX01
set_option linter.unusedVariables false
set_option linter.unusedSimpArgs false
namespace Go.Proofs.YteiikhcadjdkcaaGreatDoor
open Go Go.RowKit Limb
section
variable {w : World} {F : Foot} {h : Hp}
set_option maxHeartbeats 3200000 in
set_option maxRecDepth 100000 in
theorem heap_setbyte (H : HeapAt w F h) {o i b : Nat} (ho : isO h o = true) (hf : (hdO h o).fmt = 2) (hi : i < (hdO h o).len) (hb : b < 256) :
    Calls Tryz.prog 211 #[.pointer (some ⟨F.p, 0, none⟩), .int .u32 o, .int .i64 i, .int .u8 b] w fun e w' => e = .returned (.int .i64 0) ∧ Step w F w' F (setB h o i b) := by
  obtain ⟨W, hW, r0, hB, hz⟩ := alloc_row w 76 [.int .i64 2]
  have HW := Lib.hid hW
  have HH := H.belowB hB (Nat.le_refl _)
  have HL := Lib.hid (heap_look HH o (isO_lt H.good ho) (i : Int) w.heap.size [2] 1 r0 rfl (by decide))
  have e1 : lookE h o (i : Int) [2] = 0 := lookE_zero.2 ⟨ho, by rw [hf]; decide, by omega, by omega⟩
  have e2 : lookA h o (i : Int) [2] = o / 2 + 3 := by unfold lookA; rw [if_pos e1]
  have hl := HL.out
  rw [e2, e1] at hl
  have HL := Lib.hid (hl.mono (R' := fun e w' => e = .returned (.tuple #[.int .i64 (o / 2 + 3 : Nat), .int .i64 0]) ∧ Below W.heap.size W w' ∧ HeapAt w' F h) fun e w' ⟨a, b⟩ => ⟨a, b, HH.below b⟩)
  obtain ⟨p1, p2⟩ := setB_place H.good ho hf hi
  have hlt := fld_lt H.good ho p1
  have hG := good_setB H.good ho hf hi hb
  have hfl : fld h o (i / 4) < 4294967296 := H.good.lim.wd _
  have hsm := H.small
  have eP : setB h o i b = Limb.putW h (o / 2 + 3 + i / 4) (byW (fld h o (i / 4)) b (i % 4)) := rfl
  rw [eP] at hG ⊢
  have eF : fld h o (i / 4) = wd h.ws (o / 2 + 3 + i / 4) := rfl
  obtain ⟨q, j, hq⟩ : ∃ q j, i = 4 * q + j ∧ j < 4 := ⟨i / 4, i % 4, by omega, by omega⟩
  obtain ⟨rfl, hj⟩ := hq
  have d1 : (4 * q + j) / 4 = q := by omega
  have d2 : (4 * q + j) % 4 = j := by omega
  rw [d1] at hlt hG hfl eF ⊢
  rw [d2] at hG ⊢
  have hib : 4 * q + j < 1000000000 := by
    have hlen : (hdO h o).len = 4 * (hdO h o).size - (hdO h o).spare := by unfold Hd.len; rw [if_pos hf]
    have := (H.good.ok _ (isO_iff.1 ho).2.2).1.size
    have h3 : (hdO h o).size ≤ 65535 := this
    omega
  generalize fld h o q = W0 at *
  have HeF := Lib.hid eF
  generalize o / 2 + 3 = at0 at *
  replace HeF := Lib.hid eF
  clear hl e1 e2 hW hz HH H p1 p2 hi hf ho eP d1 d2 eF
  have hc : j = 0 ∨ j = 1 ∨ j = 2 ∨ j = 3 := by omega
  have HBW := Lib.hid (fun s hs => byte_word W0 b s hs hfl hb)
  rcases hc with rfl | rfl | rfl | rfl
  · have m1 : ((4 * q + 0 : Nat) : Int) % 4 = 0 := by omega
    have m2 : ((4 * q + 0 : Nat) : Int) / 4 = (q : Int) := by omega
    have m3 : (((4 * q + 0 : Nat) : Int)).tmod 4 = 0 := by rw [Int.tmod_eq_emod_of_nonneg (by omega)]; exact m1
    have m4 : (((4 * q + 0 : Nat) : Int)).tdiv 4 = (q : Int) := by rw [Int.tdiv_eq_ediv_of_nonneg (by omega)]; exact m2
    obtain ⟨ii, hii⟩ : ∃ ii : Int, ii = ((4 * q + 0 : Nat) : Int) := ⟨_, rfl⟩
    have hiib : 0 ≤ ii ∧ ii ≤ 1000000000 := by omega
    rw [← hii] at m1 m2 m3 m4 HL ⊢
    have eW : bits .or .u32 (bits .andNot .u32 (W0 : Int) 255) ((b : Int)) = ((byW W0 b 0 : Nat) : Int) := by
      have := HBW.out 0 (by decide)
      first | exact this | (rw [show ((255 * 2 ^ 0 : Nat) : Int) = 255 from rfl, show ((b * 2 ^ 0 : Nat) : Int) = (b : Int) by simp] at this; exact this)
    have w1 : IntKind.u32.wrap 255 = 255 := by decide
    have w2 : IntKind.u32.wrap (b : Int) = (b : Int) := by rw [IntKind.wrap_u32]; omega
    have w3 : IntKind.u32.wrap ((b : Int)) = (b : Int) := by rw [IntKind.wrap_u32]; omega
    clear hii hj
    go_enter Tryz.func211, Tryz.ntmps211
    go_wp2_with fail
    rw [← HW.out]
    refine (HL.out).mono ?_
    rintro e V ⟨rfl, hbb, HV⟩
    (try dsimp only)
    have hBV := hB.trans (hbb.mono hB.size)
    clear hbb
    obtain ⟨cw, cs, c0, c1, c2, c3, c4, hw, hs⟩ := HV.cells
    have z0 := hw.free (at0 + q)
    have cx := hw.cell hlt
    rw [nums_get hlt, ← HeF.out] at cx
    have ix := fun W => hw.index 71 Tryz.underlying71 size32 W .i64 (at0 + q) hlt
    rw [Int.natCast_add] at ix
    have HS := Lib.hid (Step.of_below hBV (Step.putW HV hlt hG))
    have hS : V.drew.cell? ⟨F.gw, at0 + q, none⟩ = some (.int .u32 (W0 : Nat)) := cx
    clear hw hs HL HW c1 c2 c3 c4
    go_wp2_with fail
    refine wp_region_S (n := 13) (S := fun X => X.cell? ⟨F.gw, at0 + q, none⟩ = some (.int .u32 (W0 : Nat))) (by kernel_rfl) (by decide) (fun inv => ?_)
    refine wpAnyS_take_at (i := 0) (v := .pointer (some ⟨F.gw, at0 + q, none⟩)) 35 inv rfl rfl (by kernel_rfl) (by kernel_rfl) (by kernel_rfl) (by decide) (by decide) (by kernel_rfl) (by kernel_rfl) (fun _ _ _ h => h) (.inl ⟨rfl, fun w hS => by go_simp⟩) hS (fun inv => ?_)
    simp only [Act.put, List.setIfInBounds_toArray, List.set_cons_zero, List.set_cons_succ]
    refine wpAnyS_take_at (i := 1) (v := .pointer (some ⟨F.gw, at0 + q, none⟩)) 36 inv rfl rfl (by kernel_rfl) (by kernel_rfl) (by kernel_rfl) (by decide) (by decide) (by kernel_rfl) (by kernel_rfl) (fun _ _ _ h => h) (.inl ⟨rfl, fun w hS => by go_simp⟩) hS (fun inv => ?_)
    simp only [Act.put, List.setIfInBounds_toArray, List.set_cons_zero, List.set_cons_succ]
    refine wpAnyS_take_at (i := 2) (v := .pointer (some ⟨F.gw, at0 + q, none⟩)) 37 inv rfl rfl (by kernel_rfl) (by kernel_rfl) (by kernel_rfl) (by decide) (by decide) (by kernel_rfl) (by kernel_rfl) (fun _ _ _ h => h) (.inl ⟨rfl, fun w hS => by go_simp⟩) hS (fun inv => ?_)
    simp only [Act.put, List.setIfInBounds_toArray, List.set_cons_zero, List.set_cons_succ]
    refine wpAnyS_take_at (i := 3) (v := .int .u32 (W0 : Nat)) 38 inv rfl rfl (by kernel_rfl) (by kernel_rfl) (by kernel_rfl) (by decide) (by decide) (by kernel_rfl) (by kernel_rfl) (fun _ _ _ h => h) (.inl ⟨rfl, fun w hS => by go_simp⟩) hS (fun inv => ?_)
    simp only [Act.put, List.setIfInBounds_toArray, List.set_cons_zero, List.set_cons_succ]
    refine wpAnyS_take_at (i := 4) (v := .int .i64 0) 39 inv rfl rfl (by kernel_rfl) (by kernel_rfl) (by kernel_rfl) (by decide) (by decide) (by kernel_rfl) (by kernel_rfl) (fun _ _ _ h => h) (.inl ⟨rfl, fun w hS => by go_simp⟩) hS (fun inv => ?_)
    simp only [Act.put, List.setIfInBounds_toArray, List.set_cons_zero, List.set_cons_succ]
    refine wpAnyS_take_at (i := 5) (v := .int .u32 255) 40 inv rfl rfl (by kernel_rfl) (by kernel_rfl) (by kernel_rfl) (by decide) (by decide) (by kernel_rfl) (by kernel_rfl) (fun _ _ _ h => h) (.inl ⟨rfl, fun w hS => by go_simp⟩) hS (fun inv => ?_)
    simp only [Act.put, List.setIfInBounds_toArray, List.set_cons_zero, List.set_cons_succ]
    refine wpAnyS_take_at (i := 6) (v := .int .u32 (bits .andNot .u32 (W0 : Int) 255)) 41 inv rfl rfl (by kernel_rfl) (by kernel_rfl) (by kernel_rfl) (by decide) (by decide) (by kernel_rfl) (by kernel_rfl) (fun _ _ _ h => h) (.inl ⟨rfl, fun w hS => by go_simp⟩) hS (fun inv => ?_)
    simp only [Act.put, List.setIfInBounds_toArray, List.set_cons_zero, List.set_cons_succ]
    refine wpAnyS_take_at (i := 7) (v := .int .u8 b) 42 inv rfl rfl (by kernel_rfl) (by kernel_rfl) (by kernel_rfl) (by decide) (by decide) (by kernel_rfl) (by kernel_rfl) (fun _ _ _ h => h) (.inl ⟨rfl, fun w hS => by go_simp⟩) hS (fun inv => ?_)
    simp only [Act.put, List.setIfInBounds_toArray, List.set_cons_zero, List.set_cons_succ]
    refine wpAnyS_take_at (i := 8) (v := .int .u32 b) 43 inv rfl rfl (by kernel_rfl) (by kernel_rfl) (by kernel_rfl) (by decide) (by decide) (by kernel_rfl) (by kernel_rfl) (fun _ _ _ h => h) (.inl ⟨rfl, fun w hS => by go_simp⟩) hS (fun inv => ?_)
    simp only [Act.put, List.setIfInBounds_toArray, List.set_cons_zero, List.set_cons_succ]
    refine wpAnyS_take_at (i := 9) (v := .int .i64 0) 44 inv rfl rfl (by kernel_rfl) (by kernel_rfl) (by kernel_rfl) (by decide) (by decide) (by kernel_rfl) (by kernel_rfl) (fun _ _ _ h => h) (.inl ⟨rfl, fun w hS => by go_simp⟩) hS (fun inv => ?_)
    simp only [Act.put, List.setIfInBounds_toArray, List.set_cons_zero, List.set_cons_succ]
    refine wpAnyS_take_at (i := 10) (v := .int .u32 ((b : Int))) 45 inv rfl rfl (by kernel_rfl) (by kernel_rfl) (by kernel_rfl) (by decide) (by decide) (by kernel_rfl) (by kernel_rfl) (fun _ _ _ h => h) (.inl ⟨rfl, fun w hS => by go_simp⟩) hS (fun inv => ?_)
    simp only [Act.put, List.setIfInBounds_toArray, List.set_cons_zero, List.set_cons_succ]
    refine wpAnyS_take_at (i := 11) (v := .int .u32 (byW W0 b 0 : Nat)) 46 inv rfl rfl (by kernel_rfl) (by kernel_rfl) (by kernel_rfl) (by decide) (by decide) (by kernel_rfl) (by kernel_rfl) (fun _ _ _ h => h) (.inl ⟨rfl, fun w hS => by go_simp⟩) hS (fun inv => ?_)
    simp only [Act.put, List.setIfInBounds_toArray, List.set_cons_zero, List.set_cons_succ]
    refine wpAnyS_take_at (i := 12) (v := .pointer (some ⟨F.gw, at0 + q, none⟩)) 47 inv rfl rfl (by kernel_rfl) (by kernel_rfl) (by kernel_rfl) (by decide) (by decide) (by kernel_rfl) (by kernel_rfl) (fun _ _ _ h => h) (.inl ⟨rfl, fun w hS => by go_simp⟩) hS (fun inv => ?_)
    simp only [Act.put, List.setIfInBounds_toArray, List.set_cons_zero, List.set_cons_succ]
    refine wpAnyS_tail (by decide) ?_
    refine wpAny_one (i := 13) (by kernel_rfl) ?_
    unfold wpOp
    go_simp
    refine .inl (wpAny_done (by kernel_rfl) ?_ _)
    have HS2 := Lib.hid (Step.below HS.out (Below.refl _ _).drew)
    clear HS HV hS eW
    go_wp2_with fail
    go_ret
    exact ⟨rfl, HS2.out⟩
  · have m1 : ((4 * q + 1 : Nat) : Int) % 4 = 1 := by omega
    have m2 : ((4 * q + 1 : Nat) : Int) / 4 = (q : Int) := by omega
    have m3 : (((4 * q + 1 : Nat) : Int)).tmod 4 = 1 := by rw [Int.tmod_eq_emod_of_nonneg (by omega)]; exact m1
    have m4 : (((4 * q + 1 : Nat) : Int)).tdiv 4 = (q : Int) := by rw [Int.tdiv_eq_ediv_of_nonneg (by omega)]; exact m2
    obtain ⟨ii, hii⟩ : ∃ ii : Int, ii = ((4 * q + 1 : Nat) : Int) := ⟨_, rfl⟩
    have hiib : 0 ≤ ii ∧ ii ≤ 1000000000 := by omega
    rw [← hii] at m1 m2 m3 m4 HL ⊢
    have eW : bits .or .u32 (bits .andNot .u32 (W0 : Int) 65280) ((b : Int) * 256) = ((byW W0 b 1 : Nat) : Int) := by
      have := HBW.out 8 (by decide)
      first | exact this | (rw [show ((255 * 2 ^ 8 : Nat) : Int) = 65280 from rfl, show ((b * 2 ^ 8 : Nat) : Int) = (b : Int) * 256 by simp] at this; exact this)
    have w1 : IntKind.u32.wrap 65280 = 65280 := by decide
    have w2 : IntKind.u32.wrap (b : Int) = (b : Int) := by rw [IntKind.wrap_u32]; omega
    have w3 : IntKind.u32.wrap ((b : Int) * 256) = (b : Int) * 256 := by rw [IntKind.wrap_u32]; omega
    clear hii hj
    go_enter Tryz.func211, Tryz.ntmps211
    go_wp2_with fail
    rw [← HW.out]
    refine (HL.out).mono ?_
    rintro e V ⟨rfl, hbb, HV⟩
    (try dsimp only)
    have hBV := hB.trans (hbb.mono hB.size)
    clear hbb
    obtain ⟨cw, cs, c0, c1, c2, c3, c4, hw, hs⟩ := HV.cells
    have z0 := hw.free (at0 + q)
    have cx := hw.cell hlt
    rw [nums_get hlt, ← HeF.out] at cx
    have ix := fun W => hw.index 71 Tryz.underlying71 size32 W .i64 (at0 + q) hlt
    rw [Int.natCast_add] at ix
    have HS := Lib.hid (Step.of_below hBV (Step.putW HV hlt hG))
    have hS : V.drew.cell? ⟨F.gw, at0 + q, none⟩ = some (.int .u32 (W0 : Nat)) := cx
    clear hw hs HL HW c1 c2 c3 c4
    go_wp2_with fail
    refine wp_region_S (n := 13) (S := fun X => X.cell? ⟨F.gw, at0 + q, none⟩ = some (.int .u32 (W0 : Nat))) (by kernel_rfl) (by decide) (fun inv => ?_)
    refine wpAnyS_take_at (i := 0) (v := .pointer (some ⟨F.gw, at0 + q, none⟩)) 35 inv rfl rfl (by kernel_rfl) (by kernel_rfl) (by kernel_rfl) (by decide) (by decide) (by kernel_rfl) (by kernel_rfl) (fun _ _ _ h => h) (.inl ⟨rfl, fun w hS => by go_simp⟩) hS (fun inv => ?_)
    simp only [Act.put, List.setIfInBounds_toArray, List.set_cons_zero, List.set_cons_succ]
    refine wpAnyS_take_at (i := 1) (v := .pointer (some ⟨F.gw, at0 + q, none⟩)) 36 inv rfl rfl (by kernel_rfl) (by kernel_rfl) (by kernel_rfl) (by decide) (by decide) (by kernel_rfl) (by kernel_rfl) (fun _ _ _ h => h) (.inl ⟨rfl, fun w hS => by go_simp⟩) hS (fun inv => ?_)
    simp only [Act.put, List.setIfInBounds_toArray, List.set_cons_zero, List.set_cons_succ]
    refine wpAnyS_take_at (i := 2) (v := .pointer (some ⟨F.gw, at0 + q, none⟩)) 37 inv rfl rfl (by kernel_rfl) (by kernel_rfl) (by kernel_rfl) (by decide) (by decide) (by kernel_rfl) (by kernel_rfl) (fun _ _ _ h => h) (.inl ⟨rfl, fun w hS => by go_simp⟩) hS (fun inv => ?_)
    simp only [Act.put, List.setIfInBounds_toArray, List.set_cons_zero, List.set_cons_succ]
    refine wpAnyS_take_at (i := 3) (v := .int .u32 (W0 : Nat)) 38 inv rfl rfl (by kernel_rfl) (by kernel_rfl) (by kernel_rfl) (by decide) (by decide) (by kernel_rfl) (by kernel_rfl) (fun _ _ _ h => h) (.inl ⟨rfl, fun w hS => by go_simp⟩) hS (fun inv => ?_)
    simp only [Act.put, List.setIfInBounds_toArray, List.set_cons_zero, List.set_cons_succ]
    refine wpAnyS_take_at (i := 4) (v := .int .i64 8) 39 inv rfl rfl (by kernel_rfl) (by kernel_rfl) (by kernel_rfl) (by decide) (by decide) (by kernel_rfl) (by kernel_rfl) (fun _ _ _ h => h) (.inl ⟨rfl, fun w hS => by go_simp⟩) hS (fun inv => ?_)
    simp only [Act.put, List.setIfInBounds_toArray, List.set_cons_zero, List.set_cons_succ]
    refine wpAnyS_take_at (i := 5) (v := .int .u32 65280) 40 inv rfl rfl (by kernel_rfl) (by kernel_rfl) (by kernel_rfl) (by decide) (by decide) (by kernel_rfl) (by kernel_rfl) (fun _ _ _ h => h) (.inl ⟨rfl, fun w hS => by go_simp⟩) hS (fun inv => ?_)
    simp only [Act.put, List.setIfInBounds_toArray, List.set_cons_zero, List.set_cons_succ]
    refine wpAnyS_take_at (i := 6) (v := .int .u32 (bits .andNot .u32 (W0 : Int) 65280)) 41 inv rfl rfl (by kernel_rfl) (by kernel_rfl) (by kernel_rfl) (by decide) (by decide) (by kernel_rfl) (by kernel_rfl) (fun _ _ _ h => h) (.inl ⟨rfl, fun w hS => by go_simp⟩) hS (fun inv => ?_)
    simp only [Act.put, List.setIfInBounds_toArray, List.set_cons_zero, List.set_cons_succ]
    refine wpAnyS_take_at (i := 7) (v := .int .u8 b) 42 inv rfl rfl (by kernel_rfl) (by kernel_rfl) (by kernel_rfl) (by decide) (by decide) (by kernel_rfl) (by kernel_rfl) (fun _ _ _ h => h) (.inl ⟨rfl, fun w hS => by go_simp⟩) hS (fun inv => ?_)
    simp only [Act.put, List.setIfInBounds_toArray, List.set_cons_zero, List.set_cons_succ]
    refine wpAnyS_take_at (i := 8) (v := .int .u32 b) 43 inv rfl rfl (by kernel_rfl) (by kernel_rfl) (by kernel_rfl) (by decide) (by decide) (by kernel_rfl) (by kernel_rfl) (fun _ _ _ h => h) (.inl ⟨rfl, fun w hS => by go_simp⟩) hS (fun inv => ?_)
    simp only [Act.put, List.setIfInBounds_toArray, List.set_cons_zero, List.set_cons_succ]
    refine wpAnyS_take_at (i := 9) (v := .int .i64 8) 44 inv rfl rfl (by kernel_rfl) (by kernel_rfl) (by kernel_rfl) (by decide) (by decide) (by kernel_rfl) (by kernel_rfl) (fun _ _ _ h => h) (.inl ⟨rfl, fun w hS => by go_simp⟩) hS (fun inv => ?_)
    simp only [Act.put, List.setIfInBounds_toArray, List.set_cons_zero, List.set_cons_succ]
    refine wpAnyS_take_at (i := 10) (v := .int .u32 ((b : Int) * 256)) 45 inv rfl rfl (by kernel_rfl) (by kernel_rfl) (by kernel_rfl) (by decide) (by decide) (by kernel_rfl) (by kernel_rfl) (fun _ _ _ h => h) (.inl ⟨rfl, fun w hS => by go_simp⟩) hS (fun inv => ?_)
    simp only [Act.put, List.setIfInBounds_toArray, List.set_cons_zero, List.set_cons_succ]
    refine wpAnyS_take_at (i := 11) (v := .int .u32 (byW W0 b 1 : Nat)) 46 inv rfl rfl (by kernel_rfl) (by kernel_rfl) (by kernel_rfl) (by decide) (by decide) (by kernel_rfl) (by kernel_rfl) (fun _ _ _ h => h) (.inl ⟨rfl, fun w hS => by go_simp⟩) hS (fun inv => ?_)
    simp only [Act.put, List.setIfInBounds_toArray, List.set_cons_zero, List.set_cons_succ]
    refine wpAnyS_take_at (i := 12) (v := .pointer (some ⟨F.gw, at0 + q, none⟩)) 47 inv rfl rfl (by kernel_rfl) (by kernel_rfl) (by kernel_rfl) (by decide) (by decide) (by kernel_rfl) (by kernel_rfl) (fun _ _ _ h => h) (.inl ⟨rfl, fun w hS => by go_simp⟩) hS (fun inv => ?_)
    simp only [Act.put, List.setIfInBounds_toArray, List.set_cons_zero, List.set_cons_succ]
    refine wpAnyS_tail (by decide) ?_
    refine wpAny_one (i := 13) (by kernel_rfl) ?_
    unfold wpOp
    go_simp
    refine .inl (wpAny_done (by kernel_rfl) ?_ _)
    have HS2 := Lib.hid (Step.below HS.out (Below.refl _ _).drew)
    clear HS HV hS eW
    go_wp2_with fail
    go_ret
    exact ⟨rfl, HS2.out⟩
  · have m1 : ((4 * q + 2 : Nat) : Int) % 4 = 2 := by omega
    have m2 : ((4 * q + 2 : Nat) : Int) / 4 = (q : Int) := by omega
    have m3 : (((4 * q + 2 : Nat) : Int)).tmod 4 = 2 := by rw [Int.tmod_eq_emod_of_nonneg (by omega)]; exact m1
    have m4 : (((4 * q + 2 : Nat) : Int)).tdiv 4 = (q : Int) := by rw [Int.tdiv_eq_ediv_of_nonneg (by omega)]; exact m2
    obtain ⟨ii, hii⟩ : ∃ ii : Int, ii = ((4 * q + 2 : Nat) : Int) := ⟨_, rfl⟩
    have hiib : 0 ≤ ii ∧ ii ≤ 1000000000 := by omega
    rw [← hii] at m1 m2 m3 m4 HL ⊢
    have eW : bits .or .u32 (bits .andNot .u32 (W0 : Int) 16711680) ((b : Int) * 65536) = ((byW W0 b 2 : Nat) : Int) := by
      have := HBW.out 16 (by decide)
      first | exact this | (rw [show ((255 * 2 ^ 16 : Nat) : Int) = 16711680 from rfl, show ((b * 2 ^ 16 : Nat) : Int) = (b : Int) * 65536 by simp] at this; exact this)
    have w1 : IntKind.u32.wrap 16711680 = 16711680 := by decide
    have w2 : IntKind.u32.wrap (b : Int) = (b : Int) := by rw [IntKind.wrap_u32]; omega
    have w3 : IntKind.u32.wrap ((b : Int) * 65536) = (b : Int) * 65536 := by rw [IntKind.wrap_u32]; omega
    clear hii hj
    go_enter Tryz.func211, Tryz.ntmps211
    go_wp2_with fail
    rw [← HW.out]
    refine (HL.out).mono ?_
    rintro e V ⟨rfl, hbb, HV⟩
    (try dsimp only)
    have hBV := hB.trans (hbb.mono hB.size)
    clear hbb
    obtain ⟨cw, cs, c0, c1, c2, c3, c4, hw, hs⟩ := HV.cells
    have z0 := hw.free (at0 + q)
    have cx := hw.cell hlt
    rw [nums_get hlt, ← HeF.out] at cx
    have ix := fun W => hw.index 71 Tryz.underlying71 size32 W .i64 (at0 + q) hlt
    rw [Int.natCast_add] at ix
    have HS := Lib.hid (Step.of_below hBV (Step.putW HV hlt hG))
    have hS : V.drew.cell? ⟨F.gw, at0 + q, none⟩ = some (.int .u32 (W0 : Nat)) := cx
    clear hw hs HL HW c1 c2 c3 c4
    go_wp2_with fail
    refine wp_region_S (n := 13) (S := fun X => X.cell? ⟨F.gw, at0 + q, none⟩ = some (.int .u32 (W0 : Nat))) (by kernel_rfl) (by decide) (fun inv => ?_)
    refine wpAnyS_take_at (i := 0) (v := .pointer (some ⟨F.gw, at0 + q, none⟩)) 35 inv rfl rfl (by kernel_rfl) (by kernel_rfl) (by kernel_rfl) (by decide) (by decide) (by kernel_rfl) (by kernel_rfl) (fun _ _ _ h => h) (.inl ⟨rfl, fun w hS => by go_simp⟩) hS (fun inv => ?_)
    simp only [Act.put, List.setIfInBounds_toArray, List.set_cons_zero, List.set_cons_succ]
    refine wpAnyS_take_at (i := 1) (v := .pointer (some ⟨F.gw, at0 + q, none⟩)) 36 inv rfl rfl (by kernel_rfl) (by kernel_rfl) (by kernel_rfl) (by decide) (by decide) (by kernel_rfl) (by kernel_rfl) (fun _ _ _ h => h) (.inl ⟨rfl, fun w hS => by go_simp⟩) hS (fun inv => ?_)
    simp only [Act.put, List.setIfInBounds_toArray, List.set_cons_zero, List.set_cons_succ]
    refine wpAnyS_take_at (i := 2) (v := .pointer (some ⟨F.gw, at0 + q, none⟩)) 37 inv rfl rfl (by kernel_rfl) (by kernel_rfl) (by kernel_rfl) (by decide) (by decide) (by kernel_rfl) (by kernel_rfl) (fun _ _ _ h => h) (.inl ⟨rfl, fun w hS => by go_simp⟩) hS (fun inv => ?_)
    simp only [Act.put, List.setIfInBounds_toArray, List.set_cons_zero, List.set_cons_succ]
    refine wpAnyS_take_at (i := 3) (v := .int .u32 (W0 : Nat)) 38 inv rfl rfl (by kernel_rfl) (by kernel_rfl) (by kernel_rfl) (by decide) (by decide) (by kernel_rfl) (by kernel_rfl) (fun _ _ _ h => h) (.inl ⟨rfl, fun w hS => by go_simp⟩) hS (fun inv => ?_)
    simp only [Act.put, List.setIfInBounds_toArray, List.set_cons_zero, List.set_cons_succ]
    refine wpAnyS_take_at (i := 4) (v := .int .i64 16) 39 inv rfl rfl (by kernel_rfl) (by kernel_rfl) (by kernel_rfl) (by decide) (by decide) (by kernel_rfl) (by kernel_rfl) (fun _ _ _ h => h) (.inl ⟨rfl, fun w hS => by go_simp⟩) hS (fun inv => ?_)
    simp only [Act.put, List.setIfInBounds_toArray, List.set_cons_zero, List.set_cons_succ]
    refine wpAnyS_take_at (i := 5) (v := .int .u32 16711680) 40 inv rfl rfl (by kernel_rfl) (by kernel_rfl) (by kernel_rfl) (by decide) (by decide) (by kernel_rfl) (by kernel_rfl) (fun _ _ _ h => h) (.inl ⟨rfl, fun w hS => by go_simp⟩) hS (fun inv => ?_)
    simp only [Act.put, List.setIfInBounds_toArray, List.set_cons_zero, List.set_cons_succ]
    refine wpAnyS_take_at (i := 6) (v := .int .u32 (bits .andNot .u32 (W0 : Int) 16711680)) 41 inv rfl rfl (by kernel_rfl) (by kernel_rfl) (by kernel_rfl) (by decide) (by decide) (by kernel_rfl) (by kernel_rfl) (fun _ _ _ h => h) (.inl ⟨rfl, fun w hS => by go_simp⟩) hS (fun inv => ?_)
    simp only [Act.put, List.setIfInBounds_toArray, List.set_cons_zero, List.set_cons_succ]
    refine wpAnyS_take_at (i := 7) (v := .int .u8 b) 42 inv rfl rfl (by kernel_rfl) (by kernel_rfl) (by kernel_rfl) (by decide) (by decide) (by kernel_rfl) (by kernel_rfl) (fun _ _ _ h => h) (.inl ⟨rfl, fun w hS => by go_simp⟩) hS (fun inv => ?_)
    simp only [Act.put, List.setIfInBounds_toArray, List.set_cons_zero, List.set_cons_succ]
    refine wpAnyS_take_at (i := 8) (v := .int .u32 b) 43 inv rfl rfl (by kernel_rfl) (by kernel_rfl) (by kernel_rfl) (by decide) (by decide) (by kernel_rfl) (by kernel_rfl) (fun _ _ _ h => h) (.inl ⟨rfl, fun w hS => by go_simp⟩) hS (fun inv => ?_)
    simp only [Act.put, List.setIfInBounds_toArray, List.set_cons_zero, List.set_cons_succ]
    refine wpAnyS_take_at (i := 9) (v := .int .i64 16) 44 inv rfl rfl (by kernel_rfl) (by kernel_rfl) (by kernel_rfl) (by decide) (by decide) (by kernel_rfl) (by kernel_rfl) (fun _ _ _ h => h) (.inl ⟨rfl, fun w hS => by go_simp⟩) hS (fun inv => ?_)
    simp only [Act.put, List.setIfInBounds_toArray, List.set_cons_zero, List.set_cons_succ]
    refine wpAnyS_take_at (i := 10) (v := .int .u32 ((b : Int) * 65536)) 45 inv rfl rfl (by kernel_rfl) (by kernel_rfl) (by kernel_rfl) (by decide) (by decide) (by kernel_rfl) (by kernel_rfl) (fun _ _ _ h => h) (.inl ⟨rfl, fun w hS => by go_simp⟩) hS (fun inv => ?_)
    simp only [Act.put, List.setIfInBounds_toArray, List.set_cons_zero, List.set_cons_succ]
    refine wpAnyS_take_at (i := 11) (v := .int .u32 (byW W0 b 2 : Nat)) 46 inv rfl rfl (by kernel_rfl) (by kernel_rfl) (by kernel_rfl) (by decide) (by decide) (by kernel_rfl) (by kernel_rfl) (fun _ _ _ h => h) (.inl ⟨rfl, fun w hS => by go_simp⟩) hS (fun inv => ?_)
    simp only [Act.put, List.setIfInBounds_toArray, List.set_cons_zero, List.set_cons_succ]
    refine wpAnyS_take_at (i := 12) (v := .pointer (some ⟨F.gw, at0 + q, none⟩)) 47 inv rfl rfl (by kernel_rfl) (by kernel_rfl) (by kernel_rfl) (by decide) (by decide) (by kernel_rfl) (by kernel_rfl) (fun _ _ _ h => h) (.inl ⟨rfl, fun w hS => by go_simp⟩) hS (fun inv => ?_)
    simp only [Act.put, List.setIfInBounds_toArray, List.set_cons_zero, List.set_cons_succ]
    refine wpAnyS_tail (by decide) ?_
    refine wpAny_one (i := 13) (by kernel_rfl) ?_
    unfold wpOp
    go_simp
    refine .inl (wpAny_done (by kernel_rfl) ?_ _)
    have HS2 := Lib.hid (Step.below HS.out (Below.refl _ _).drew)
    clear HS HV hS eW
    go_wp2_with fail
    go_ret
    exact ⟨rfl, HS2.out⟩
  · have m1 : ((4 * q + 3 : Nat) : Int) % 4 = 3 := by omega
    have m2 : ((4 * q + 3 : Nat) : Int) / 4 = (q : Int) := by omega
    have m3 : (((4 * q + 3 : Nat) : Int)).tmod 4 = 3 := by rw [Int.tmod_eq_emod_of_nonneg (by omega)]; exact m1
    have m4 : (((4 * q + 3 : Nat) : Int)).tdiv 4 = (q : Int) := by rw [Int.tdiv_eq_ediv_of_nonneg (by omega)]; exact m2
    obtain ⟨ii, hii⟩ : ∃ ii : Int, ii = ((4 * q + 3 : Nat) : Int) := ⟨_, rfl⟩
    have hiib : 0 ≤ ii ∧ ii ≤ 1000000000 := by omega
    rw [← hii] at m1 m2 m3 m4 HL ⊢
    have eW : bits .or .u32 (bits .andNot .u32 (W0 : Int) 4278190080) ((b : Int) * 16777216) = ((byW W0 b 3 : Nat) : Int) := by
      have := HBW.out 24 (by decide)
      first | exact this | (rw [show ((255 * 2 ^ 24 : Nat) : Int) = 4278190080 from rfl, show ((b * 2 ^ 24 : Nat) : Int) = (b : Int) * 16777216 by simp] at this; exact this)
    have w1 : IntKind.u32.wrap 4278190080 = 4278190080 := by decide
    have w2 : IntKind.u32.wrap (b : Int) = (b : Int) := by rw [IntKind.wrap_u32]; omega
    have w3 : IntKind.u32.wrap ((b : Int) * 16777216) = (b : Int) * 16777216 := by rw [IntKind.wrap_u32]; omega
    clear hii hj
    go_enter Tryz.func211, Tryz.ntmps211
    go_wp2_with fail
    rw [← HW.out]
    refine (HL.out).mono ?_
    rintro e V ⟨rfl, hbb, HV⟩
    (try dsimp only)
    have hBV := hB.trans (hbb.mono hB.size)
    clear hbb
    obtain ⟨cw, cs, c0, c1, c2, c3, c4, hw, hs⟩ := HV.cells
    have z0 := hw.free (at0 + q)
    have cx := hw.cell hlt
    rw [nums_get hlt, ← HeF.out] at cx
    have ix := fun W => hw.index 71 Tryz.underlying71 size32 W .i64 (at0 + q) hlt
    rw [Int.natCast_add] at ix
    have HS := Lib.hid (Step.of_below hBV (Step.putW HV hlt hG))
    have hS : V.drew.cell? ⟨F.gw, at0 + q, none⟩ = some (.int .u32 (W0 : Nat)) := cx
    clear hw hs HL HW c1 c2 c3 c4
    go_wp2_with fail
    refine wp_region_S (n := 13) (S := fun X => X.cell? ⟨F.gw, at0 + q, none⟩ = some (.int .u32 (W0 : Nat))) (by kernel_rfl) (by decide) (fun inv => ?_)
    refine wpAnyS_take_at (i := 0) (v := .pointer (some ⟨F.gw, at0 + q, none⟩)) 35 inv rfl rfl (by kernel_rfl) (by kernel_rfl) (by kernel_rfl) (by decide) (by decide) (by kernel_rfl) (by kernel_rfl) (fun _ _ _ h => h) (.inl ⟨rfl, fun w hS => by go_simp⟩) hS (fun inv => ?_)
    simp only [Act.put, List.setIfInBounds_toArray, List.set_cons_zero, List.set_cons_succ]
    refine wpAnyS_take_at (i := 1) (v := .pointer (some ⟨F.gw, at0 + q, none⟩)) 36 inv rfl rfl (by kernel_rfl) (by kernel_rfl) (by kernel_rfl) (by decide) (by decide) (by kernel_rfl) (by kernel_rfl) (fun _ _ _ h => h) (.inl ⟨rfl, fun w hS => by go_simp⟩) hS (fun inv => ?_)
    simp only [Act.put, List.setIfInBounds_toArray, List.set_cons_zero, List.set_cons_succ]
    refine wpAnyS_take_at (i := 2) (v := .pointer (some ⟨F.gw, at0 + q, none⟩)) 37 inv rfl rfl (by kernel_rfl) (by kernel_rfl) (by kernel_rfl) (by decide) (by decide) (by kernel_rfl) (by kernel_rfl) (fun _ _ _ h => h) (.inl ⟨rfl, fun w hS => by go_simp⟩) hS (fun inv => ?_)
    simp only [Act.put, List.setIfInBounds_toArray, List.set_cons_zero, List.set_cons_succ]
    refine wpAnyS_take_at (i := 3) (v := .int .u32 (W0 : Nat)) 38 inv rfl rfl (by kernel_rfl) (by kernel_rfl) (by kernel_rfl) (by decide) (by decide) (by kernel_rfl) (by kernel_rfl) (fun _ _ _ h => h) (.inl ⟨rfl, fun w hS => by go_simp⟩) hS (fun inv => ?_)
    simp only [Act.put, List.setIfInBounds_toArray, List.set_cons_zero, List.set_cons_succ]
    refine wpAnyS_take_at (i := 4) (v := .int .i64 24) 39 inv rfl rfl (by kernel_rfl) (by kernel_rfl) (by kernel_rfl) (by decide) (by decide) (by kernel_rfl) (by kernel_rfl) (fun _ _ _ h => h) (.inl ⟨rfl, fun w hS => by go_simp⟩) hS (fun inv => ?_)
    simp only [Act.put, List.setIfInBounds_toArray, List.set_cons_zero, List.set_cons_succ]
    refine wpAnyS_take_at (i := 5) (v := .int .u32 4278190080) 40 inv rfl rfl (by kernel_rfl) (by kernel_rfl) (by kernel_rfl) (by decide) (by decide) (by kernel_rfl) (by kernel_rfl) (fun _ _ _ h => h) (.inl ⟨rfl, fun w hS => by go_simp⟩) hS (fun inv => ?_)
    simp only [Act.put, List.setIfInBounds_toArray, List.set_cons_zero, List.set_cons_succ]
    refine wpAnyS_take_at (i := 6) (v := .int .u32 (bits .andNot .u32 (W0 : Int) 4278190080)) 41 inv rfl rfl (by kernel_rfl) (by kernel_rfl) (by kernel_rfl) (by decide) (by decide) (by kernel_rfl) (by kernel_rfl) (fun _ _ _ h => h) (.inl ⟨rfl, fun w hS => by go_simp⟩) hS (fun inv => ?_)
    simp only [Act.put, List.setIfInBounds_toArray, List.set_cons_zero, List.set_cons_succ]
    refine wpAnyS_take_at (i := 7) (v := .int .u8 b) 42 inv rfl rfl (by kernel_rfl) (by kernel_rfl) (by kernel_rfl) (by decide) (by decide) (by kernel_rfl) (by kernel_rfl) (fun _ _ _ h => h) (.inl ⟨rfl, fun w hS => by go_simp⟩) hS (fun inv => ?_)
    simp only [Act.put, List.setIfInBounds_toArray, List.set_cons_zero, List.set_cons_succ]
    refine wpAnyS_take_at (i := 8) (v := .int .u32 b) 43 inv rfl rfl (by kernel_rfl) (by kernel_rfl) (by kernel_rfl) (by decide) (by decide) (by kernel_rfl) (by kernel_rfl) (fun _ _ _ h => h) (.inl ⟨rfl, fun w hS => by go_simp⟩) hS (fun inv => ?_)
    simp only [Act.put, List.setIfInBounds_toArray, List.set_cons_zero, List.set_cons_succ]
    refine wpAnyS_take_at (i := 9) (v := .int .i64 24) 44 inv rfl rfl (by kernel_rfl) (by kernel_rfl) (by kernel_rfl) (by decide) (by decide) (by kernel_rfl) (by kernel_rfl) (fun _ _ _ h => h) (.inl ⟨rfl, fun w hS => by go_simp⟩) hS (fun inv => ?_)
    simp only [Act.put, List.setIfInBounds_toArray, List.set_cons_zero, List.set_cons_succ]
    refine wpAnyS_take_at (i := 10) (v := .int .u32 ((b : Int) * 16777216)) 45 inv rfl rfl (by kernel_rfl) (by kernel_rfl) (by kernel_rfl) (by decide) (by decide) (by kernel_rfl) (by kernel_rfl) (fun _ _ _ h => h) (.inl ⟨rfl, fun w hS => by go_simp⟩) hS (fun inv => ?_)
    simp only [Act.put, List.setIfInBounds_toArray, List.set_cons_zero, List.set_cons_succ]
    refine wpAnyS_take_at (i := 11) (v := .int .u32 (byW W0 b 3 : Nat)) 46 inv rfl rfl (by kernel_rfl) (by kernel_rfl) (by kernel_rfl) (by decide) (by decide) (by kernel_rfl) (by kernel_rfl) (fun _ _ _ h => h) (.inl ⟨rfl, fun w hS => by go_simp⟩) hS (fun inv => ?_)
    simp only [Act.put, List.setIfInBounds_toArray, List.set_cons_zero, List.set_cons_succ]
    refine wpAnyS_take_at (i := 12) (v := .pointer (some ⟨F.gw, at0 + q, none⟩)) 47 inv rfl rfl (by kernel_rfl) (by kernel_rfl) (by kernel_rfl) (by decide) (by decide) (by kernel_rfl) (by kernel_rfl) (fun _ _ _ h => h) (.inl ⟨rfl, fun w hS => by go_simp⟩) hS (fun inv => ?_)
    simp only [Act.put, List.setIfInBounds_toArray, List.set_cons_zero, List.set_cons_succ]
    refine wpAnyS_tail (by decide) ?_
    refine wpAny_one (i := 13) (by kernel_rfl) ?_
    unfold wpOp
    go_simp
    refine .inl (wpAny_done (by kernel_rfl) ?_ _)
    have HS2 := Lib.hid (Step.below HS.out (Below.refl _ _).drew)
    clear HS HV hS eW
    go_wp2_with fail
    go_ret
    exact ⟨rfl, HS2.out⟩
end
end Go.Proofs.YteiikhcadjdkcaaGreatDoor
namespace Go.Proofs.YteiikhcadjdkcaaGreatDoor
open Go Go.RowKit Limb
def resO (o : Option Int) : Option Nat := (resV o).map smallO
def RuleRes (R : Option Nat) (hp p r ga : Nat) (w w' : World) (e : Ending) : Prop :=
  match R with
  | some s => e = .returned (.int .i64 1) ∧ Row w' p 57 (callC hp r (some ⟨ga, 0, none⟩) 1 1 s) ∧ Only [p] w w'
  | none => e = .returned (.int .i64 0) ∧ Only [p] w w'
section
variable {w : World} {F : Foot} {h : Hp} {p r q ga b v : Nat} {f : FuncId} {caps : Array Value}
set_option maxHeartbeats 3200000 in
set_option maxRecDepth 100000 in
theorem two_fn {o : Option Int} (R : Row w p 57 (callC F.p r (some ⟨ga, 0, none⟩) 1 1 v)) (A : Row w ga 30 [.int .u32 (q : Nat)]) (B : Row w b 129 [.func (.func f) #[] caps])
    (hr : r % 2 = 1) (hr2 : r < 4294967296) (hq : q % 2 = 1) (hq2 : q < 4294967296) (eF : ∀ args w, (callFunc f args).run Tryz.prog w = .ok (.enter f args) w)
    (HF : ∀ X, Below w.heap.size w X → Calls Tryz.prog f (#[.int .i64 (valueO r), .int .i64 (valueO q)] ++ caps) X fun e X' => FnAns o e ∧ Below X.heap.size X X') :
    Calls Tryz.prog 203 #[.pointer (some ⟨p, 0, none⟩), .pointer (some ⟨b, 0, none⟩)] w fun e w' => RuleRes (resO o) F.p p r ga w w' e := by
  have HB := (Below.refl w.heap.size w)
  have SX := Lib.hid (fun X (hb : Below w.heap.size w X) => show X.cell? ⟨p, 2, none⟩ = some (.int .u32 (r : Nat)) ∧ X.cell? ⟨p, 3, none⟩ = some (.slice (some ⟨ga, 0, none⟩) 1 1) ∧ X.cell? ⟨ga, 0, none⟩ = some (.int .u32 (q : Nat)) from
    ⟨(R.below hb R.lt).cell_at 2, (R.below hb R.lt).cell_at 3, (A.below hb A.lt).cell_at 0⟩)
  have hX := SX.out _ HB.drew
  have HIx := Lib.hid (fun W => (A.sl (n := 1) rfl (by decide)).index 53 Tryz.underlying53 size_oop W .i64 0 (by decide))
  have HInts := Lib.hid (fun X g (rv : Row X g 30 [.int .u32 (r : Nat), .int .u32 (q : Nat)]) => prim_ints2 X g r q hr hr2 hq hq2 rv)
  have HF0 := Lib.hid HF
  have RB := Lib.hid B
  have RR := Lib.hid R
  clear HB R A B HF hr hr2 hq hq2
  go_enter Tryz.func203, Tryz.ntmps203
  go_wp2_with fail
  refine wp_region_held (S := fun X => X.cell? ⟨p, 2, none⟩ = some (.int .u32 (r : Nat)) ∧ X.cell? ⟨p, 3, none⟩ = some (.slice (some ⟨ga, 0, none⟩) 1 1) ∧ X.cell? ⟨ga, 0, none⟩ = some (.int .u32 (q : Nat))) (by kernel_rfl) ?_
  refine wpAnyH_take_at (i := 0) (v := .pointer (some ⟨p, 0, none⟩)) 8 rfl rfl (by kernel_rfl) (by kernel_rfl) (by kernel_rfl) (fun _ _ _ h => h) (.inl ⟨rfl, fun X hX => by go_simp⟩) hX ?_
  simp only [Act.put, List.setIfInBounds_toArray, List.set_cons_zero, List.set_cons_succ]
  refine wpAnyH_take_at (i := 1) (v := .pointer (some ⟨p, 0, none⟩)) 9 rfl rfl (by kernel_rfl) (by kernel_rfl) (by kernel_rfl) (fun _ _ _ h => h) (.inl ⟨rfl, fun X hX => by go_simp⟩) hX ?_
  simp only [Act.put, List.setIfInBounds_toArray, List.set_cons_zero, List.set_cons_succ]
  refine wpAnyH_take_at (i := 2) (v := .pointer (some ⟨p, 2, none⟩)) 10 rfl rfl (by kernel_rfl) (by kernel_rfl) (by kernel_rfl) (fun _ _ _ h => h) (.inl ⟨rfl, fun X hX => by go_simp⟩) hX ?_
  simp only [Act.put, List.setIfInBounds_toArray, List.set_cons_zero, List.set_cons_succ]
  refine wpAnyH_take_at (i := 3) (v := .int .u32 (r : Nat)) 11 rfl rfl (by kernel_rfl) (by kernel_rfl) (by kernel_rfl) (fun _ _ _ h => h) (.inl ⟨rfl, fun X hX => by obtain ⟨q2, q3, q4⟩ := hX; go_simp⟩) hX ?_
  simp only [Act.put, List.setIfInBounds_toArray, List.set_cons_zero, List.set_cons_succ]
  refine wpAnyH_take_at (i := 4) (v := .pointer (some ⟨p, 0, none⟩)) 12 rfl rfl (by kernel_rfl) (by kernel_rfl) (by kernel_rfl) (fun _ _ _ h => h) (.inl ⟨rfl, fun X hX => by go_simp⟩) hX ?_
  simp only [Act.put, List.setIfInBounds_toArray, List.set_cons_zero, List.set_cons_succ]
  refine wpAnyH_take_at (i := 5) (v := .pointer (some ⟨p, 0, none⟩)) 13 rfl rfl (by kernel_rfl) (by kernel_rfl) (by kernel_rfl) (fun _ _ _ h => h) (.inl ⟨rfl, fun X hX => by go_simp⟩) hX ?_
  simp only [Act.put, List.setIfInBounds_toArray, List.set_cons_zero, List.set_cons_succ]
  refine wpAnyH_take_at (i := 6) (v := .pointer (some ⟨p, 3, none⟩)) 14 rfl rfl (by kernel_rfl) (by kernel_rfl) (by kernel_rfl) (fun _ _ _ h => h) (.inl ⟨rfl, fun X hX => by go_simp⟩) hX ?_
  simp only [Act.put, List.setIfInBounds_toArray, List.set_cons_zero, List.set_cons_succ]
  refine wpAnyH_take_at (i := 7) (v := .slice (some ⟨ga, 0, none⟩) 1 1) 15 rfl rfl (by kernel_rfl) (by kernel_rfl) (by kernel_rfl) (fun _ _ _ h => h) (.inl ⟨rfl, fun X hX => by obtain ⟨q2, q3, q4⟩ := hX; go_simp⟩) hX ?_
  simp only [Act.put, List.setIfInBounds_toArray, List.set_cons_zero, List.set_cons_succ]
  refine wpAnyH_take_at (i := 8) (v := .pointer (some ⟨ga, 0, none⟩)) 16 rfl rfl (by kernel_rfl) (by kernel_rfl) (by kernel_rfl) (fun _ _ _ h => h) (.inl ⟨rfl, fun X hX => by have ix := HIx.out X; go_simp⟩) hX ?_
  simp only [Act.put, List.setIfInBounds_toArray, List.set_cons_zero, List.set_cons_succ]
  refine wpAnyH_take_at (i := 9) (v := .int .u32 (q : Nat)) 17 rfl rfl (by kernel_rfl) (by kernel_rfl) (by kernel_rfl) (fun _ _ _ h => h) (.inl ⟨rfl, fun X hX => by obtain ⟨q2, q3, q4⟩ := hX; go_simp⟩) hX ?_
  simp only [Act.put, List.setIfInBounds_toArray, List.set_cons_zero, List.set_cons_succ]
  refine wpAnyH_all (rs := [10]) (by kernel_rfl) (by decide) (fun i hi => ?_)
  rw [List.mem_singleton] at hi
  subst hi
  obtain ⟨V2, hV2, rv0, hbv, hzv⟩ := alloc_row w 30 [.int .u32 (r : Nat), .int .u32 (q : Nat)]
  have HV2 := Lib.hid hV2
  have rv := rv0.below (Below.refl _ _).drew rv0.lt
  have HI := Lib.hid (HInts.out _ _ rv)
  have HBV := Lib.hid (hbv.drew)
  clear hX hV2 hzv rv rv0 hbv
  unfold wpOp
  go_simp
  rw [← show V2 = _ from HV2.out]
  have hX := SX.out _ HBV.out
  refine .inl ⟨hX, ?_⟩
  (try simp only [Act.put, List.setIfInBounds_toArray, List.set_cons_zero, List.set_cons_succ])
  refine wpAnyH_all (rs := [11]) (by kernel_rfl) (by decide) (fun i hi => ?_)
  rw [List.mem_singleton] at hi
  subst hi
  unfold wpOp
  go_simp
  refine .inl ((HI.out).mono ?_)
  rintro e X2 ⟨g, c, rfl, hsl, hg, hb⟩
  have HB1 := Lib.hid (HBV.out.trans (hb.mono HBV.out.size))
  have HSl := Lib.hid hsl
  have HGe := Lib.hid (Nat.le_trans HBV.out.size hg)
  clear hX hsl hb hg HI HBV HV2
  have hX := SX.out _ HB1.out
  refine ⟨hX, ?_⟩
  (try simp only [Act.put, List.setIfInBounds_toArray, List.set_cons_zero, List.set_cons_succ])
  refine wpAnyH_take_at (i := 12) (v := .tuple #[.slice (some ⟨g, 0, none⟩) 2 c, .bool true]) 7 rfl rfl (by kernel_rfl) (by kernel_rfl) (by kernel_rfl) (fun _ _ _ h => h) (.inl ⟨rfl, fun X hX => by go_simp⟩) hX ?_
  simp only [Act.put, List.setIfInBounds_toArray, List.set_cons_zero, List.set_cons_succ]
  refine wpAnyH_take_at (i := 13) (v := .slice (some ⟨g, 0, none⟩) 2 c) 20 rfl rfl (by kernel_rfl) (by kernel_rfl) (by kernel_rfl) (fun _ _ _ h => h) (.inl ⟨rfl, fun X hX => by go_simp⟩) hX ?_
  simp only [Act.put, List.setIfInBounds_toArray, List.set_cons_zero, List.set_cons_succ]
  refine wpAnyH_take_at (i := 14) (v := .bool true) 21 rfl rfl (by kernel_rfl) (by kernel_rfl) (by kernel_rfl) (fun _ _ _ h => h) (.inl ⟨rfl, fun X hX => by go_simp⟩) hX ?_
  simp only [Act.put, List.setIfInBounds_toArray, List.set_cons_zero, List.set_cons_succ]
  refine wpAnyH_take_at (i := 15) (v := .slice (some ⟨g, 0, none⟩) 2 c) 4 rfl rfl (by kernel_rfl) (by kernel_rfl) (by kernel_rfl) (fun _ _ _ h => h) (.inl ⟨rfl, fun X hX => by go_simp⟩) hX ?_
  simp only [Act.put, List.setIfInBounds_toArray, List.set_cons_zero, List.set_cons_succ]
  refine wpAnyH_take_at (i := 16) (v := .bool true) 5 rfl rfl (by kernel_rfl) (by kernel_rfl) (by kernel_rfl) (fun _ _ _ h => h) (.inl ⟨rfl, fun X hX => by go_simp⟩) hX ?_
  simp only [Act.put, List.setIfInBounds_toArray, List.set_cons_zero, List.set_cons_succ]
  refine wpAnyH_done (by kernel_rfl) ?_ _
  have HJ0 := Lib.hid (fun W => HSl.out.index 48 Tryz.underlying48 size_int W .i64 0 (by decide))
  have HJ1 := Lib.hid (fun W => HSl.out.index 48 Tryz.underlying48 size_int W .i64 1 (by decide))
  obtain ⟨V, hV⟩ : ∃ V, V = X2 := ⟨_, rfl⟩
  have SY := Lib.hid (fun X (hb : Below X2.heap.size X2 X) => show X.cell? ⟨g, 0, none⟩ = some (.int .i64 (valueO r)) ∧ X.cell? ⟨g, 1, none⟩ = some (.int .i64 (valueO q)) ∧ X.cell? ⟨b, 0, none⟩ = some (.func (.func f) #[] caps) from
    ⟨(HSl.out.below hb).cell (i := 0) (by decide), (HSl.out.below hb).cell (i := 1) (by decide), ((RB.out.below HB1.out RB.out.lt).below hb (Nat.lt_of_lt_of_le RB.out.lt HB1.out.size)).cell_at 0⟩)
  have hY := SY.out _ (Below.refl _ _).drew
  clear hX hV
  have HBd := Lib.hid HB1.out.drew
  obtain ⟨z0, hz0⟩ : ∃ z, z = o.getD 0 := ⟨_, rfl⟩
  obtain ⟨k0, hk0⟩ : ∃ k, k = o.isSome := ⟨_, rfl⟩
  have HZ := Lib.hid (show o.getD 0 = z0 ∧ o.isSome = k0 from ⟨hz0.symm, hk0.symm⟩)
  clear hz0 hk0
  go_wp2_with fail
  refine wp_region_held (S := fun X => X.cell? ⟨g, 0, none⟩ = some (.int .i64 (valueO r)) ∧ X.cell? ⟨g, 1, none⟩ = some (.int .i64 (valueO q)) ∧ X.cell? ⟨b, 0, none⟩ = some (.func (.func f) #[] caps)) (by kernel_rfl) ?_
  have hX := hY
  clear hY
  refine wpAnyH_take_at (i := 0) (v := .func (.func f) #[] caps) 25 rfl rfl (by kernel_rfl) (by kernel_rfl) (by kernel_rfl) (fun _ _ _ h => h) (.inl ⟨rfl, fun X hX => by obtain ⟨q0, q1, qb⟩ := hX; go_simp⟩) hX ?_
  simp only [Act.put, List.setIfInBounds_toArray, List.set_cons_zero, List.set_cons_succ]
  refine wpAnyH_take_at (i := 1) (v := .slice (some ⟨g, 0, none⟩) 2 c) 26 rfl rfl (by kernel_rfl) (by kernel_rfl) (by kernel_rfl) (fun _ _ _ h => h) (.inl ⟨rfl, fun X hX => by go_simp⟩) hX ?_
  simp only [Act.put, List.setIfInBounds_toArray, List.set_cons_zero, List.set_cons_succ]
  refine wpAnyH_take_at (i := 2) (v := .pointer (some ⟨g, 0, none⟩)) 27 rfl rfl (by kernel_rfl) (by kernel_rfl) (by kernel_rfl) (fun _ _ _ h => h) (.inl ⟨rfl, fun X hX => by have ix := HJ0.out X; go_simp⟩) hX ?_
  simp only [Act.put, List.setIfInBounds_toArray, List.set_cons_zero, List.set_cons_succ]
  refine wpAnyH_take_at (i := 3) (v := .int .i64 (valueO r)) 28 rfl rfl (by kernel_rfl) (by kernel_rfl) (by kernel_rfl) (fun _ _ _ h => h) (.inl ⟨rfl, fun X hX => by obtain ⟨q0, q1, qb⟩ := hX; go_simp⟩) hX ?_
  simp only [Act.put, List.setIfInBounds_toArray, List.set_cons_zero, List.set_cons_succ]
  refine wpAnyH_take_at (i := 4) (v := .slice (some ⟨g, 0, none⟩) 2 c) 29 rfl rfl (by kernel_rfl) (by kernel_rfl) (by kernel_rfl) (fun _ _ _ h => h) (.inl ⟨rfl, fun X hX => by go_simp⟩) hX ?_
  simp only [Act.put, List.setIfInBounds_toArray, List.set_cons_zero, List.set_cons_succ]
  refine wpAnyH_take_at (i := 5) (v := .pointer (some ⟨g, 1, none⟩)) 30 rfl rfl (by kernel_rfl) (by kernel_rfl) (by kernel_rfl) (fun _ _ _ h => h) (.inl ⟨rfl, fun X hX => by have ix := HJ1.out X; go_simp⟩) hX ?_
  simp only [Act.put, List.setIfInBounds_toArray, List.set_cons_zero, List.set_cons_succ]
  refine wpAnyH_take_at (i := 6) (v := .int .i64 (valueO q)) 31 rfl rfl (by kernel_rfl) (by kernel_rfl) (by kernel_rfl) (fun _ _ _ h => h) (.inl ⟨rfl, fun X hX => by obtain ⟨q0, q1, qb⟩ := hX; go_simp⟩) hX ?_
  simp only [Act.put, List.setIfInBounds_toArray, List.set_cons_zero, List.set_cons_succ]
  refine wpAnyH_all (rs := [7]) (by kernel_rfl) (by decide) (fun i hi => ?_)
  rw [List.mem_singleton] at hi
  subst hi
  unfold wpOp
  go_simp
  refine .inl ((HF0.out _ HBd.out).mono ?_)
  rintro e X3 ⟨he, hb⟩
  unfold FnAns at he
  rw [HZ.out.1, HZ.out.2] at he
  subst he
  have HB2 := Lib.hid (HBd.out.trans (hb.mono HBd.out.size))
  have HBx := Lib.hid ((Below.refl X2.heap.size X2).drew.trans hb)
  clear hX hb
  have hX := SY.out _ HBx.out
  refine ⟨hX, ?_⟩
  (try simp only [Act.put, List.setIfInBounds_toArray, List.set_cons_zero, List.set_cons_succ])
  refine wpAnyH_take_at (i := 8) (v := .tuple #[.int .i64 z0, .bool k0]) 24 rfl rfl (by kernel_rfl) (by kernel_rfl) (by kernel_rfl) (fun _ _ _ h => h) (.inl ⟨rfl, fun X hX => by go_simp⟩) hX ?_
  simp only [Act.put, List.setIfInBounds_toArray, List.set_cons_zero, List.set_cons_succ]
  refine wpAnyH_take_at (i := 9) (v := .int .i64 z0) 33 rfl rfl (by kernel_rfl) (by kernel_rfl) (by kernel_rfl) (fun _ _ _ h => h) (.inl ⟨rfl, fun X hX => by go_simp⟩) hX ?_
  simp only [Act.put, List.setIfInBounds_toArray, List.set_cons_zero, List.set_cons_succ]
  refine wpAnyH_take_at (i := 10) (v := .bool k0) 34 rfl rfl (by kernel_rfl) (by kernel_rfl) (by kernel_rfl) (fun _ _ _ h => h) (.inl ⟨rfl, fun X hX => by go_simp⟩) hX ?_
  simp only [Act.put, List.setIfInBounds_toArray, List.set_cons_zero, List.set_cons_succ]
  refine wpAnyH_take_at (i := 11) (v := .int .i64 z0) 6 rfl rfl (by kernel_rfl) (by kernel_rfl) (by kernel_rfl) (fun _ _ _ h => h) (.inl ⟨rfl, fun X hX => by go_simp⟩) hX ?_
  simp only [Act.put, List.setIfInBounds_toArray, List.set_cons_zero, List.set_cons_succ]
  refine wpAnyH_take_at (i := 12) (v := .bool k0) 5 rfl rfl (by kernel_rfl) (by kernel_rfl) (by kernel_rfl) (fun _ _ _ h => h) (.inl ⟨rfl, fun X hX => by go_simp⟩) hX ?_
  simp only [Act.put, List.setIfInBounds_toArray, List.set_cons_zero, List.set_cons_succ]
  refine wpAnyH_done (by kernel_rfl) ?_ _
  (try clear HN)
  have RR3 := Lib.hid (RR.out.below HB2.out RR.out.lt)
  have HO2 := Lib.hid (Only.of_below (ps := [p]) HB2.out)
  have e1 := HZ.out.1
  have e2 := HZ.out.2
  clear hX HZ HF0 SY SX HBx HBd RB RR HIx HJ0 HJ1 HSl HB1 HInts
  cases o with
  | none =>
    have e1 : 0 = z0 := e1
    have e2 : false = k0 := e2
    subst e1 e2
    go_wp2_with fail
    go_ret
    exact ⟨rfl, HO2.out⟩
  | some z =>
    have e1 : z = z0 := e1
    have e2 : true = k0 := e2
    subst e1 e2
    cases hs : isSm z with
    | true =>
      have hr : resO (some z) = some (smallO z) := by unfold resO resV; simp [hs]
      have HRe := Lib.hid hr
      have HN := Lib.hid (prim_number X3 p F.p r (some ⟨ga, 0, none⟩) 1 1 v z hs RR3.out)
      clear hs hr
      go_wp2_with fail
      refine HN.out.mono ?_
      rintro e W ⟨rfl, hr, ho⟩
      (try dsimp only)
      have HR := Lib.hid hr
      have HO3 := Lib.hid (HO2.out.trans ho (fun q hq => .inl hq))
      clear hr ho HN
      go_wp2_with fail
      go_ret
      rw [HRe.out]
      exact ⟨rfl, HR.out, HO3.out⟩
    | false =>
      have hr : resO (some z) = none := by unfold resO resV; simp [hs]
      have HRe := Lib.hid hr
      have HN := Lib.hid (prim_number_no X3 p z hs)
      clear hs hr
      go_wp2_with fail
      refine HN.out.mono ?_
      rintro e W ⟨rfl, rfl⟩
      (try dsimp only)
      go_wp2_with fail
      go_ret
      rw [HRe.out]
      exact ⟨rfl, HO2.out⟩
set_option maxHeartbeats 3200000 in
set_option maxRecDepth 100000 in
theorem cmp_fn {o : Bool} (H : HeapAt w F h) (R : Row w p 57 (callC F.p r (some ⟨ga, 0, none⟩) 1 1 v)) (A : Row w ga 30 [.int .u32 (q : Nat)]) (B : Row w b 132 [.func (.func f) #[] caps])
    (hr : r % 2 = 1) (hr2 : r < 4294967296) (hq : q % 2 = 1) (hq2 : q < 4294967296) (eF : ∀ args w, (callFunc f args).run Tryz.prog w = .ok (.enter f args) w)
    (HF : ∀ X, Below w.heap.size w X → Calls Tryz.prog f (#[.int .i64 (valueO r), .int .i64 (valueO q)] ++ caps) X fun e X' => e = .returned (.bool o) ∧ Below X.heap.size X X') :
    Calls Tryz.prog 204 #[.pointer (some ⟨p, 0, none⟩), .pointer (some ⟨b, 0, none⟩)] w fun e w' => RuleRes (some (wd h.rt (if o = true then 1 else 2))) F.p p r ga w w' e := by
  have HTr := Lib.hid (fun X (hb : Below w.heap.size w X) => prim_truth (H.below hb) o p r (some ⟨ga, 0, none⟩) 1 1 v (R.below hb R.lt))
  generalize wd h.rt (if o = true then 1 else 2) = tv at *
  have HB := (Below.refl w.heap.size w)
  have SX := Lib.hid (fun X (hb : Below w.heap.size w X) => show X.cell? ⟨p, 2, none⟩ = some (.int .u32 (r : Nat)) ∧ X.cell? ⟨p, 3, none⟩ = some (.slice (some ⟨ga, 0, none⟩) 1 1) ∧ X.cell? ⟨ga, 0, none⟩ = some (.int .u32 (q : Nat)) from
    ⟨(R.below hb R.lt).cell_at 2, (R.below hb R.lt).cell_at 3, (A.below hb A.lt).cell_at 0⟩)
  have hX := SX.out _ HB.drew
  have HIx := Lib.hid (fun W => (A.sl (n := 1) rfl (by decide)).index 53 Tryz.underlying53 size_oop W .i64 0 (by decide))
  have HInts := Lib.hid (fun X g (rv : Row X g 30 [.int .u32 (r : Nat), .int .u32 (q : Nat)]) => prim_ints2 X g r q hr hr2 hq hq2 rv)
  have HF0 := Lib.hid HF
  have RB := Lib.hid B
  have RR := Lib.hid R
  clear HB R A B HF hr hr2 hq hq2
  clear H
  go_enter Tryz.func204, Tryz.ntmps204
  go_wp2_with fail
  refine wp_region_held (S := fun X => X.cell? ⟨p, 2, none⟩ = some (.int .u32 (r : Nat)) ∧ X.cell? ⟨p, 3, none⟩ = some (.slice (some ⟨ga, 0, none⟩) 1 1) ∧ X.cell? ⟨ga, 0, none⟩ = some (.int .u32 (q : Nat))) (by kernel_rfl) ?_
  refine wpAnyH_take_at (i := 0) (v := .pointer (some ⟨p, 0, none⟩)) 7 rfl rfl (by kernel_rfl) (by kernel_rfl) (by kernel_rfl) (fun _ _ _ h => h) (.inl ⟨rfl, fun X hX => by go_simp⟩) hX ?_
  simp only [Act.put, List.setIfInBounds_toArray, List.set_cons_zero, List.set_cons_succ]
  refine wpAnyH_take_at (i := 1) (v := .pointer (some ⟨p, 0, none⟩)) 8 rfl rfl (by kernel_rfl) (by kernel_rfl) (by kernel_rfl) (fun _ _ _ h => h) (.inl ⟨rfl, fun X hX => by go_simp⟩) hX ?_
  simp only [Act.put, List.setIfInBounds_toArray, List.set_cons_zero, List.set_cons_succ]
  refine wpAnyH_take_at (i := 2) (v := .pointer (some ⟨p, 2, none⟩)) 9 rfl rfl (by kernel_rfl) (by kernel_rfl) (by kernel_rfl) (fun _ _ _ h => h) (.inl ⟨rfl, fun X hX => by go_simp⟩) hX ?_
  simp only [Act.put, List.setIfInBounds_toArray, List.set_cons_zero, List.set_cons_succ]
  refine wpAnyH_take_at (i := 3) (v := .int .u32 (r : Nat)) 10 rfl rfl (by kernel_rfl) (by kernel_rfl) (by kernel_rfl) (fun _ _ _ h => h) (.inl ⟨rfl, fun X hX => by obtain ⟨q2, q3, q4⟩ := hX; go_simp⟩) hX ?_
  simp only [Act.put, List.setIfInBounds_toArray, List.set_cons_zero, List.set_cons_succ]
  refine wpAnyH_take_at (i := 4) (v := .pointer (some ⟨p, 0, none⟩)) 11 rfl rfl (by kernel_rfl) (by kernel_rfl) (by kernel_rfl) (fun _ _ _ h => h) (.inl ⟨rfl, fun X hX => by go_simp⟩) hX ?_
  simp only [Act.put, List.setIfInBounds_toArray, List.set_cons_zero, List.set_cons_succ]
  refine wpAnyH_take_at (i := 5) (v := .pointer (some ⟨p, 0, none⟩)) 12 rfl rfl (by kernel_rfl) (by kernel_rfl) (by kernel_rfl) (fun _ _ _ h => h) (.inl ⟨rfl, fun X hX => by go_simp⟩) hX ?_
  simp only [Act.put, List.setIfInBounds_toArray, List.set_cons_zero, List.set_cons_succ]
  refine wpAnyH_take_at (i := 6) (v := .pointer (some ⟨p, 3, none⟩)) 13 rfl rfl (by kernel_rfl) (by kernel_rfl) (by kernel_rfl) (fun _ _ _ h => h) (.inl ⟨rfl, fun X hX => by go_simp⟩) hX ?_
  simp only [Act.put, List.setIfInBounds_toArray, List.set_cons_zero, List.set_cons_succ]
  refine wpAnyH_take_at (i := 7) (v := .slice (some ⟨ga, 0, none⟩) 1 1) 14 rfl rfl (by kernel_rfl) (by kernel_rfl) (by kernel_rfl) (fun _ _ _ h => h) (.inl ⟨rfl, fun X hX => by obtain ⟨q2, q3, q4⟩ := hX; go_simp⟩) hX ?_
  simp only [Act.put, List.setIfInBounds_toArray, List.set_cons_zero, List.set_cons_succ]
  refine wpAnyH_take_at (i := 8) (v := .pointer (some ⟨ga, 0, none⟩)) 15 rfl rfl (by kernel_rfl) (by kernel_rfl) (by kernel_rfl) (fun _ _ _ h => h) (.inl ⟨rfl, fun X hX => by have ix := HIx.out X; go_simp⟩) hX ?_
  simp only [Act.put, List.setIfInBounds_toArray, List.set_cons_zero, List.set_cons_succ]
  refine wpAnyH_take_at (i := 9) (v := .int .u32 (q : Nat)) 16 rfl rfl (by kernel_rfl) (by kernel_rfl) (by kernel_rfl) (fun _ _ _ h => h) (.inl ⟨rfl, fun X hX => by obtain ⟨q2, q3, q4⟩ := hX; go_simp⟩) hX ?_
  simp only [Act.put, List.setIfInBounds_toArray, List.set_cons_zero, List.set_cons_succ]
  refine wpAnyH_all (rs := [10]) (by kernel_rfl) (by decide) (fun i hi => ?_)
  rw [List.mem_singleton] at hi
  subst hi
  obtain ⟨V2, hV2, rv0, hbv, hzv⟩ := alloc_row w 30 [.int .u32 (r : Nat), .int .u32 (q : Nat)]
  have HV2 := Lib.hid hV2
  have rv := rv0.below (Below.refl _ _).drew rv0.lt
  have HI := Lib.hid (HInts.out _ _ rv)
  have HBV := Lib.hid (hbv.drew)
  clear hX hV2 hzv rv rv0 hbv
  unfold wpOp
  go_simp
  rw [← show V2 = _ from HV2.out]
  have hX := SX.out _ HBV.out
  refine .inl ⟨hX, ?_⟩
  (try simp only [Act.put, List.setIfInBounds_toArray, List.set_cons_zero, List.set_cons_succ])
  refine wpAnyH_all (rs := [11]) (by kernel_rfl) (by decide) (fun i hi => ?_)
  rw [List.mem_singleton] at hi
  subst hi
  unfold wpOp
  go_simp
  refine .inl ((HI.out).mono ?_)
  rintro e X2 ⟨g, c, rfl, hsl, hg, hb⟩
  have HB1 := Lib.hid (HBV.out.trans (hb.mono HBV.out.size))
  have HSl := Lib.hid hsl
  have HGe := Lib.hid (Nat.le_trans HBV.out.size hg)
  clear hX hsl hb hg HI HBV HV2
  have hX := SX.out _ HB1.out
  refine ⟨hX, ?_⟩
  (try simp only [Act.put, List.setIfInBounds_toArray, List.set_cons_zero, List.set_cons_succ])
  refine wpAnyH_take_at (i := 12) (v := .tuple #[.slice (some ⟨g, 0, none⟩) 2 c, .bool true]) 6 rfl rfl (by kernel_rfl) (by kernel_rfl) (by kernel_rfl) (fun _ _ _ h => h) (.inl ⟨rfl, fun X hX => by go_simp⟩) hX ?_
  simp only [Act.put, List.setIfInBounds_toArray, List.set_cons_zero, List.set_cons_succ]
  refine wpAnyH_take_at (i := 13) (v := .slice (some ⟨g, 0, none⟩) 2 c) 19 rfl rfl (by kernel_rfl) (by kernel_rfl) (by kernel_rfl) (fun _ _ _ h => h) (.inl ⟨rfl, fun X hX => by go_simp⟩) hX ?_
  simp only [Act.put, List.setIfInBounds_toArray, List.set_cons_zero, List.set_cons_succ]
  refine wpAnyH_take_at (i := 14) (v := .bool true) 20 rfl rfl (by kernel_rfl) (by kernel_rfl) (by kernel_rfl) (fun _ _ _ h => h) (.inl ⟨rfl, fun X hX => by go_simp⟩) hX ?_
  simp only [Act.put, List.setIfInBounds_toArray, List.set_cons_zero, List.set_cons_succ]
  refine wpAnyH_take_at (i := 15) (v := .slice (some ⟨g, 0, none⟩) 2 c) 4 rfl rfl (by kernel_rfl) (by kernel_rfl) (by kernel_rfl) (fun _ _ _ h => h) (.inl ⟨rfl, fun X hX => by go_simp⟩) hX ?_
  simp only [Act.put, List.setIfInBounds_toArray, List.set_cons_zero, List.set_cons_succ]
  refine wpAnyH_take_at (i := 16) (v := .bool true) 5 rfl rfl (by kernel_rfl) (by kernel_rfl) (by kernel_rfl) (fun _ _ _ h => h) (.inl ⟨rfl, fun X hX => by go_simp⟩) hX ?_
  simp only [Act.put, List.setIfInBounds_toArray, List.set_cons_zero, List.set_cons_succ]
  refine wpAnyH_done (by kernel_rfl) ?_ _
  have HJ0 := Lib.hid (fun W => HSl.out.index 48 Tryz.underlying48 size_int W .i64 0 (by decide))
  have HJ1 := Lib.hid (fun W => HSl.out.index 48 Tryz.underlying48 size_int W .i64 1 (by decide))
  obtain ⟨V, hV⟩ : ∃ V, V = X2 := ⟨_, rfl⟩
  have SY := Lib.hid (fun X (hb : Below X2.heap.size X2 X) => show X.cell? ⟨g, 0, none⟩ = some (.int .i64 (valueO r)) ∧ X.cell? ⟨g, 1, none⟩ = some (.int .i64 (valueO q)) ∧ X.cell? ⟨b, 0, none⟩ = some (.func (.func f) #[] caps) from
    ⟨(HSl.out.below hb).cell (i := 0) (by decide), (HSl.out.below hb).cell (i := 1) (by decide), ((RB.out.below HB1.out RB.out.lt).below hb (Nat.lt_of_lt_of_le RB.out.lt HB1.out.size)).cell_at 0⟩)
  have hY := SY.out _ (Below.refl _ _).drew
  clear hX hV
  have HBd := Lib.hid HB1.out.drew
  have HNe := Lib.hid (show g ≠ p ∧ b ≠ p from ⟨fun e => by have := RR.out.lt; have := HGe.out; omega, RB.out.ne RR.out (by decide)⟩)
  go_wp2_with fail
  refine wp_region_held (S := fun X => X.cell? ⟨g, 0, none⟩ = some (.int .i64 (valueO r)) ∧ X.cell? ⟨g, 1, none⟩ = some (.int .i64 (valueO q)) ∧ X.cell? ⟨b, 0, none⟩ = some (.func (.func f) #[] caps)) (by kernel_rfl) ?_
  have hX := hY
  clear hY
  refine wpAnyH_take_at (i := 0) (v := .pointer (some ⟨p, 0, none⟩)) 23 rfl rfl (by kernel_rfl) (by kernel_rfl) (by kernel_rfl) (fun _ _ _ h => h) (.inl ⟨rfl, fun X hX => by go_simp⟩) hX ?_
  simp only [Act.put, List.setIfInBounds_toArray, List.set_cons_zero, List.set_cons_succ]
  refine wpAnyH_take_at (i := 1) (v := .func (.func f) #[] caps) 24 rfl rfl (by kernel_rfl) (by kernel_rfl) (by kernel_rfl) (fun _ _ _ h => h) (.inl ⟨rfl, fun X hX => by obtain ⟨q0, q1, qb⟩ := hX; go_simp⟩) hX ?_
  simp only [Act.put, List.setIfInBounds_toArray, List.set_cons_zero, List.set_cons_succ]
  refine wpAnyH_take_at (i := 2) (v := .slice (some ⟨g, 0, none⟩) 2 c) 25 rfl rfl (by kernel_rfl) (by kernel_rfl) (by kernel_rfl) (fun _ _ _ h => h) (.inl ⟨rfl, fun X hX => by go_simp⟩) hX ?_
  simp only [Act.put, List.setIfInBounds_toArray, List.set_cons_zero, List.set_cons_succ]
  refine wpAnyH_take_at (i := 3) (v := .pointer (some ⟨g, 0, none⟩)) 26 rfl rfl (by kernel_rfl) (by kernel_rfl) (by kernel_rfl) (fun _ _ _ h => h) (.inl ⟨rfl, fun X hX => by have ix := HJ0.out X; go_simp⟩) hX ?_
  simp only [Act.put, List.setIfInBounds_toArray, List.set_cons_zero, List.set_cons_succ]
  refine wpAnyH_take_at (i := 4) (v := .int .i64 (valueO r)) 27 rfl rfl (by kernel_rfl) (by kernel_rfl) (by kernel_rfl) (fun _ _ _ h => h) (.inl ⟨rfl, fun X hX => by obtain ⟨q0, q1, qb⟩ := hX; go_simp⟩) hX ?_
  simp only [Act.put, List.setIfInBounds_toArray, List.set_cons_zero, List.set_cons_succ]
  refine wpAnyH_take_at (i := 5) (v := .slice (some ⟨g, 0, none⟩) 2 c) 28 rfl rfl (by kernel_rfl) (by kernel_rfl) (by kernel_rfl) (fun _ _ _ h => h) (.inl ⟨rfl, fun X hX => by go_simp⟩) hX ?_
  simp only [Act.put, List.setIfInBounds_toArray, List.set_cons_zero, List.set_cons_succ]
  refine wpAnyH_take_at (i := 6) (v := .pointer (some ⟨g, 1, none⟩)) 29 rfl rfl (by kernel_rfl) (by kernel_rfl) (by kernel_rfl) (fun _ _ _ h => h) (.inl ⟨rfl, fun X hX => by have ix := HJ1.out X; go_simp⟩) hX ?_
  simp only [Act.put, List.setIfInBounds_toArray, List.set_cons_zero, List.set_cons_succ]
  refine wpAnyH_take_at (i := 7) (v := .int .i64 (valueO q)) 30 rfl rfl (by kernel_rfl) (by kernel_rfl) (by kernel_rfl) (fun _ _ _ h => h) (.inl ⟨rfl, fun X hX => by obtain ⟨q0, q1, qb⟩ := hX; go_simp⟩) hX ?_
  simp only [Act.put, List.setIfInBounds_toArray, List.set_cons_zero, List.set_cons_succ]
  refine wpAnyH_all (rs := [8]) (by kernel_rfl) (by decide) (fun i hi => ?_)
  rw [List.mem_singleton] at hi
  subst hi
  unfold wpOp
  go_simp
  refine .inl ((HF0.out _ HBd.out).mono ?_)
  rintro e X3 ⟨rfl, hb⟩
  have HB2 := Lib.hid (HBd.out.trans (hb.mono HBd.out.size))
  have HBx := Lib.hid ((Below.refl X2.heap.size X2).drew.trans hb)
  clear hX hb
  have hX := SY.out _ HBx.out
  have HT := Lib.hid (HTr.out X3 HB2.out)
  refine ⟨hX, ?_⟩
  (try simp only [Act.put, List.setIfInBounds_toArray, List.set_cons_zero, List.set_cons_succ])
  refine wpAnyH_all (rs := [9]) (by kernel_rfl) (by decide) (fun i hi => ?_)
  rw [List.mem_singleton] at hi
  subst hi
  unfold wpOp
  go_simp
  refine .inl ((HT.out).mono ?_)
  rintro e X4 ⟨rfl, hr4, ho4⟩
  have HR4 := Lib.hid hr4
  have HO4 := Lib.hid ((Only.of_below (ps := [p]) HB2.out).trans ho4 (fun q hq => .inl hq))
  replace hX : X4.cell? ⟨g, 0, none⟩ = some (.int .i64 (valueO r)) ∧ X4.cell? ⟨g, 1, none⟩ = some (.int .i64 (valueO q)) ∧ X4.cell? ⟨b, 0, none⟩ = some (.func (.func f) #[] caps) := by
        have hne := HNe.out
        refine ⟨?_, ?_, ?_⟩
        · rw [World.cell?_of_block (ho4.block g (Nat.lt_of_lt_of_le HSl.out.lt HBx.out.size) (fun hm => hne.1 (List.mem_singleton.1 hm)))]; exact hX.1
        · rw [World.cell?_of_block (ho4.block g (Nat.lt_of_lt_of_le HSl.out.lt HBx.out.size) (fun hm => hne.1 (List.mem_singleton.1 hm)))]; exact hX.2.1
        · rw [World.cell?_of_block (ho4.block b (Nat.lt_of_lt_of_le RB.out.lt HB2.out.size) (fun hm => hne.2 (List.mem_singleton.1 hm)))]; exact hX.2.2
  refine ⟨hX, ?_⟩
  (try simp only [Act.put, List.setIfInBounds_toArray, List.set_cons_zero, List.set_cons_succ])
  refine wpAnyH_take_at (i := 10) (v := .int .i64 1) 3 rfl rfl (by kernel_rfl) (by kernel_rfl) (by kernel_rfl) (fun _ _ _ h => h) (.inl ⟨rfl, fun X hX => by go_simp⟩) hX ?_
  simp only [Act.put, List.setIfInBounds_toArray, List.set_cons_zero, List.set_cons_succ]
  refine wpAnyH_done (by kernel_rfl) ?_ _
  clear hX SX SY HF0 HTr HBx HBd RB HIx HJ0 HJ1 HSl HB1 HInts HB2
  go_wp2_with fail
  go_ret
  exact ⟨rfl, HR4.out, HO4.out⟩
end
end Go.Proofs.YteiikhcadjdkcaaGreatDoor
