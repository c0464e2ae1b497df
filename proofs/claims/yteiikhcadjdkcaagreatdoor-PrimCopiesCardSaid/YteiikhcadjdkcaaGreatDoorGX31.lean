/- The walks of package kernel: used, put. Package prim's indexed and closed of a String. prim.Data of a primitive of one argument: both are small integers. -/
import Derived.Test.YteiikhcadjdkcaaGreatDoorGX30
import Derived.Test.YteiikhcadjdkcaaGreatDoorGX21
import Derived.Test.YteiikhcadjdkcaaGreatDoorGX29
import Derived.Test.YteiikhcadjdkcaaGreatDoorGX24
set_option linter.unusedVariables false
set_option linter.unusedSimpArgs false
namespace Go.Proofs.YteiikhcadjdkcaaGreatDoor
open Go Go.RowKit Limb
theorem ahead_len (z : Nat) : ∀ (fl : List Nat) (k : Nat), (∀ j, j < k → wd fl j ≠ z) → k ≤ fl.length → (Limb.ahead z fl).length = k + (Limb.ahead z (fl.drop k)).length
  | fl, 0, _, _ => by simp
  | [], k + 1, _, h => by simp at h
  | a :: t, k + 1, h, hk => by
    have h1 : a ≠ z := h 0 (by omega)
    show (if a = z then [] else a :: Limb.ahead z t).length = k + 1 + (Limb.ahead z (t.drop k)).length
    rw [if_neg h1, List.length_cons, ahead_len z t k (fun j hj => h (j + 1) (by omega)) (by simpa using hk)]
    omega
section
variable {w : World} {F : Foot} {h : Hp}
set_option maxHeartbeats 1600000 in
set_option maxRecDepth 100000 in
theorem kernel_used (H : HeapAt w F h) (l : Nat) (hl : l < 4294967296) (hp : isF h l 1 0 = true) :
    Calls Tryz.prog 195 #[.pointer (some ⟨F.p, 0, none⟩), .int .u32 l] w fun e w' => e = .returned (.int .i64 (Limb.ahead (wd h.rt 0) (flds h l)).length) ∧ Below w.heap.size w w' := by
  have hi : isO h l = true := by unfold isF at hp; simp only [Bool.and_eq_true] at hp; exact hp.1.1
  have hX : hdX h l = hdO h l := by unfold hdX; rw [if_pos hi]
  have HR := Lib.hid (kernel_root H 0 (by decide))
  have hS := fun X (hb : Below w.heap.size w X) => kernel_size (H.below hb) l hl
  rw [hX] at hS
  have HS := Lib.hid hS
  have hok : (hdO h l).Ok := (H.good.ok _ (isO_iff.1 hi).2.2).1
  have hsz : (hdO h l).size ≤ 65535 := hok.size
  have HG := Lib.hid (fun X (hb : Below w.heap.size w X) (k : Nat) (hk : k < (hdO h l).size) => show Calls Tryz.prog 119 #[.pointer (some ⟨F.p, 0, none⟩), .int .u32 l, .int .i64 (k : Nat)] X fun e X' => e = .returned (.tuple #[.int .u32 (fld h l k), .int .i64 (0 : Nat)]) ∧ Below X.heap.size X X' from by
    have := heap_get (H.below hb) l hl (k : Int) (by omega) (by omega)
    rw [(getA_fld hp hk).1, (getA_fld hp hk).2] at this; exact this)
  have HF := Lib.hid (fun k (hk : k < (hdO h l).size) => show fld h l k = wd (flds h l) k from (flds_wd hk).symm)
  have HFL := Lib.hid (flds_length H.good hi)
  generalize wd h.rt 0 = nl at *
  generalize (hdO h l).size = sz at *
  obtain ⟨N, hN⟩ : ∃ N, N = (Limb.ahead nl (flds h l)).length := ⟨_, rfl⟩
  rw [← hN]
  have HN := Lib.hid hN
  clear hN hp hi hX hS hok H
  go_enter Tryz.func195, Tryz.ntmps195
  go_wp2_with fail
  refine (HR.out).mono ?_
  rintro e V1 ⟨rfl, rfl⟩
  (try dsimp only)
  go_wp2_with fail
  refine (HS.out _ (Below.refl _ _)).mono ?_
  rintro e V2 ⟨rfl, hB⟩
  (try dsimp only)
  go_wp2_with fail
  go_loopw [14] (fun i wr => ∃ k : Nat, k ≤ sz ∧ i = .int .i64 k ∧ Hid (∀ j, j < k → wd (flds h l) j ≠ nl) ∧ Below w.heap.size w wr) (fun i _ => sz - (RowKit.intOf i).toNat)
  case atStart => exact ⟨0, Nat.zero_le _, rfl, fun j hj => absurd hj (by omega), hB⟩
  case round =>
    clear hB
    obtain ⟨k, hk, rfl, HPre, hB⟩ := hrel
    by_cases h0 : k < sz
    · have d1 : decide ((k : Int) < (sz : Int)) = true := decide_eq_true (by omega)
      have d2 : decide (k < sz) = true := decide_eq_true h0
      have Hfk := Lib.hid (HF.out k h0)
      have HG1 := Lib.hid (HG.out wr hB k h0)
      have HLen := Lib.hid (ahead_len nl (flds h l) k HPre.out (by rw [HFL.out]; exact hk))
      have HDrop := Lib.hid (drop_wd (l := flds h l) (k := k) (by rw [HFL.out]; exact h0))
      go_wp2_with fail
      refine (HG1.out).mono ?_
      rintro e V3 ⟨rfl, hb⟩
      (try dsimp only)
      replace hB := hB.trans (hb.mono hB.size)
      clear hb
      by_cases hn : fld h l k = nl
      · obtain rfl : N = k := by
          rw [HN.out, HLen.out, HDrop.out, ← Hfk.out, hn]
          show k + (if nl = nl then [] else _).length = k
          rw [if_pos rfl]; rfl
        rw [hn]
        clear hn Hfk HDrop HLen
        go_wp2_with fail
        go_ret
        exact ⟨rfl, hB⟩
      · have q : ((fld h l k : Int) == (nl : Int)) = false := by rw [beq_eq_false_iff_ne]; omega
        have q2 : (fld h l k == nl) = false := by rw [beq_eq_false_iff_ne]; exact hn
        have HN2 := Lib.hid (show ∀ j, j < k + 1 → wd (flds h l) j ≠ nl from fun j hj => by
          by_cases e : j = k
          · rw [e, ← Hfk.out]; exact hn
          · exact HPre.out j (by omega))
        generalize fld h l k = v at *
        clear Hfk HDrop HLen hn
        go_wp2_with fail
        go_roundw
        case rel => exact ⟨k + 1, h0, by simp, HN2.out, hB⟩
        case measure => simp [RowKit.intOf]; omega
    · obtain rfl : k = sz := by omega
      have d1 : decide ((k : Int) < (k : Int)) = false := decide_eq_false (by omega)
      have d2 : decide (k < k) = false := decide_eq_false (by omega)
      obtain rfl : N = k := by
        rw [HN.out, ahead_len nl (flds h l) k HPre.out (by rw [HFL.out]; exact hk), List.drop_of_length_le (by rw [HFL.out]; exact Nat.le_refl _)]; rfl
      go_wp2_with fail
      refine (HS.out _ hB).mono ?_
      rintro e V3 ⟨rfl, hb⟩
      (try dsimp only)
      replace hB := hB.trans (hb.mono hB.size)
      clear hb
      go_wp2_with fail
      go_ret
      exact ⟨rfl, hB⟩
end
end Go.Proofs.YteiikhcadjdkcaaGreatDoor
namespace Go.Proofs.YteiikhcadjdkcaaGreatDoor
open Go Go.RowKit Limb
section
variable {w : World} {F : Foot} {h : Hp}
set_option maxRecDepth 100000 in
theorem prim_closed_no (H : HeapAt w F h) (S : SC h) {p r : Nat} {a : Option Addr} {n c v : Nat} (R : Row w p 57 (callC F.p r a n c v)) {o : Nat} {t : List Nat} (b : Bs h o (wd h.rt 19) t) :
    Calls Tryz.prog 210 #[.pointer (some ⟨p, 0, none⟩), .int .u32 o] w fun e w' => e = .returned (.bool false) ∧ Below w.heap.size w w' := by
  have H1 := Lib.hid (prim_of_no (i := 18) H R b.is (by decide) (by rw [b.cls]; exact S.d18))
  have H2 := Lib.hid (fun X (hb : Below w.heap.size w X) => prim_of_no (i := 17) (H.below hb) (R.below hb R.lt) b.is (by decide) (by rw [b.cls]; exact S.d17))
  have H3 := Lib.hid (fun X (hb : Below w.heap.size w X) => prim_isClass_no (H.below hb) S (R.below hb R.lt) b)
  clear H S R b
  go_enter Tryz.func210, Tryz.ntmps210
  go_wp2_with fail
  refine (H1.out).mono ?_
  rintro e V1 ⟨rfl, hb⟩
  (try dsimp only)
  have HB := Lib.hid hb
  clear hb H1
  go_wp2_with fail
  refine (H2.out _ HB.out).mono ?_
  rintro e V2 ⟨rfl, hb⟩
  (try dsimp only)
  have HB2 := Lib.hid (HB.out.trans (hb.mono HB.out.size))
  clear hb H2 HB
  go_wp2_with fail
  refine (H3.out _ HB2.out).mono ?_
  rintro e V3 ⟨rfl, hb⟩
  (try dsimp only)
  have HB3 := Lib.hid (HB2.out.trans (hb.mono HB2.out.size))
  clear hb H3 HB2
  go_wp2_with fail
  go_ret
  exact ⟨rfl, HB3.out⟩
set_option maxHeartbeats 3200000 in
set_option maxRecDepth 100000 in
theorem prim_indexed (H : HeapAt w F h) (S : SC h) {p r : Nat} {a : Option Addr} {n c v : Nat} (R : Row w p 57 (callC F.p r a n c v)) {o : Nat} {t : List Nat} (b : Bs h o (wd h.rt 19) t) (hl : t.length ≤ 262140) {x0 x1 x2 x3 x4 : Nat} (hx : hdO h o = ⟨x0, x1, x2, x3, x4⟩) :
    Calls Tryz.prog 107 #[.pointer (some ⟨p, 0, none⟩), .int .u32 o] w fun e w' => e = .returned (.tuple #[.agg #[.int .i64 x0, .int .i64 2, .int .i64 x2, .int .u32 x3, .int .u32 x4], .int .i64 0, .int .i64 t.length, .bool true]) ∧ Below w.heap.size w w' := by
  obtain ⟨W, hW, r0, hB, hz⟩ := alloc_row w 102 [.int .i64 0, .int .i64 0, .int .i64 0, .int .u32 0, .int .u32 0]
  have HW := Lib.hid hW
  have HHd := Lib.hid (prim_header (H.below hB) (R.below hB R.lt) b.is hx)
  obtain rfl : x1 = 2 := by have := b.fmt; rw [hx] at this; exact this
  have hc : x3 = wd h.rt 19 := by have := b.cls; rw [hx] at this; exact this
  have HFm := Lib.hid (fun X (hb : Below w.heap.size w X) => show Calls Tryz.prog 213 #[.pointer (some ⟨F.p, 0, none⟩), .int .u32 (x3 : Nat)] X fun e w' => e = .returned (.tuple #[.agg #[.int .i64 2, .int .i64 0, .bool true], .int .i64 0]) ∧ Below X.heap.size X w' from by
    rw [hc]; exact kernel_format (H.below hb) S)
  have HLn := Lib.hid (fun X (hb : Below w.heap.size w X) => show Calls Tryz.prog 214 #[.pointer (some ⟨F.p, 0, none⟩), .int .u32 o] X fun e w' => e = .returned (.tuple #[.int .i64 t.length, .int .i64 0]) ∧ Below X.heap.size X w' from by
    have := heap_Length (H.below hb) o (isO_lt H.good b.is)
    rw [(hdX_is b.is).1, (hdX_is b.is).2, b.len] at this
    exact this)
  obtain ⟨g0, hg0⟩ : ∃ g, g = w.heap.size := ⟨_, rfl⟩
  rw [← hg0] at r0
  have Hg0 := Lib.hid hg0
  have R0 := Lib.hid r0
  have HBW := Lib.hid hB
  have HLg := Lib.hid (show w.heap.size ≤ g0 by omega)
  have HR := Lib.hid R
  obtain ⟨tl, htl⟩ : ∃ tl, tl = t.length := ⟨_, rfl⟩
  rw [← htl] at HLn hl ⊢
  clear hW hz H S hg0 r0 hB b hx hc R htl
  go_enter Tryz.func107, Tryz.ntmps107
  obtain ⟨BP, hBP⟩ : ∃ B, bodyPost Tryz.prog Tryz.f107 (fun e w' => e = .returned (.tuple #[.agg #[.int .i64 x0, .int .i64 2, .int .i64 x2, .int .u32 x3, .int .u32 x4], .int .i64 0, .int .i64 tl, .bool true]) ∧ Below w.heap.size w w') = B := ⟨_, rfl⟩
  rw [hBP]
  go_upto_region 1 with fail
  rw [← HW.out, ← Hg0.out]
  go_wp2_with fail
  refine (HHd.out).mono ?_
  rintro e V1 ⟨rfl, hb⟩
  (try dsimp only)
  obtain ⟨V2, hV2, r2, hb2, hz2⟩ := alloc_row V1 102 [.int .i64 x0, .int .i64 2, .int .i64 x2, .int .u32 x3, .int .u32 x4]
  have HV2 := Lib.hid hV2
  have HB2 := Lib.hid (HBW.out.trans ((hb.trans (hb2.mono hb.size)).mono HBW.out.size))
  have R02 := Lib.hid ((R0.out.below hb R0.out.lt).below hb2 (Nat.lt_of_lt_of_le R0.out.lt hb.size))
  obtain ⟨k, hk⟩ : ∃ g, g = V1.heap.size := ⟨_, rfl⟩
  have HGk := Lib.hid (show g0 < k by have := R0.out.lt; have := hb.size; omega)
  rw [← hk] at r2
  have Hk := Lib.hid hk
  have R2 := Lib.hid r2
  clear hV2 hb2 hz2 hb hk HHd r2 R0 HBW
  go_upto_region 4 with fail
  rw [← HV2.out, ← Hk.out]
  have SX := Lib.hid (fun X (hb : Below V2.heap.size V2 X) => show Row X p 57 (callC F.p r a n c v) ∧ Row X k 102 [.int .i64 x0, .int .i64 2, .int .i64 x2, .int .u32 x3, .int .u32 x4] from ⟨(HR.out.below HB2.out HR.out.lt).below hb (Nat.lt_of_lt_of_le HR.out.lt HB2.out.size), R2.out.below hb R2.out.lt⟩)
  go_cut [10, 11] from 10 to 32 (fun s10 s11 wx => ∃ kf, s10 = .pointer (some ⟨kf, 0, none⟩) ∧ s11 = .int .i64 0 ∧ Hid (Below V2.heap.size V2 wx ∧ Row wx kf 85 [.int .i64 2, .int .i64 0, .bool true] ∧ V2.heap.size ≤ kf))
  case first =>
    subst hBP
    obtain ⟨V2d, hVd⟩ : ∃ X, X = V2.drew := ⟨_, rfl⟩
    have HVd := Lib.hid hVd
    have HBc := Lib.hid (show Below V2.heap.size V2 V2d from by rw [hVd]; exact (Below.refl V2.heap.size V2).drew)
    have hX := Lib.hid (SX.out _ HBc.out)
    clear hVd
    go_wp2_with fail
    refine wp_region_held (S := fun X => Hid (Row X p 57 (callC F.p r a n c v) ∧ Row X k 102 [.int .i64 x0, .int .i64 2, .int .i64 x2, .int .u32 x3, .int .u32 x4])) (by kernel_rfl) ?_
    rw [show (World.mk V2.heap V2.tape (V2.drawn + 1) V2.os V2.output) = V2d from HVd.out.symm]
    refine wpAnyH_take_at (i := 0) (v := .pointer (some ⟨p, 0, none⟩)) 24 rfl rfl (by kernel_rfl) (by kernel_rfl) (by kernel_rfl) (fun _ _ _ h => h) (.inl ⟨rfl, fun X hX => by go_simp⟩) hX ?_
    simp only [Act.put, List.setIfInBounds_toArray, List.set_cons_zero, List.set_cons_succ]
    refine wpAnyH_take_at (i := 1) (v := .pointer (some ⟨p, 0, none⟩)) 25 rfl rfl (by kernel_rfl) (by kernel_rfl) (by kernel_rfl) (fun _ _ _ h => h) (.inl ⟨rfl, fun X hX => by go_simp⟩) hX ?_
    simp only [Act.put, List.setIfInBounds_toArray, List.set_cons_zero, List.set_cons_succ]
    refine wpAnyH_take_at (i := 2) (v := .pointer (some ⟨p, 1, none⟩)) 26 rfl rfl (by kernel_rfl) (by kernel_rfl) (by kernel_rfl) (fun _ _ _ h => h) (.inl ⟨rfl, fun X hX => by go_simp⟩) hX ?_
    simp only [Act.put, List.setIfInBounds_toArray, List.set_cons_zero, List.set_cons_succ]
    refine wpAnyH_take_at (i := 3) (v := .pointer (some ⟨F.p, 0, none⟩)) 27 rfl rfl (by kernel_rfl) (by kernel_rfl) (by kernel_rfl) (fun _ _ _ h => h) (.inl ⟨rfl, fun X hX => by have s0 := hX.out.1.cell_at 1; have s1 := hX.out.2.cell_at 3; unfold callC at s0; simp only [List.getElem?_cons_zero, List.getElem?_cons_succ] at s0 s1; go_simp⟩) hX ?_
    simp only [Act.put, List.setIfInBounds_toArray, List.set_cons_zero, List.set_cons_succ]
    refine wpAnyH_take_at (i := 4) (v := .pointer (some ⟨k, 3, none⟩)) 28 rfl rfl (by kernel_rfl) (by kernel_rfl) (by kernel_rfl) (fun _ _ _ h => h) (.inl ⟨rfl, fun X hX => by go_simp⟩) hX ?_
    simp only [Act.put, List.setIfInBounds_toArray, List.set_cons_zero, List.set_cons_succ]
    refine wpAnyH_take_at (i := 5) (v := .int .u32 x3) 29 rfl rfl (by kernel_rfl) (by kernel_rfl) (by kernel_rfl) (fun _ _ _ h => h) (.inl ⟨rfl, fun X hX => by have s0 := hX.out.1.cell_at 1; have s1 := hX.out.2.cell_at 3; unfold callC at s0; simp only [List.getElem?_cons_zero, List.getElem?_cons_succ] at s0 s1; go_simp⟩) hX ?_
    simp only [Act.put, List.setIfInBounds_toArray, List.set_cons_zero, List.set_cons_succ]
    refine wpAnyH_all (rs := [6, 10]) (by kernel_rfl) (by decide) (fun i hi => ?_)
    simp only [List.mem_cons, List.not_mem_nil, or_false] at hi
    rcases hi with rfl | rfl
    · unfold wpOp
      go_simp
      refine .inl ((HFm.out _ (HB2.out.trans (HBc.out.mono HB2.out.size))).mono ?_)
      rintro e X1 ⟨rfl, hb⟩
      (try replace RA := Lib.hid (RA.out.below hb RA.out.lt))
      replace HBc := Lib.hid (HBc.out.trans (hb.mono HBc.out.size))
      clear hX hb
      have hX := Lib.hid (SX.out _ HBc.out)
      refine ⟨hX, ?_⟩
      (try simp only [Act.put, List.setIfInBounds_toArray, List.set_cons_zero, List.set_cons_succ])
      refine wpAnyH_take_at (i := 7) (v := .tuple #[.agg #[.int .i64 2, .int .i64 0, .bool true], .int .i64 0]) 23 rfl rfl (by kernel_rfl) (by kernel_rfl) (by kernel_rfl) (fun _ _ _ h => h) (.inl ⟨rfl, fun X hX => by go_simp⟩) hX ?_
      simp only [Act.put, List.setIfInBounds_toArray, List.set_cons_zero, List.set_cons_succ]
      refine wpAnyH_take_at (i := 8) (v := .agg #[.int .i64 2, .int .i64 0, .bool true]) 31 rfl rfl (by kernel_rfl) (by kernel_rfl) (by kernel_rfl) (fun _ _ _ h => h) (.inl ⟨rfl, fun X hX => by go_simp⟩) hX ?_
      simp only [Act.put, List.setIfInBounds_toArray, List.set_cons_zero, List.set_cons_succ]
      refine wpAnyH_take_at (i := 9) (v := .int .i64 0) 32 rfl rfl (by kernel_rfl) (by kernel_rfl) (by kernel_rfl) (fun _ _ _ h => h) (.inl ⟨rfl, fun X hX => by go_simp⟩) hX ?_
      simp only [Act.put, List.setIfInBounds_toArray, List.set_cons_zero, List.set_cons_succ]
      refine wpAnyH_all (rs := [10]) (by kernel_rfl) (by decide) (fun i hi => ?_)
      rw [List.mem_singleton] at hi
      subst hi
      obtain ⟨X2, hVa, ra, hb, hza⟩ := alloc_row (X1) 85 [.int .i64 0, .int .i64 0, .bool false]
      have HVa := Lib.hid hVa
      obtain ⟨kf, hkf⟩ : ∃ g, g = (X1).heap.size := ⟨_, rfl⟩
      rw [← hkf] at ra
      have Hkf := Lib.hid hkf
      have HKf := Lib.hid (show V2.heap.size ≤ kf from hkf ▸ HBc.out.size)
      have RA := Lib.hid ra
      replace HBc := Lib.hid (HBc.out.trans (hb.mono HBc.out.size))
      clear hX hVa ra hb hza hkf
      have hX := Lib.hid (SX.out _ HBc.out)
      unfold wpOp
      go_simp
      rw [← HVa.out, ← Hkf.out]
      refine .inl ⟨hX, ?_⟩
      (try simp only [Act.put, List.setIfInBounds_toArray, List.set_cons_zero, List.set_cons_succ])
      refine wpAnyH_all (rs := [11]) (by kernel_rfl) (by decide) (fun i hi => ?_)
      rw [List.mem_singleton] at hi
      subst hi
      have z0 := RA.out.free 0
      have z1 := RA.out.free 1
      have z2 := RA.out.free 2
      obtain ⟨y0, y1, y2⟩ := RA.out.cells3
      have RE := Lib.hid (store3 RA.out (.int .i64 2) (.int .i64 0) (.bool true))
      have HBs := Lib.hid (below_store3 HBc.out HKf.out (.int .i64 2) (.int .i64 0) (.bool true))
      unfold wpOp
      go_simp
      obtain ⟨X3, hXs⟩ : ∃ X, X = ((X2.setCell ⟨kf, 0, none⟩ (.int .i64 2)).setCell ⟨kf, 1, none⟩ (.int .i64 0)).setCell ⟨kf, 2, none⟩ (.bool true) := ⟨_, rfl⟩
      rw [← hXs]
      have re := RE.out
      have bs := HBs.out
      rw [← hXs] at re bs
      have RE := Lib.hid re
      have HBs := Lib.hid bs
      clear hX y0 y1 y2 z0 z1 z2 re bs hXs
      have hX := Lib.hid (SX.out _ HBs.out)
      refine .inl ⟨hX, ?_⟩
      (try simp only [Act.put, List.setIfInBounds_toArray, List.set_cons_zero, List.set_cons_succ])
      refine wpAnyH_take_at (i := 12) (v := .int .i64 0) 11 rfl rfl (by kernel_rfl) (by kernel_rfl) (by kernel_rfl) (fun _ _ _ h => h) (.inl ⟨rfl, fun X hX => by go_simp⟩) hX ?_
      simp only [Act.put, List.setIfInBounds_toArray, List.set_cons_zero, List.set_cons_succ]
      refine wpAnyH_done (by kernel_rfl) ?_ _
      clear hX
      go_wp2_with fail
      go_meet
      exact ⟨_, rfl, rfl, Lib.hid ⟨HBs.out, RE.out, HKf.out⟩⟩
    · obtain ⟨X4, hVa, ra, hb, hza⟩ := alloc_row (V2d) 85 [.int .i64 0, .int .i64 0, .bool false]
      have HVa := Lib.hid hVa
      obtain ⟨kf, hkf⟩ : ∃ g, g = (V2d).heap.size := ⟨_, rfl⟩
      rw [← hkf] at ra
      have Hkf := Lib.hid hkf
      have HKf := Lib.hid (show V2.heap.size ≤ kf from hkf ▸ HBc.out.size)
      have RA := Lib.hid ra
      replace HBc := Lib.hid (HBc.out.trans (hb.mono HBc.out.size))
      clear hX hVa ra hb hza hkf
      have hX := Lib.hid (SX.out _ HBc.out)
      unfold wpOp
      go_simp
      rw [← HVa.out, ← Hkf.out]
      refine .inl ⟨hX, ?_⟩
      (try simp only [Act.put, List.setIfInBounds_toArray, List.set_cons_zero, List.set_cons_succ])
      refine wpAnyH_all (rs := [6]) (by kernel_rfl) (by decide) (fun i hi => ?_)
      rw [List.mem_singleton] at hi
      subst hi
      unfold wpOp
      go_simp
      refine .inl ((HFm.out _ (HB2.out.trans (HBc.out.mono HB2.out.size))).mono ?_)
      rintro e X5 ⟨rfl, hb⟩
      (try replace RA := Lib.hid (RA.out.below hb RA.out.lt))
      replace HBc := Lib.hid (HBc.out.trans (hb.mono HBc.out.size))
      clear hX hb
      have hX := Lib.hid (SX.out _ HBc.out)
      refine ⟨hX, ?_⟩
      (try simp only [Act.put, List.setIfInBounds_toArray, List.set_cons_zero, List.set_cons_succ])
      refine wpAnyH_take_at (i := 7) (v := .tuple #[.agg #[.int .i64 2, .int .i64 0, .bool true], .int .i64 0]) 23 rfl rfl (by kernel_rfl) (by kernel_rfl) (by kernel_rfl) (fun _ _ _ h => h) (.inl ⟨rfl, fun X hX => by go_simp⟩) hX ?_
      simp only [Act.put, List.setIfInBounds_toArray, List.set_cons_zero, List.set_cons_succ]
      refine wpAnyH_take_at (i := 8) (v := .agg #[.int .i64 2, .int .i64 0, .bool true]) 31 rfl rfl (by kernel_rfl) (by kernel_rfl) (by kernel_rfl) (fun _ _ _ h => h) (.inl ⟨rfl, fun X hX => by go_simp⟩) hX ?_
      simp only [Act.put, List.setIfInBounds_toArray, List.set_cons_zero, List.set_cons_succ]
      refine wpAnyH_take_at (i := 9) (v := .int .i64 0) 32 rfl rfl (by kernel_rfl) (by kernel_rfl) (by kernel_rfl) (fun _ _ _ h => h) (.inl ⟨rfl, fun X hX => by go_simp⟩) hX ?_
      simp only [Act.put, List.setIfInBounds_toArray, List.set_cons_zero, List.set_cons_succ]
      refine wpAnyH_all (rs := [11]) (by kernel_rfl) (by decide) (fun i hi => ?_)
      rw [List.mem_singleton] at hi
      subst hi
      have z0 := RA.out.free 0
      have z1 := RA.out.free 1
      have z2 := RA.out.free 2
      obtain ⟨y0, y1, y2⟩ := RA.out.cells3
      have RE := Lib.hid (store3 RA.out (.int .i64 2) (.int .i64 0) (.bool true))
      have HBs := Lib.hid (below_store3 HBc.out HKf.out (.int .i64 2) (.int .i64 0) (.bool true))
      unfold wpOp
      go_simp
      obtain ⟨X6, hXs⟩ : ∃ X, X = ((X5.setCell ⟨kf, 0, none⟩ (.int .i64 2)).setCell ⟨kf, 1, none⟩ (.int .i64 0)).setCell ⟨kf, 2, none⟩ (.bool true) := ⟨_, rfl⟩
      rw [← hXs]
      have re := RE.out
      have bs := HBs.out
      rw [← hXs] at re bs
      have RE := Lib.hid re
      have HBs := Lib.hid bs
      clear hX y0 y1 y2 z0 z1 z2 re bs hXs
      have hX := Lib.hid (SX.out _ HBs.out)
      refine .inl ⟨hX, ?_⟩
      (try simp only [Act.put, List.setIfInBounds_toArray, List.set_cons_zero, List.set_cons_succ])
      refine wpAnyH_take_at (i := 12) (v := .int .i64 0) 11 rfl rfl (by kernel_rfl) (by kernel_rfl) (by kernel_rfl) (fun _ _ _ h => h) (.inl ⟨rfl, fun X hX => by go_simp⟩) hX ?_
      simp only [Act.put, List.setIfInBounds_toArray, List.set_cons_zero, List.set_cons_succ]
      refine wpAnyH_done (by kernel_rfl) ?_ _
      clear hX
      go_wp2_with fail
      go_meet
      exact ⟨_, rfl, rfl, Lib.hid ⟨HBs.out, RE.out, HKf.out⟩⟩
  case rest =>
  obtain ⟨kf, rfl, rfl, HX⟩ := hcut
  have HB3 := Lib.hid (HB2.out.trans (HX.out.1.mono HB2.out.size))
  have RF := Lib.hid HX.out.2.1
  have HKf := Lib.hid HX.out.2.2
  have R3 := Lib.hid (R2.out.below HX.out.1 R2.out.lt)
  have R03 := Lib.hid (R02.out.below HX.out.1 R02.out.lt)
  obtain ⟨y0, y1, y2⟩ := RF.out.cells3
  obtain ⟨k0, k1, k2, k3, k4⟩ := R3.out.cells5
  have q1 := (HR.out.below HB3.out HR.out.lt).cell_at 1
  unfold callC at q1
  simp only [List.getElem?_cons_zero, List.getElem?_cons_succ] at q1
  have HGf := Lib.hid (show g0 < kf from Nat.lt_of_lt_of_le R02.out.lt HX.out.2.2)
  have HWl := Lib.hid (show IntKind.i64.wrap (tl : Int) = tl from i64_self (by omega) (by omega))
  clear SX HFm R2 R02 HX HB2
  go_wp2_with fail
  refine (HLn.out _ HB3.out).mono ?_
  rintro e V4 ⟨rfl, hb⟩
  (try dsimp only)
  have HB4 := Lib.hid (HB3.out.trans (hb.mono HB3.out.size))
  have R4 := Lib.hid (R3.out.below hb R3.out.lt)
  have RF4 := Lib.hid (RF.out.below hb RF.out.lt)
  have R04 := Lib.hid (R03.out.below hb R03.out.lt)
  clear hb y0 y1 y2 k0 k1 k2 k3 k4 q1 HLn R3 RF R03 HB3
  obtain ⟨V4d, hVd⟩ : ∃ X, X = V4.drew := ⟨_, rfl⟩
  have HVd := Lib.hid hVd
  have hb4 : Below V4.heap.size V4 V4d := by rw [hVd]; exact (Below.refl V4.heap.size V4).drew
  have HB4 := Lib.hid (HB4.out.trans (hb4.mono HB4.out.size))
  have R04 := Lib.hid (R04.out.below hb4 R04.out.lt)
  have hX := Lib.hid (And.intro (RF4.out.below hb4 RF4.out.lt) (R4.out.below hb4 R4.out.lt))
  clear hVd hb4 R4 RF4
  obtain ⟨p0, p1, p2, p3, p4⟩ := R04.out.cells5
  have z0 := R04.out.free 0
  have z1 := R04.out.free 1
  have z2 := R04.out.free 2
  have z3 := R04.out.free 3
  have z4 := R04.out.free 4
  have d1 : decide ((0 : Int) ≤ (tl : Int)) = true := decide_eq_true (by omega)
  obtain ⟨f0, f1, f2, f3, f4⟩ := Row.cells5 (store5 R04.out (.int .i64 x0) (.int .i64 2) (.int .i64 x2) (.int .u32 x3) (.int .u32 x4))
  have HO := Lib.hid ((((((Only.refl [g0] V4d).setCell (a := ⟨g0, 0, none⟩) (by simp) (.int .i64 x0 : Value)).setCell (a := ⟨g0, 1, none⟩) (by simp) (.int .i64 2 : Value)).setCell (a := ⟨g0, 2, none⟩) (by simp) (.int .i64 x2 : Value)).setCell (a := ⟨g0, 3, none⟩) (by simp) (.int .u32 x3 : Value)).setCell (a := ⟨g0, 4, none⟩) (by simp) (.int .u32 x4 : Value))
  have HE := Lib.hid (below_store5 HB4.out HLg.out (.int .i64 x0) (.int .i64 2) (.int .i64 x2) (.int .u32 x3) (.int .u32 x4))
  subst hBP
  go_wp2_with fail
  refine wp_region_held (S := fun X => Hid (Row X kf 85 [.int .i64 2, .int .i64 0, .bool true] ∧ Row X k 102 [.int .i64 x0, .int .i64 2, .int .i64 x2, .int .u32 x3, .int .u32 x4])) (by kernel_rfl) ?_
  rw [show (World.mk V4.heap V4.tape (V4.drawn + 1) V4.os V4.output) = V4d from HVd.out.symm]
  refine wpAnyH_take_at (i := 0) (v := .agg #[.int .i64 x0, .int .i64 2, .int .i64 x2, .int .u32 x3, .int .u32 x4]) 57 rfl rfl (by kernel_rfl) (by kernel_rfl) (by kernel_rfl) (fun _ _ _ h => h) (.inl ⟨rfl, fun X hX => by obtain ⟨y0, y1, y2⟩ := hX.out.1.cells3; obtain ⟨k0, k1, k2, k3, k4⟩ := hX.out.2.cells5; go_simp⟩) hX ?_
  simp only [Act.put, List.setIfInBounds_toArray, List.set_cons_zero, List.set_cons_succ]
  refine wpAnyH_take_at (i := 1) (v := .pointer (some ⟨kf, 1, none⟩)) 58 rfl rfl (by kernel_rfl) (by kernel_rfl) (by kernel_rfl) (fun _ _ _ h => h) (.inl ⟨rfl, fun X hX => by go_simp⟩) hX ?_
  simp only [Act.put, List.setIfInBounds_toArray, List.set_cons_zero, List.set_cons_succ]
  refine wpAnyH_take_at (i := 2) (v := .int .i64 0) 59 rfl rfl (by kernel_rfl) (by kernel_rfl) (by kernel_rfl) (fun _ _ _ h => h) (.inl ⟨rfl, fun X hX => by obtain ⟨y0, y1, y2⟩ := hX.out.1.cells3; obtain ⟨k0, k1, k2, k3, k4⟩ := hX.out.2.cells5; go_simp⟩) hX ?_
  simp only [Act.put, List.setIfInBounds_toArray, List.set_cons_zero, List.set_cons_succ]
  refine wpAnyH_take_at (i := 3) (v := .int .i64 tl) 60 rfl rfl (by kernel_rfl) (by kernel_rfl) (by kernel_rfl) (fun _ _ _ h => h) (.inl ⟨rfl, fun X hX => by go_simp⟩) hX ?_
  simp only [Act.put, List.setIfInBounds_toArray, List.set_cons_zero, List.set_cons_succ]
  refine wpAnyH_take_at (i := 4) (v := .pointer (some ⟨kf, 1, none⟩)) 61 rfl rfl (by kernel_rfl) (by kernel_rfl) (by kernel_rfl) (fun _ _ _ h => h) (.inl ⟨rfl, fun X hX => by go_simp⟩) hX ?_
  simp only [Act.put, List.setIfInBounds_toArray, List.set_cons_zero, List.set_cons_succ]
  refine wpAnyH_take_at (i := 5) (v := .int .i64 0) 62 rfl rfl (by kernel_rfl) (by kernel_rfl) (by kernel_rfl) (fun _ _ _ h => h) (.inl ⟨rfl, fun X hX => by obtain ⟨y0, y1, y2⟩ := hX.out.1.cells3; obtain ⟨k0, k1, k2, k3, k4⟩ := hX.out.2.cells5; go_simp⟩) hX ?_
  simp only [Act.put, List.setIfInBounds_toArray, List.set_cons_zero, List.set_cons_succ]
  refine wpAnyH_take_at (i := 6) (v := .int .i64 tl) 63 rfl rfl (by kernel_rfl) (by kernel_rfl) (by kernel_rfl) (fun _ _ _ h => h) (.inl ⟨rfl, fun X hX => by go_simp; exact HWl.out⟩) hX ?_
  simp only [Act.put, List.setIfInBounds_toArray, List.set_cons_zero, List.set_cons_succ]
  refine wpAnyH_take_at (i := 7) (v := .int .i64 tl) 64 rfl rfl (by kernel_rfl) (by kernel_rfl) (by kernel_rfl) (fun _ _ _ h => h) (.inl ⟨rfl, fun X hX => by go_simp⟩) hX ?_
  simp only [Act.put, List.setIfInBounds_toArray, List.set_cons_zero, List.set_cons_succ]
  refine wpAnyH_take_at (i := 8) (v := .pointer (some ⟨kf, 1, none⟩)) 65 rfl rfl (by kernel_rfl) (by kernel_rfl) (by kernel_rfl) (fun _ _ _ h => h) (.inl ⟨rfl, fun X hX => by go_simp⟩) hX ?_
  simp only [Act.put, List.setIfInBounds_toArray, List.set_cons_zero, List.set_cons_succ]
  refine wpAnyH_take_at (i := 9) (v := .int .i64 0) 66 rfl rfl (by kernel_rfl) (by kernel_rfl) (by kernel_rfl) (fun _ _ _ h => h) (.inl ⟨rfl, fun X hX => by obtain ⟨y0, y1, y2⟩ := hX.out.1.cells3; obtain ⟨k0, k1, k2, k3, k4⟩ := hX.out.2.cells5; go_simp⟩) hX ?_
  simp only [Act.put, List.setIfInBounds_toArray, List.set_cons_zero, List.set_cons_succ]
  refine wpAnyH_take_at (i := 10) (v := .bool true) 67 rfl rfl (by kernel_rfl) (by kernel_rfl) (by kernel_rfl) (fun _ _ _ h => h) (.inl ⟨rfl, fun X hX => by go_simp⟩) hX ?_
  simp only [Act.put, List.setIfInBounds_toArray, List.set_cons_zero, List.set_cons_succ]
  refine wpAnyH_all (rs := [11]) (by kernel_rfl) (by decide) (fun i hi => ?_)
  rw [List.mem_singleton] at hi
  subst hi
  have hX5 := Lib.hid (And.intro (hX.out.1.only HO.out (by have := HGf.out; simp; omega)) (hX.out.2.only HO.out (by have := HGk.out; simp; omega)))
  have HX5 := Lib.hid hX5
  clear hX hX5
  unfold wpOp
  go_simp
  refine .inl ⟨HX5.out, ?_⟩
  have hX := HX5.out
  (try simp only [Act.put, List.setIfInBounds_toArray, List.set_cons_zero, List.set_cons_succ])
  refine wpAnyH_take_at (i := 12) (v := .int .i64 0) 5 rfl rfl (by kernel_rfl) (by kernel_rfl) (by kernel_rfl) (fun _ _ _ h => h) (.inl ⟨rfl, fun X hX => by go_simp⟩) hX ?_
  simp only [Act.put, List.setIfInBounds_toArray, List.set_cons_zero, List.set_cons_succ]
  refine wpAnyH_take_at (i := 13) (v := .int .i64 tl) 6 rfl rfl (by kernel_rfl) (by kernel_rfl) (by kernel_rfl) (fun _ _ _ h => h) (.inl ⟨rfl, fun X hX => by go_simp⟩) hX ?_
  simp only [Act.put, List.setIfInBounds_toArray, List.set_cons_zero, List.set_cons_succ]
  refine wpAnyH_take_at (i := 14) (v := .bool true) 7 rfl rfl (by kernel_rfl) (by kernel_rfl) (by kernel_rfl) (fun _ _ _ h => h) (.inl ⟨rfl, fun X hX => by go_simp⟩) hX ?_
  simp only [Act.put, List.setIfInBounds_toArray, List.set_cons_zero, List.set_cons_succ]
  refine wpAnyH_done (by kernel_rfl) ?_ _
  clear hX HX5
  go_wp2_with fail
  (try simp only [Exit.inBlock, Exit.then])
  exact bodyPost_ret (v := .tuple #[.agg #[.int .i64 x0, .int .i64 2, .int .i64 x2, .int .u32 x3, .int .u32 x4], .int .i64 0, .int .i64 tl, .bool true]) (by simp [results, Tryz.results107, go_sem, f0, f1, f2, f3, f4]) rfl ⟨rfl, HE.out⟩
end
end Go.Proofs.YteiikhcadjdkcaaGreatDoor
namespace Go.Proofs.YteiikhcadjdkcaaGreatDoor
open Go Go.RowKit Go.Maps Limb
set_option maxRecDepth 100000 in
theorem prim_alone (w : World) (n : Nat) (h1 : 1 ≤ n) (h2 : n ≤ 19) : Calls Tryz.prog 26 #[.int .i64 n] w fun e w' => e = .returned (.bool true) ∧ Below w.heap.size w w' := by
  obtain ⟨V, hV, rv, hbv, hzv⟩ := alloc_row w 46 [.int .i64 1, .int .i64 19, .int .i64 40, .int .i64 56, .int .i64 60, .int .i64 64, .int .i64 75, .int .i64 75, .int .i64 85, .int .i64 87, .int .i64 92, .int .i64 92, .int .i64 122, .int .i64 126]
  have d1 : decide ((1 : Int) ≤ (n : Int)) = true := decide_eq_true (by omega)
  have d2 : decide ((n : Int) ≤ 19) = true := decide_eq_true (by omega)
  have d3 : decide (1 ≤ n) = true := decide_eq_true h1
  have d4 : decide (n ≤ 19) = true := decide_eq_true h2
  have c0 := rv.cell_at 0
  have c1 := rv.cell_at 1
  have ix := fun W => idx_spans W w.heap.size 0 (by decide)
  simp only [List.getElem?_cons_zero, List.getElem?_cons_succ] at c0 c1
  have HV := Lib.hid hV
  have HB := Lib.hid hbv
  clear hV rv hbv hzv h1 h2
  go_enter Tryz.func26, Tryz.ntmps26
  go_wp2_with fail
  rw [← HV.out]
  go_loopw [14] (fun i wr => i = .int .i64 0 ∧ V = wr) (fun _ _ => 0)
  case atStart => exact ⟨rfl, rfl⟩
  case round =>
    obtain ⟨rfl, rfl⟩ := hrel
    go_wp2_with fail
    go_ret
    exact ⟨rfl, HB.out.alloc HB.out.size _⟩
def Rule (F : Foot) (h : Hp) (r q : Nat) (R : Option Nat) (X : World) (f : FuncId) (caps : Array Value) : Prop :=
  (∀ args w, (callFunc f args).run Tryz.prog w = .ok (.enter f args) w) ∧ ∀ Y p ga, Below X.heap.size X Y → HeapAt Y F h → Row Y p 57 (callC F.p r (some ⟨ga, 0, none⟩) 1 1 0) → Row Y ga 30 [.int .u32 (q : Nat)] →
    Calls Tryz.prog f (#[.pointer (some ⟨p, 0, none⟩)] ++ caps) Y fun e Y' => RuleRes R F.p p r ga Y Y' e
theorem find_ent {n : Int} {v : Value} : ∀ {l : List (Int × Value)}, (l.map (·.1)).Nodup → (n, v) ∈ l → (encL l).find? (fun p => p.1.sameKey (.int .i64 n)) = some (.int .i64 n, .held v)
  | [], _, h => by cases h
  | a :: l, hn, h => by
    rw [List.map_cons, List.nodup_cons] at hn
    rcases List.mem_cons.1 h with rfl | h
    · exact List.find?_cons_of_pos (WideAt.sameKey_self trivial)
    · have hne : a.1 ≠ n := fun e => hn.1 (by rw [e]; exact List.mem_map.2 ⟨_, h, rfl⟩)
      show List.find? _ ((.int .i64 a.1, .held a.2) :: encL l) = _
      rw [List.find?_cons_of_neg (by
        intro hs
        have := WideAt.sameKey_eq hs
        simp only [Lit.int.injEq, true_and] at this
        exact hne this)]
      exact find_ent hn.2 h
theorem zero_ent (W : World) : (zeroValue 64).run Tryz.prog W = .ok (.agg #[.int .i64 0, .nilFunc]) W := by kernel_rfl
theorem look_ent {w W : World} {b : Nat} {l : List (Int × Value)} (h : OwnM w W b l) (hk : l.map (·.1) = upK 5) {n : Nat} (hn : n ≤ 1000) {v : Value} (hm : ((n : Int), v) ∈ l) :
    (Instr.lookup 66 (.map (some b)) (.int .i64 n) true).run Tryz.prog W = .ok (.tuple #[v, .bool true]) W := by
  obtain ⟨k1, k2, k3⟩ := ksOk_parts hk (upK_ok 5 (Nat.le_refl _))
  obtain ⟨es, clock, hb, Ft, _, hD⟩ := h.2.1
  have hat : ∀ zd, (putsD l).atKey (.int .i64 n) zd = .held v := fun zd => by
    rw [putsD_fold, atKey_foldPut _ _ _ _ isMap_empty (encL_lit l) (encL_apart k2), find_ent k2 hm]
  rw [hD] at hat
  rcases Maps.fit_look true keyed_int Tryz.underlying66 (zero_ent W) hb Ft (key_int (n := (n : Int)) (wf64 (by omega) (by omega))) with ⟨_, _, hz⟩ | ⟨e0, y, _, _, hrun, hRv, hz, _⟩
  · have := (hz .nil).symm.trans (hat .nil); cases this
  · obtain ⟨c, hc⟩ := heldR_inv _ _ hRv
    rw [hc, heldR_ent] at hRv
    obtain rfl := Option.some.inj hRv
    have e := (hz .nil).symm.trans (hat .nil)
    rw [hc, DataW.held.inj e] at hrun
    exact hrun
section
variable {w : World} {F : Foot} {h : Hp}
set_option maxHeartbeats 6400000 in
set_option maxRecDepth 1000000 in
theorem prim_data (H : HeapAt w F h) (n r q ga : Nat) (A : Row w ga 30 [.int .u32 (q : Nat)]) (h1 : 1 ≤ n) (h2 : n ≤ 19) (hr : r % 2 = 1) (hr2 : r < 4294967296) (hq : q % 2 = 1) (hq2 : q < 4294967296) (R : Option Nat)
    (HT : ∀ X, Below w.heap.size w X → Calls Tryz.prog 25 #[] X fun e X' => ∃ b l f caps, e = .returned (.map (some b)) ∧ OwnM X X' b l ∧ l.map (·.1) = upK 5 ∧ ((n : Int), entV (1, .func f, #[], caps)) ∈ l ∧ Rule F h r q R X' f caps) :
    Calls Tryz.prog 8 #[.pointer (some ⟨F.p, 0, none⟩), .int .i64 n, .int .u32 r, .slice (some ⟨ga, 0, none⟩) 1 1] w fun e w' => e = .returned (.tuple #[.int .u32 (R.getD 0 : Nat), .int .i64 (if R.isSome = true then 1 else 0)]) ∧ Below w.heap.size w w' := by
  obtain ⟨W1, hW1, r1, b1, z1⟩ := alloc_row w 57 [.pointer none, .pointer (some ⟨F.p, 0, none⟩), .int .u32 (r : Nat), .slice (some ⟨ga, 0, none⟩) 1 1, .int .u32 0]
  obtain ⟨W2, hW2, r2, b2, z2⟩ := alloc_row W1 30 [.int .u32 (r : Nat)]
  obtain ⟨i0, hi, hz0, hz1, hz2⟩ := info_parts info_oop
  have A2 := (A.below b1 A.lt).below b2 (Nat.lt_of_lt_of_le A.lt b1.size)
  have sA : Sl W2 ga 30 1 1 (nums .u32 [q]) := A2.sl (n := 1) rfl (by decide)
  obtain ⟨v3, W3, hr3, hg3⟩ := run_sl_append (P := Tryz.prog) (t := 53) (ty := 53) Tryz.underlying53 hi hz0 hz1 hz2 rfl (r2.sl (n := 1) rfl (by decide)) ⟨ga, 0, none⟩ 1 1 (by omega) (nums .u32 [q]) sA.len (news_of sA) (by simp [nums, Value.oneCell']) (by decide) (by decide)
  have ho3 := hg3.only
  obtain ⟨g3, c3, rfl, sl3, hgg, -⟩ := hg3
  have hB3 : Below w.heap.size w W3 := b1.trans ((b2.trans (ho3.belowB (B := W1.heap.size) (by omega) (fun p hp => by rw [List.mem_singleton] at hp; omega))).mono b1.size)
  have R3 : Row W3 w.heap.size 57 [.pointer none, .pointer (some ⟨F.p, 0, none⟩), .int .u32 (r : Nat), .slice (some ⟨ga, 0, none⟩) 1 1, .int .u32 0] := (r1.below b2 r1.lt).only ho3 (by simp; omega)
  have A3 := A.below hB3 A.lt
  have hx0 : W3.cell? ⟨g3, 0, none⟩ = some (.int .u32 (r : Nat)) := sl3.cell (i := 0) (by decide)
  have hx1 : W3.cell? ⟨g3, 1, none⟩ = some (.int .u32 (q : Nat)) := sl3.cell (i := 1) (by decide)
  have HIx := Lib.hid (fun W k (hk : k < 2) => sl3.index 53 Tryz.underlying53 size_oop W .i64 k hk)
  have HK1 := Lib.hid (show Calls Tryz.prog 23 #[.int .u32 r] W3 fun e w' => e = .returned (.int .i64 1) ∧ W3 = w' from by
    have := oop_kind W3 r hr2
    rwa [show kindN r = 1 from by unfold kindN; rw [if_neg (by omega), if_pos hr]] at this)
  have HK2 := Lib.hid (show Calls Tryz.prog 23 #[.int .u32 q] W3 fun e w' => e = .returned (.int .i64 1) ∧ W3 = w' from by
    have := oop_kind W3 q hq2
    rwa [show kindN q = 1 from by unfold kindN; rw [if_neg (by omega), if_pos hq]] at this)
  have HR3 := Lib.hid hr3
  have HW := Lib.hid (show W2 = (w.alloc (.cells #[.pointer none, .pointer (some ⟨F.p, 0, none⟩), .int .u32 (r : Nat), .slice (some ⟨ga, 0, none⟩) 1 1, .int .u32 0] 57)).alloc (.cells #[.int .u32 (r : Nat)] 30) by rw [hW2, hW1])
  have HT3 := Lib.hid (HT W3 hB3)
  have HB := Lib.hid hB3
  have HR := Lib.hid R3
  have HA := Lib.hid A3
  have HH := Lib.hid (H.below hB3)
  have HAl := Lib.hid (fun X => prim_alone X n h1 h2)
  have HN := Lib.hid (show n ≤ 1000 by omega)
  rw [z1] at hr3
  have HR3 := Lib.hid hr3
  clear hW1 r1 b1 z1 hW2 r2 b2 z2 hi hz0 hz1 hz2 A A2 sA sl3 hgg hr3 ho3 hB3 R3 A3 HT H h1 h2 hr hr2 hq hq2
  go_enter Tryz.func8, Tryz.ntmps8
  go_wp2_with (at_builtin; (try rw [← HW.out]); refine Lib.wpList_append_run _ rfl _ _ _ _ rfl _ _ rfl rfl _ _ HR3.out ?_)
  clear HW HR3
  go_loopw [26] (fun i wr => ∃ k : Nat, k ≤ 2 ∧ i = .int .i64 k ∧ W3 = wr) (fun i _ => 2 - (RowKit.intOf i).toNat)
  case atStart => exact ⟨0, by decide, rfl, rfl⟩
  case round =>
    obtain ⟨k, hk, rfl, rfl⟩ := hrel
    have hc : k = 0 ∨ k = 1 ∨ k = 2 := by omega
    rcases hc with rfl | rfl | rfl
    · have ix := fun W => HIx.out W 0 (by decide)
      go_wp2_with fail
      refine HK1.out.mono ?_
      rintro e V ⟨rfl, rfl⟩
      (try dsimp only)
      go_wp2_with fail
      go_roundw
      case rel => exact ⟨1, by decide, by simp, by first | rfl | trivial⟩
      case measure => decide
    · have ix := fun W => HIx.out W 1 (by decide)
      go_wp2_with fail
      refine HK2.out.mono ?_
      rintro e V ⟨rfl, rfl⟩
      (try dsimp only)
      go_wp2_with fail
      go_roundw
      case rel => exact ⟨2, by decide, by simp, by first | rfl | trivial⟩
      case measure => decide
    · rw [show ((2 : Nat) : Int) = 2 from rfl]
      clear hx0 hx1 HIx HK1 HK2
      go_wp2_with fail
      refine HT3.out.mono ?_
      rintro e X ⟨b, l, f, caps, rfl, hO, hkl, hm, eF, hRu⟩
      (try dsimp only)
      have hlk := look_ent hO hkl HN.out hm
      unfold entV at hlk
      have hbX := hO.2.2
      obtain ⟨Y, hY, ry, hby, hzy⟩ := alloc_row X 64 [.int .i64 1, .nilFunc]
      have q1' := ry.cell_at 1
      have f1' := ry.free 1
      have s1 := ry.store_any 1 (.func (.func f) #[] caps)
      have e0 := s1.cell_at 0
      have e1 := s1.cell_at 1
      simp only [List.set_cons_zero, List.set_cons_succ, List.getElem?_cons_zero, List.getElem?_cons_succ] at q1' e0 e1
      obtain ⟨Z, hZ⟩ : ∃ Z, Z = Y.setCell ⟨X.heap.size, 1, none⟩ (.func (.func f) #[] caps) := ⟨_, rfl⟩
      have hst : (store ⟨X.heap.size, 1, none⟩ (.func (.func f) #[] caps)).run Tryz.prog Y = .ok () Z := by rw [hZ]; simp [store, Sem.run, q1', f1']
      have hbz : Below X.heap.size X Z := by rw [hZ]; exact hby.setCell (by simp) _
      rw [← hZ] at e0 e1 s1
      rw [hY] at hst
      have HS1 := Lib.hid s1
      have HBZ := Lib.hid hbz
      have HRu := Lib.hid hRu
      have HBX := Lib.hid (HB.out.trans (hbX.mono HB.out.size))
      have HXs := Lib.hid (show w.heap.size < X.heap.size from Nat.lt_of_lt_of_le HR.out.lt hbX.size)
      have HRX := Lib.hid (HR.out.below hbX HR.out.lt)
      have HAX := Lib.hid (HA.out.below hbX HA.out.lt)
      have HHX := Lib.hid (HH.out.below hbX)
      clear hZ hbz hO hkl hm hRu hY ry hby hzy q1' f1' s1 hbX HR HA HH HT3
      go_wp2_with fail
      refine (HAl.out _).mono ?_
      rintro e V ⟨rfl, hb⟩
      (try dsimp only)
      have s2 := HS1.out.below hb HS1.out.lt
      have e0 := s2.cell_at 0
      have e1 := s2.cell_at 1
      simp only [List.set_cons_zero, List.set_cons_succ, List.getElem?_cons_zero, List.getElem?_cons_succ] at e0 e1
      have hbv := HBZ.out.trans (hb.mono HBZ.out.size)
      have HCall := Lib.hid (HRu.out V w.heap.size ga hbv (HHX.out.below hbv) (HRX.out.below hbv HRX.out.lt) (HAX.out.below hbv HAX.out.lt))
      have HBV := Lib.hid (HBX.out.trans (hbv.mono HBX.out.size))
      clear s2 hb hbv HS1 HBZ HRu HRX HAX HHX hst hlk HAl HN HBX
      cases R with
      | none =>
        go_wp2_with fail
        refine HCall.out.mono ?_
        rintro e U ⟨rfl, ho⟩
        (try dsimp only)
        have HBU := Lib.hid (HBV.out.trans (ho.belowB HBV.out.size (fun p hp => by rw [List.mem_singleton.1 hp]; exact Nat.le_refl _)))
        clear ho HCall e0 e1
        go_wp2_with fail
        go_ret2
        exact ⟨rfl, HBU.out⟩
      | some s =>
        go_wp2_with fail
        refine HCall.out.mono ?_
        rintro e U ⟨rfl, hru, ho⟩
        (try dsimp only)
        have HBU := Lib.hid (HBV.out.trans (ho.belowB HBV.out.size (fun p hp => by rw [List.mem_singleton.1 hp]; exact Nat.le_refl _)))
        have c4 := hru.cell_at 4
        unfold callC at c4
        simp only [List.getElem?_cons_zero, List.getElem?_cons_succ] at c4
        clear ho hru HCall e0 e1
        go_wp2_with fail
        go_ret2
        exact ⟨rfl, HBU.out⟩
end
end Go.Proofs.YteiikhcadjdkcaaGreatDoor
