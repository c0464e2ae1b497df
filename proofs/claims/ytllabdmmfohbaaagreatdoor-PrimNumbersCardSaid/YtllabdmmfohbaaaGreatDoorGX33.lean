/- The law's closures: does, is, truth; and fits, num. The walk of package kernel's undo, for the functions that it is handed. -/
import Derived.Test.YtllabdmmfohbaaaGreatDoorGX32
import Derived.Test.YtllabdmmfohbaaaGreatDoorGX26
set_option linter.unusedVariables false
set_option linter.unusedSimpArgs false
namespace Go.Proofs.YtllabdmmfohbaaaGreatDoor
open Go Go.RowKit Limb
def clamp (n : Int) : Int := min (max n (-1073741824)) 1073741823
theorem clamp_sm (n : Int) : Sm (clamp n) := by unfold clamp Sm; omega
def isNum (n : Nat) : Prop := (1 ≤ n ∧ n ≤ 7) ∨ (14 ≤ n ∧ n ≤ 17)
theorem ansN_num {h : Hp} {n : Nat} {x y : Int} (hn : isNum n) : ansN h n x y = resO (opN n x y) := by unfold ansN; rw [if_neg (by unfold isNum at hn; omega)]
theorem ansN_cmp {h : Hp} {n : Nat} {x y : Int} (h1 : 8 ≤ n) (h2 : n ≤ 13) : ansN h n x y = some (wd h.rt (if cmpN n x y = true then 1 else 2)) := by unfold ansN; rw [if_pos ⟨h1, h2⟩]
section
variable {w : World} {F : Foot} {h : Hp}
set_option maxRecDepth 100000 in
theorem law_num (w : World) (k : Int) : Calls Tryz.prog 5 #[.int .i64 k] w fun e w' => e = .returned (.int .i64 k) ∧ w = w' := by
  go_enter Tryz.func5, Tryz.ntmps5
  go_wp2_with fail
  go_ret
  exact ⟨rfl, rfl⟩
set_option maxRecDepth 100000 in
theorem law_fits (w : World) (n : Int) : Calls Tryz.prog 7 #[.int .i64 n] w fun e w' => e = .returned (.int .i64 (clamp n)) ∧ w = w' := by
  go_enter Tryz.func7, Tryz.ntmps7
  go_wp2_with fail
  go_ret
  exact ⟨rfl, rfl⟩
set_option maxRecDepth 100000 in
theorem law_small (w : World) {x : Int} (hx : Sm x) : Calls Tryz.prog 10 #[.int .i64 x] w fun e w' => e = .returned (.int .u32 (smallO x : Nat)) ∧ w = w' := by
  have HS := Lib.hid (r_small w x (isSm_iff.2 hx))
  clear hx
  go_enter Tryz.func10, Tryz.ntmps10
  go_wp2_with fail
  refine (HS.out).mono ?_
  rintro e W ⟨rfl, rfl⟩
  (try dsimp only)
  go_wp2_with fail
  go_ret
  exact ⟨rfl, rfl⟩
set_option maxHeartbeats 1600000 in
set_option maxRecDepth 100000 in
theorem law_does (H : HeapAt w F h) {hc : Nat} (RC : Row w hc 22 [.pointer (some ⟨F.p, 0, none⟩)]) {n : Nat} {x y : Int} (hn : isNum n) (hx : Sm x) (hy : Sm y) :
    Calls Tryz.prog 8 #[.int .i64 n, .int .i64 x, .int .i64 y, .pointer (some ⟨hc, 0, none⟩)] w fun e w' => e = .returned (.tuple #[.int .i64 ((resV (opN n x y)).getD 0), .bool (resV (opN n x y)).isSome]) ∧ Below w.heap.size w w' := by
  have SX := Lib.hid (fun X (hb : Below w.heap.size w X) => show X.cell? ⟨hc, 0, none⟩ = some (.pointer (some ⟨F.p, 0, none⟩)) from (RC.below hb RC.lt).cell_at 0)
  have hX := SX.out _ (Below.refl _ _).drew
  have HSx := Lib.hid (fun X => law_small X hx)
  have HSy := Lib.hid (fun X => law_small X hy)
  have HVl := Lib.hid (fun X o (h1 : o < 4294967296) (h2 : o % 2 = 1) => r_value X o h1 h2)
  obtain ⟨oo, hoo⟩ : ∃ oo, oo = (ansN h n x y).getD 0 := ⟨_, rfl⟩
  obtain ⟨kk, hkk⟩ : ∃ kk : Int, kk = (if (ansN h n x y).isSome = true then 1 else 0) := ⟨_, rfl⟩
  have HDt := Lib.hid (fun X ga (hb : Below w.heap.size w X) (A : Row X ga 30 [.int .u32 (smallO y : Nat)]) => show Calls Tryz.prog 9 #[.pointer (some ⟨F.p, 0, none⟩), .int .i64 n, .int .u32 (smallO x : Nat), .slice (some ⟨ga, 0, none⟩) 1 1] X fun e w' => e = .returned (.tuple #[.int .u32 (oo : Nat), .int .i64 kk]) ∧ Below X.heap.size X w' from by
    rw [hoo, hkk]
    exact data_num (H.below hb) A (by unfold isNum at hn; omega) (by unfold isNum at hn; omega) hx hy)
  rw [ansN_num hn] at hoo hkk
  have HO := Lib.hid hoo
  have HK := Lib.hid hkk
  have HVS := Lib.hid (fun z (hz : Sm z) => value_small hz)
  clear RC H hn hoo hkk hx hy
  generalize smallO x = sx at *
  generalize smallO y = sy at *
  go_enter Tryz.func8, Tryz.ntmps8
  go_wp2_with fail
  refine wp_region_held (S := fun X => X.cell? ⟨hc, 0, none⟩ = some (.pointer (some ⟨F.p, 0, none⟩))) (by kernel_rfl) ?_
  refine wpAnyH_take_at (i := 0) (v := .pointer (some ⟨F.p, 0, none⟩)) 12 rfl rfl (by kernel_rfl) (by kernel_rfl) (by kernel_rfl) (fun _ _ _ h => h) (.inl ⟨rfl, fun X hX => by go_simp⟩) hX ?_
  simp only [Act.put, List.setIfInBounds_toArray, List.set_cons_zero, List.set_cons_succ]
  refine wpAnyH_take_at (i := 1) (v := .int .i64 n) 13 rfl rfl (by kernel_rfl) (by kernel_rfl) (by kernel_rfl) (fun _ _ _ h => h) (.inl ⟨rfl, fun X hX => by go_simp⟩) hX ?_
  simp only [Act.put, List.setIfInBounds_toArray, List.set_cons_zero, List.set_cons_succ]
  refine wpAnyH_take_at (i := 2) (v := .int .i64 x) 14 rfl rfl (by kernel_rfl) (by kernel_rfl) (by kernel_rfl) (fun _ _ _ h => h) (.inl ⟨rfl, fun X hX => by go_simp⟩) hX ?_
  simp only [Act.put, List.setIfInBounds_toArray, List.set_cons_zero, List.set_cons_succ]
  refine wpAnyH_take_at (i := 4) (v := .int .i64 y) 16 rfl rfl (by kernel_rfl) (by kernel_rfl) (by kernel_rfl) (fun _ _ _ h => h) (.inl ⟨rfl, fun X hX => by go_simp⟩) hX ?_
  simp only [Act.put, List.setIfInBounds_toArray, List.set_cons_zero, List.set_cons_succ]
  refine wpAnyH_all (rs := [3]) (by kernel_rfl) (by decide) (fun i hi => ?_)
  rw [List.mem_singleton] at hi
  subst hi
  unfold wpOp
  go_simp
  refine .inl ((HSx.out _).mono ?_)
  rintro e X1 ⟨rfl, rfl⟩
  refine ⟨hX, ?_⟩
  (try simp only [Act.put, List.setIfInBounds_toArray, List.set_cons_zero, List.set_cons_succ])
  refine wpAnyH_all (rs := [5]) (by kernel_rfl) (by decide) (fun i hi => ?_)
  rw [List.mem_singleton] at hi
  subst hi
  unfold wpOp
  go_simp
  refine .inl ((HSy.out _).mono ?_)
  rintro e X2 ⟨rfl, rfl⟩
  refine ⟨hX, ?_⟩
  (try simp only [Act.put, List.setIfInBounds_toArray, List.set_cons_zero, List.set_cons_succ])
  refine wpAnyH_all (rs := [6]) (by kernel_rfl) (by decide) (fun i hi => ?_)
  rw [List.mem_singleton] at hi
  subst hi
  obtain ⟨V2, hV2, rv0, hbv, hzv⟩ := alloc_row w 30 [.int .u32 (sy : Nat)]
  have HV2 := Lib.hid hV2
  have rv := rv0.below (Below.refl _ _).drew rv0.lt
  have HBV := Lib.hid (hbv.drew)
  have HI := Lib.hid (HDt.out _ _ HBV.out rv)
  clear hX hV2 hzv rv rv0 hbv
  unfold wpOp
  go_simp
  rw [← show V2 = _ from HV2.out]
  have hX := SX.out _ HBV.out
  refine .inl ⟨hX, ?_⟩
  (try simp only [Act.put, List.setIfInBounds_toArray, List.set_cons_zero, List.set_cons_succ])
  refine wpAnyH_all (rs := [7]) (by kernel_rfl) (by decide) (fun i hi => ?_)
  rw [List.mem_singleton] at hi
  subst hi
  unfold wpOp
  go_simp
  refine .inl ((HI.out).mono ?_)
  rintro e X4 ⟨rfl, hb⟩
  have HB1 := Lib.hid (HBV.out.trans (hb.mono HBV.out.size))
  clear hX hb HI HBV HV2
  have hX := SX.out _ HB1.out
  refine ⟨hX, ?_⟩
  (try simp only [Act.put, List.setIfInBounds_toArray, List.set_cons_zero, List.set_cons_succ])
  refine wpAnyH_take_at (i := 8) (v := .tuple #[.int .u32 (oo : Nat), .int .i64 kk]) 11 rfl rfl (by kernel_rfl) (by kernel_rfl) (by kernel_rfl) (fun _ _ _ h => h) (.inl ⟨rfl, fun X hX => by go_simp⟩) hX ?_
  simp only [Act.put, List.setIfInBounds_toArray, List.set_cons_zero, List.set_cons_succ]
  refine wpAnyH_take_at (i := 9) (v := .int .u32 (oo : Nat)) 20 rfl rfl (by kernel_rfl) (by kernel_rfl) (by kernel_rfl) (fun _ _ _ h => h) (.inl ⟨rfl, fun X hX => by go_simp⟩) hX ?_
  simp only [Act.put, List.setIfInBounds_toArray, List.set_cons_zero, List.set_cons_succ]
  refine wpAnyH_take_at (i := 10) (v := .int .i64 kk) 21 rfl rfl (by kernel_rfl) (by kernel_rfl) (by kernel_rfl) (fun _ _ _ h => h) (.inl ⟨rfl, fun X hX => by go_simp⟩) hX ?_
  simp only [Act.put, List.setIfInBounds_toArray, List.set_cons_zero, List.set_cons_succ]
  refine wpAnyH_take_at (i := 11) (v := .int .u32 (oo : Nat)) 9 rfl rfl (by kernel_rfl) (by kernel_rfl) (by kernel_rfl) (fun _ _ _ h => h) (.inl ⟨rfl, fun X hX => by go_simp⟩) hX ?_
  simp only [Act.put, List.setIfInBounds_toArray, List.set_cons_zero, List.set_cons_succ]
  refine wpAnyH_take_at (i := 12) (v := .int .i64 kk) 10 rfl rfl (by kernel_rfl) (by kernel_rfl) (by kernel_rfl) (fun _ _ _ h => h) (.inl ⟨rfl, fun X hX => by go_simp⟩) hX ?_
  simp only [Act.put, List.setIfInBounds_toArray, List.set_cons_zero, List.set_cons_succ]
  refine wpAnyH_done (by kernel_rfl) ?_ _
  cases hv : resV (opN n x y) with
  | none =>
    have e1 : resO (opN n x y) = none := by unfold resO; rw [hv]; rfl
    have eo := HO.out
    have ek := HK.out
    rw [e1] at eo ek
    replace eo : oo = 0 := eo
    replace ek : kk = 0 := ek
    subst eo ek
    have HVe := Lib.hid hv
    clear HO HK hv e1 hX HDt SX
    go_wp2_with fail
    go_ret2
    rw [HVe.out]
    exact ⟨rfl, HB1.out⟩
  | some z =>
    have e1 : resO (opN n x y) = some (smallO z) := by unfold resO; rw [hv]; rfl
    have eo := HO.out
    have ek := HK.out
    rw [e1] at eo ek
    replace eo : oo = smallO z := eo
    replace ek : kk = 1 := ek
    subst ek
    have h2 : oo % 2 = 1 := by rw [eo]; exact small_odd z
    have h2' : (oo : Int) % 2 = 1 := by omega
    have HV1 := Lib.hid (show Calls Tryz.prog 11 #[.int .u32 oo] X4 fun e w' => e = .returned (.int .i64 z) ∧ X4 = w' from by
      have := HVl.out X4 oo (by rw [eo]; exact small_lt z) h2
      rwa [show valueO oo = z by rw [eo]; exact HVS.out z (resV_inv hv).2] at this)
    have HVe := Lib.hid hv
    clear HO HK hv e1 hX HDt SX HVl HVS eo
    go_wp2_with fail
    refine HV1.out.mono ?_
    rintro e V ⟨rfl, rfl⟩
    (try dsimp only)
    go_wp2_with fail
    go_ret2
    rw [HVe.out]
    exact ⟨rfl, HB1.out⟩
set_option maxHeartbeats 1600000 in
set_option maxRecDepth 100000 in
theorem law_is (H : HeapAt w F h) {hc dc : Nat} (RC : Row w hc 22 [.pointer (some ⟨F.p, 0, none⟩)]) (RD : Row w dc 36 [.func (.func 8) #[] #[.pointer (some ⟨hc, 0, none⟩)]]) {n : Nat} {x y z : Int} (hn : isNum n) (hx : Sm x) (hy : Sm y) (hz : opN n x y = some z) :
    Calls Tryz.prog 12 #[.int .i64 n, .int .i64 x, .int .i64 y, .int .i64 z, .pointer (some ⟨dc, 0, none⟩)] w fun e w' => e = .returned (.bool true) ∧ Below w.heap.size w w' := by
  have c0 := RD.cell_at 0
  simp only [List.getElem?_cons_zero] at c0
  have hD := law_does H RC hn hx hy
  rw [hz] at hD
  have HFt := Lib.hid (fun X => r_fits X z)
  cases hs : isSm z with
  | true =>
    have e1 : resV (some z) = some z := resV_some (isSm_iff.1 hs)
    rw [e1] at hD
    rw [hs] at HFt
    have HD := Lib.hid hD
    clear hD e1 hs RC RD H hn hx hy hz
    go_enter Tryz.func12, Tryz.ntmps12
    go_wp2_with fail
    refine (HD.out).mono ?_
    rintro e W ⟨rfl, hb⟩
    (try dsimp only)
    have HB := Lib.hid hb
    clear hb HD c0
    go_wp2_with fail
    refine (HFt.out _).mono ?_
    rintro e W2 ⟨rfl, rfl⟩
    (try dsimp only)
    go_wp2_with fail
    go_ret
    exact ⟨rfl, HB.out⟩
  | false =>
    have e1 : resV (some z) = none := by unfold resV; simp [hs]
    rw [e1] at hD
    rw [hs] at HFt
    have HD := Lib.hid hD
    clear hD e1 hs RC RD H hn hx hy hz
    go_enter Tryz.func12, Tryz.ntmps12
    go_wp2_with fail
    refine (HD.out).mono ?_
    rintro e W ⟨rfl, hb⟩
    (try dsimp only)
    have HB := Lib.hid hb
    clear hb HD c0
    go_wp2_with fail
    refine (HFt.out _).mono ?_
    rintro e W2 ⟨rfl, rfl⟩
    (try dsimp only)
    go_wp2_with fail
    go_ret
    exact ⟨rfl, HB.out⟩
set_option maxHeartbeats 1600000 in
set_option maxRecDepth 100000 in
theorem law_truth (H : HeapAt w F h) {hc ca cb : Nat} (RC : Row w hc 22 [.pointer (some ⟨F.p, 0, none⟩)]) {n : Nat} {x y : Int} (RA : Row w ca 3 [.int .i64 x]) (RB : Row w cb 3 [.int .i64 y]) (h1 : 8 ≤ n) (h2 : n ≤ 13) (hx : Sm x) (hy : Sm y) :
    Calls Tryz.prog 14 #[.int .i64 n, .bool (cmpN n x y), .pointer (some ⟨hc, 0, none⟩), .pointer (some ⟨ca, 0, none⟩), .pointer (some ⟨cb, 0, none⟩)] w fun e w' => e = .returned (.bool true) ∧ Below w.heap.size w w' := by
  have SX := Lib.hid (fun X (hb : Below w.heap.size w X) => show X.cell? ⟨hc, 0, none⟩ = some (.pointer (some ⟨F.p, 0, none⟩)) ∧ X.cell? ⟨ca, 0, none⟩ = some (.int .i64 x) ∧ X.cell? ⟨cb, 0, none⟩ = some (.int .i64 y) from ⟨(RC.below hb RC.lt).cell_at 0, (RA.below hb RA.lt).cell_at 0, (RB.below hb RB.lt).cell_at 0⟩)
  have hX := SX.out _ (Below.refl _ _).drew
  have HSx := Lib.hid (fun X => law_small X hx)
  have HSy := Lib.hid (fun X => law_small X hy)
  obtain ⟨oo, hoo⟩ : ∃ oo, oo = wd h.rt (if cmpN n x y = true then 1 else 2) := ⟨_, rfl⟩
  obtain ⟨kk, hkk⟩ : ∃ kk : Int, kk = 1 := ⟨_, rfl⟩
  have HDt := Lib.hid (fun X ga (hb : Below w.heap.size w X) (A : Row X ga 30 [.int .u32 (smallO y : Nat)]) => show Calls Tryz.prog 9 #[.pointer (some ⟨F.p, 0, none⟩), .int .i64 n, .int .u32 (smallO x : Nat), .slice (some ⟨ga, 0, none⟩) 1 1] X fun e w' => e = .returned (.tuple #[.int .u32 (oo : Nat), .int .i64 kk]) ∧ Below X.heap.size X w' from by
    have := data_num (H.below hb) A (n := n) (by omega) (by omega) hx hy
    rw [ansN_cmp h1 h2] at this
    rw [hoo, hkk]
    exact this)
  have HR1 := Lib.hid (fun X (hb : Below w.heap.size w X) => heap_root (H.below hb) 1 (by decide))
  have HR2 := Lib.hid (fun X (hb : Below w.heap.size w X) => heap_root (H.below hb) 2 (by decide))
  generalize cmpN n x y = bb at *
  have HO := Lib.hid hoo
  have HKk := Lib.hid hkk
  clear RC RA RB H h1 h2 hoo hkk hx hy
  generalize smallO x = sx at *
  generalize smallO y = sy at *
  go_enter Tryz.func14, Tryz.ntmps14
  go_wp2_with fail
  refine wp_region_held (S := fun X => X.cell? ⟨hc, 0, none⟩ = some (.pointer (some ⟨F.p, 0, none⟩)) ∧ X.cell? ⟨ca, 0, none⟩ = some (.int .i64 x) ∧ X.cell? ⟨cb, 0, none⟩ = some (.int .i64 y)) (by kernel_rfl) ?_
  refine wpAnyH_take_at (i := 0) (v := .pointer (some ⟨F.p, 0, none⟩)) 15 rfl rfl (by kernel_rfl) (by kernel_rfl) (by kernel_rfl) (fun _ _ _ h => h) (.inl ⟨rfl, fun X hX => by obtain ⟨q0, q1, q2⟩ := hX; go_simp⟩) hX ?_
  simp only [Act.put, List.setIfInBounds_toArray, List.set_cons_zero, List.set_cons_succ]
  refine wpAnyH_take_at (i := 1) (v := .int .i64 n) 16 rfl rfl (by kernel_rfl) (by kernel_rfl) (by kernel_rfl) (fun _ _ _ h => h) (.inl ⟨rfl, fun X hX => by go_simp⟩) hX ?_
  simp only [Act.put, List.setIfInBounds_toArray, List.set_cons_zero, List.set_cons_succ]
  refine wpAnyH_take_at (i := 2) (v := .int .i64 x) 17 rfl rfl (by kernel_rfl) (by kernel_rfl) (by kernel_rfl) (fun _ _ _ h => h) (.inl ⟨rfl, fun X hX => by obtain ⟨q0, q1, q2⟩ := hX; go_simp⟩) hX ?_
  simp only [Act.put, List.setIfInBounds_toArray, List.set_cons_zero, List.set_cons_succ]
  refine wpAnyH_take_at (i := 4) (v := .int .i64 y) 19 rfl rfl (by kernel_rfl) (by kernel_rfl) (by kernel_rfl) (fun _ _ _ h => h) (.inl ⟨rfl, fun X hX => by obtain ⟨q0, q1, q2⟩ := hX; go_simp⟩) hX ?_
  simp only [Act.put, List.setIfInBounds_toArray, List.set_cons_zero, List.set_cons_succ]
  refine wpAnyH_all (rs := [3]) (by kernel_rfl) (by decide) (fun i hi => ?_)
  rw [List.mem_singleton] at hi
  subst hi
  unfold wpOp
  go_simp
  refine .inl ((HSx.out _).mono ?_)
  rintro e X1 ⟨rfl, rfl⟩
  refine ⟨hX, ?_⟩
  (try simp only [Act.put, List.setIfInBounds_toArray, List.set_cons_zero, List.set_cons_succ])
  refine wpAnyH_all (rs := [5]) (by kernel_rfl) (by decide) (fun i hi => ?_)
  rw [List.mem_singleton] at hi
  subst hi
  unfold wpOp
  go_simp
  refine .inl ((HSy.out _).mono ?_)
  rintro e X2 ⟨rfl, rfl⟩
  refine ⟨hX, ?_⟩
  (try simp only [Act.put, List.setIfInBounds_toArray, List.set_cons_zero, List.set_cons_succ])
  refine wpAnyH_all (rs := [6]) (by kernel_rfl) (by decide) (fun i hi => ?_)
  rw [List.mem_singleton] at hi
  subst hi
  obtain ⟨V2, hV2, rv0, hbv, hzv⟩ := alloc_row w 30 [.int .u32 (sy : Nat)]
  have HV2 := Lib.hid hV2
  have rv := rv0.below (Below.refl _ _).drew rv0.lt
  have HBV := Lib.hid (hbv.drew)
  have HI := Lib.hid (HDt.out _ _ HBV.out rv)
  clear hX hV2 hzv rv rv0 hbv
  unfold wpOp
  go_simp
  rw [← show V2 = _ from HV2.out]
  have hX := SX.out _ HBV.out
  refine .inl ⟨hX, ?_⟩
  (try simp only [Act.put, List.setIfInBounds_toArray, List.set_cons_zero, List.set_cons_succ])
  refine wpAnyH_all (rs := [7]) (by kernel_rfl) (by decide) (fun i hi => ?_)
  rw [List.mem_singleton] at hi
  subst hi
  unfold wpOp
  go_simp
  refine .inl ((HI.out).mono ?_)
  rintro e X4 ⟨rfl, hb⟩
  have HB1 := Lib.hid (HBV.out.trans (hb.mono HBV.out.size))
  clear hX hb HI HBV HV2
  have hX := SX.out _ HB1.out
  refine ⟨hX, ?_⟩
  (try simp only [Act.put, List.setIfInBounds_toArray, List.set_cons_zero, List.set_cons_succ])
  refine wpAnyH_take_at (i := 8) (v := .tuple #[.int .u32 (oo : Nat), .int .i64 kk]) 14 rfl rfl (by kernel_rfl) (by kernel_rfl) (by kernel_rfl) (fun _ _ _ h => h) (.inl ⟨rfl, fun X hX => by go_simp⟩) hX ?_
  simp only [Act.put, List.setIfInBounds_toArray, List.set_cons_zero, List.set_cons_succ]
  refine wpAnyH_take_at (i := 9) (v := .int .u32 (oo : Nat)) 23 rfl rfl (by kernel_rfl) (by kernel_rfl) (by kernel_rfl) (fun _ _ _ h => h) (.inl ⟨rfl, fun X hX => by go_simp⟩) hX ?_
  simp only [Act.put, List.setIfInBounds_toArray, List.set_cons_zero, List.set_cons_succ]
  refine wpAnyH_take_at (i := 10) (v := .int .i64 kk) 24 rfl rfl (by kernel_rfl) (by kernel_rfl) (by kernel_rfl) (fun _ _ _ h => h) (.inl ⟨rfl, fun X hX => by go_simp⟩) hX ?_
  simp only [Act.put, List.setIfInBounds_toArray, List.set_cons_zero, List.set_cons_succ]
  refine wpAnyH_take_at (i := 11) (v := .int .u32 (oo : Nat)) 8 rfl rfl (by kernel_rfl) (by kernel_rfl) (by kernel_rfl) (fun _ _ _ h => h) (.inl ⟨rfl, fun X hX => by go_simp⟩) hX ?_
  simp only [Act.put, List.setIfInBounds_toArray, List.set_cons_zero, List.set_cons_succ]
  refine wpAnyH_take_at (i := 12) (v := .int .i64 kk) 9 rfl rfl (by kernel_rfl) (by kernel_rfl) (by kernel_rfl) (fun _ _ _ h => h) (.inl ⟨rfl, fun X hX => by go_simp⟩) hX ?_
  simp only [Act.put, List.setIfInBounds_toArray, List.set_cons_zero, List.set_cons_succ]
  refine wpAnyH_done (by kernel_rfl) ?_ _
  have HR1' := Lib.hid (HR1.out X4 HB1.out)
  have HR2' := Lib.hid (HR2.out X4 HB1.out)
  obtain ⟨c0, -, -⟩ := hX
  have ho := HO.out
  have hk := HKk.out
  subst hk
  cases bb
  all_goals
    (first | (replace ho : oo = wd h.rt 2 := ho) | (replace ho : oo = wd h.rt 1 := ho))
    subst ho
    clear HO HKk HDt SX HR1 HR2
    go_wp2_with fail
    refine HR1'.out.mono ?_
    rintro e V ⟨rfl, rfl⟩
    (try dsimp only)
    go_wp2_with fail
    refine HR2'.out.mono ?_
    rintro e V ⟨rfl, rfl⟩
    (try dsimp only)
    go_wp2_with fail
    go_ret
    exact ⟨rfl, HB1.out⟩
end
end Go.Proofs.YtllabdmmfohbaaaGreatDoor
namespace Go.Proofs.YtllabdmmfohbaaaGreatDoor
open Go Go.RowKit Limb
section
variable {w : World} {F : Foot} {h : Hp}
set_option maxHeartbeats 1600000 in
set_option maxRecDepth 100000 in
theorem undo_intern (H : HeapAt w F h) (c1 c2 c3 : Value) (Q : World → Prop) (HFn : ∀ X, Below w.heap.size w X → Calls Tryz.prog 184 #[c1, c2, c3] X fun e X' => e = .returned (.int .i64 0) ∧ Q X') :
    Calls Tryz.prog 62 #[.pointer (some ⟨F.p, 0, none⟩), .func (.func 184) #[] #[c1, c2, c3]] w fun e w' => e = .returned (.int .i64 0) ∧ Q w' := by
  have HW := Lib.hid (heap_Words H)
  have HRo := Lib.hid (fun X (hb : Below w.heap.size w X) => heap_Roots (H.below hb))
  have HLa := Lib.hid (fun X (hb : Below w.heap.size w X) => heap_last (H.below hb))
  have HF := Lib.hid HFn
  clear HFn H
  go_enter Tryz.func62, Tryz.ntmps62
  go_wp2_with fail
  refine (HW.out).mono ?_
  rintro e V1 ⟨⟨g1, c1', rfl, _, _⟩, hB⟩
  (try dsimp only)
  go_wp2_with fail
  refine (HRo.out V1 hB).mono ?_
  rintro e V2 ⟨⟨g2, c2', rfl, _, _⟩, hb⟩
  (try dsimp only)
  replace hB := hB.trans (hb.mono hB.size)
  clear hb
  go_wp2_with fail
  refine (HLa.out V2 hB).mono ?_
  rintro e V3 ⟨rfl, rfl⟩
  (try dsimp only)
  go_wp2_with fail
  refine (HF.out _ hB).mono ?_
  rintro e V4 ⟨rfl, hQ⟩
  (try dsimp only)
  have HQ := Lib.hid hQ
  clear hQ
  go_wp2_with fail
  go_ret
  exact ⟨rfl, HQ.out⟩
set_option maxHeartbeats 1600000 in
set_option maxRecDepth 100000 in
theorem undo_setglobal (H : HeapAt w F h) (c1 c2 c3 c4 : Value) (Q : World → Prop) (HFn : ∀ X, Below w.heap.size w X → Calls Tryz.prog 63 #[c1, c2, c3, c4] X fun e X' => e = .returned (.int .i64 0) ∧ Q X') :
    Calls Tryz.prog 62 #[.pointer (some ⟨F.p, 0, none⟩), .func (.func 63) #[] #[c1, c2, c3, c4]] w fun e w' => e = .returned (.int .i64 0) ∧ Q w' := by
  have HW := Lib.hid (heap_Words H)
  have HRo := Lib.hid (fun X (hb : Below w.heap.size w X) => heap_Roots (H.below hb))
  have HLa := Lib.hid (fun X (hb : Below w.heap.size w X) => heap_last (H.below hb))
  have HF := Lib.hid HFn
  clear HFn H
  go_enter Tryz.func62, Tryz.ntmps62
  go_wp2_with fail
  refine (HW.out).mono ?_
  rintro e V1 ⟨⟨g1, c1', rfl, _, _⟩, hB⟩
  (try dsimp only)
  go_wp2_with fail
  refine (HRo.out V1 hB).mono ?_
  rintro e V2 ⟨⟨g2, c2', rfl, _, _⟩, hb⟩
  (try dsimp only)
  replace hB := hB.trans (hb.mono hB.size)
  clear hb
  go_wp2_with fail
  refine (HLa.out V2 hB).mono ?_
  rintro e V3 ⟨rfl, rfl⟩
  (try dsimp only)
  go_wp2_with fail
  refine (HF.out _ hB).mono ?_
  rintro e V4 ⟨rfl, hQ⟩
  (try dsimp only)
  have HQ := Lib.hid hQ
  clear hQ
  go_wp2_with fail
  go_ret
  exact ⟨rfl, HQ.out⟩
end
end Go.Proofs.YtllabdmmfohbaaaGreatDoor
