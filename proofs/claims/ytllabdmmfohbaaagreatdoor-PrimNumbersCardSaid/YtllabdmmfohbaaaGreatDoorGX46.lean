/- The law PrimNumbers: it answers true. -/
import Derived.Test.YtllabdmmfohbaaaGreatDoorGX45
import Derived.Deep.DeepCutAuto
import Derived.Deep.CutBlock
import Derived.Deep.CutRange
import Derived.Test.YtllabdmmfohbaaaGreatDoorGX01
set_option linter.unusedVariables false
set_option linter.unusedSimpArgs false
namespace Go.Proofs.YtllabdmmfohbaaaGreatDoor
open Go Go.RowKit Limb
structure LC (w : World) (F : Foot) (h : Hp) (hc ca cb dc : Nat) (a b : Int) : Prop where
  hp : HeapAt w F h
  rc : Row w hc 22 [.pointer (some ⟨F.p, 0, none⟩)]
  ra : Row w ca 3 [.int .i64 a]
  rb : Row w cb 3 [.int .i64 b]
  rd : Row w dc 36 [.func (.func 8) #[] #[.pointer (some ⟨hc, 0, none⟩)]]
section
variable {w w' : World} {F : Foot} {h : Hp} {hc ca cb dc : Nat} {a b : Int}
theorem LC.below (L : LC w F h hc ca cb dc a b) (hb : Below w.heap.size w w') : LC w' F h hc ca cb dc a b :=
  ⟨L.hp.below hb, L.rc.below hb L.rc.lt, L.ra.below hb L.ra.lt, L.rb.below hb L.rb.lt, L.rd.below hb L.rd.lt⟩
theorem LC.cells (L : LC w F h hc ca cb dc a b) : w.cell? ⟨hc, 0, none⟩ = some (.pointer (some ⟨F.p, 0, none⟩)) ∧ w.cell? ⟨ca, 0, none⟩ = some (.int .i64 a) ∧ w.cell? ⟨cb, 0, none⟩ = some (.int .i64 b) ∧ w.cell? ⟨dc, 0, none⟩ = some (.func (.func 8) #[] #[.pointer (some ⟨hc, 0, none⟩)]) :=
  ⟨L.rc.cell_at 0, L.ra.cell_at 0, L.rb.cell_at 0, L.rd.cell_at 0⟩
theorem is_1 (L : LC w F h hc ca cb dc a b) (ha : Sm a) (hb : Sm b) : Calls Tryz.prog 12 #[.int .i64 1, .int .i64 a, .int .i64 b, .int .i64 (a + b), .pointer (some ⟨dc, 0, none⟩)] w fun e w' => e = .returned (.bool true) ∧ Below w.heap.size w w' :=
  law_is L.hp L.rc L.rd (n := 1) (by unfold isNum; omega) ha hb rfl
theorem is_2 (L : LC w F h hc ca cb dc a b) (ha : Sm a) (hb : Sm b) : Calls Tryz.prog 12 #[.int .i64 2, .int .i64 a, .int .i64 b, .int .i64 (a - b), .pointer (some ⟨dc, 0, none⟩)] w fun e w' => e = .returned (.bool true) ∧ Below w.heap.size w w' :=
  law_is L.hp L.rc L.rd (n := 2) (by unfold isNum; omega) ha hb rfl
theorem is_3 (L : LC w F h hc ca cb dc a b) (ha : Sm a) (hb : Sm b) : Calls Tryz.prog 12 #[.int .i64 3, .int .i64 a, .int .i64 b, .int .i64 (a * b), .pointer (some ⟨dc, 0, none⟩)] w fun e w' => e = .returned (.bool true) ∧ Below w.heap.size w w' :=
  law_is L.hp L.rc L.rd (n := 3) (by unfold isNum; omega) ha hb rfl
theorem is_14 (L : LC w F h hc ca cb dc a b) (ha : Sm a) (hb : Sm b) : Calls Tryz.prog 12 #[.int .i64 14, .int .i64 a, .int .i64 b, .int .i64 (bits .and .i64 a b), .pointer (some ⟨dc, 0, none⟩)] w fun e w' => e = .returned (.bool true) ∧ Below w.heap.size w w' :=
  law_is L.hp L.rc L.rd (n := 14) (by unfold isNum; omega) ha hb rfl
theorem is_15 (L : LC w F h hc ca cb dc a b) (ha : Sm a) (hb : Sm b) : Calls Tryz.prog 12 #[.int .i64 15, .int .i64 a, .int .i64 b, .int .i64 (bits .or .i64 a b), .pointer (some ⟨dc, 0, none⟩)] w fun e w' => e = .returned (.bool true) ∧ Below w.heap.size w w' :=
  law_is L.hp L.rc L.rd (n := 15) (by unfold isNum; omega) ha hb rfl
theorem is_16 (L : LC w F h hc ca cb dc a b) (ha : Sm a) (hb : Sm b) : Calls Tryz.prog 12 #[.int .i64 16, .int .i64 a, .int .i64 b, .int .i64 (bits .xor .i64 a b), .pointer (some ⟨dc, 0, none⟩)] w fun e w' => e = .returned (.bool true) ∧ Below w.heap.size w w' :=
  law_is L.hp L.rc L.rd (n := 16) (by unfold isNum; omega) ha hb rfl
theorem truth_8 (L : LC w F h hc ca cb dc a b) (ha : Sm a) (hb : Sm b) : Calls Tryz.prog 14 #[.int .i64 8, .bool (decide (a < b)), .pointer (some ⟨hc, 0, none⟩), .pointer (some ⟨ca, 0, none⟩), .pointer (some ⟨cb, 0, none⟩)] w fun e w' => e = .returned (.bool true) ∧ Below w.heap.size w w' :=
  law_truth L.hp L.rc (n := 8) L.ra L.rb (by decide) (by decide) ha hb
theorem truth_9 (L : LC w F h hc ca cb dc a b) (ha : Sm a) (hb : Sm b) : Calls Tryz.prog 14 #[.int .i64 9, .bool (decide (b < a)), .pointer (some ⟨hc, 0, none⟩), .pointer (some ⟨ca, 0, none⟩), .pointer (some ⟨cb, 0, none⟩)] w fun e w' => e = .returned (.bool true) ∧ Below w.heap.size w w' :=
  law_truth L.hp L.rc (n := 9) L.ra L.rb (by decide) (by decide) ha hb
theorem truth_10 (L : LC w F h hc ca cb dc a b) (ha : Sm a) (hb : Sm b) : Calls Tryz.prog 14 #[.int .i64 10, .bool (decide (a ≤ b)), .pointer (some ⟨hc, 0, none⟩), .pointer (some ⟨ca, 0, none⟩), .pointer (some ⟨cb, 0, none⟩)] w fun e w' => e = .returned (.bool true) ∧ Below w.heap.size w w' :=
  law_truth L.hp L.rc (n := 10) L.ra L.rb (by decide) (by decide) ha hb
theorem truth_11 (L : LC w F h hc ca cb dc a b) (ha : Sm a) (hb : Sm b) : Calls Tryz.prog 14 #[.int .i64 11, .bool (decide (b ≤ a)), .pointer (some ⟨hc, 0, none⟩), .pointer (some ⟨ca, 0, none⟩), .pointer (some ⟨cb, 0, none⟩)] w fun e w' => e = .returned (.bool true) ∧ Below w.heap.size w w' :=
  law_truth L.hp L.rc (n := 11) L.ra L.rb (by decide) (by decide) ha hb
theorem truth_12 (L : LC w F h hc ca cb dc a b) (ha : Sm a) (hb : Sm b) : Calls Tryz.prog 14 #[.int .i64 12, .bool (a == b), .pointer (some ⟨hc, 0, none⟩), .pointer (some ⟨ca, 0, none⟩), .pointer (some ⟨cb, 0, none⟩)] w fun e w' => e = .returned (.bool true) ∧ Below w.heap.size w w' :=
  law_truth L.hp L.rc (n := 12) L.ra L.rb (by decide) (by decide) ha hb
theorem truth_13 (L : LC w F h hc ca cb dc a b) (ha : Sm a) (hb : Sm b) : Calls Tryz.prog 14 #[.int .i64 13, .bool (a != b), .pointer (some ⟨hc, 0, none⟩), .pointer (some ⟨ca, 0, none⟩), .pointer (some ⟨cb, 0, none⟩)] w fun e w' => e = .returned (.bool true) ∧ Below w.heap.size w w' :=
  law_truth L.hp L.rc (n := 13) L.ra L.rb (by decide) (by decide) ha hb
theorem does_4 (L : LC w F h hc ca cb dc a b) {x y : Int} (ha : Sm x) (hb : Sm y) {v : Int} {k : Bool} (hv : (resV (opN 4 x y)).getD 0 = v) (hk : (resV (opN 4 x y)).isSome = k) : Calls Tryz.prog 8 #[.int .i64 4, .int .i64 x, .int .i64 y, .pointer (some ⟨hc, 0, none⟩)] w fun e w' => e = .returned (.tuple #[.int .i64 v, .bool k]) ∧ Below w.heap.size w w' := by
  have := law_does L.hp L.rc (n := 4) (by unfold isNum; omega) ha hb
  rw [hv, hk] at this
  exact this
theorem does_5 (L : LC w F h hc ca cb dc a b) {x y : Int} (ha : Sm x) (hb : Sm y) {v : Int} {k : Bool} (hv : (resV (opN 5 x y)).getD 0 = v) (hk : (resV (opN 5 x y)).isSome = k) : Calls Tryz.prog 8 #[.int .i64 5, .int .i64 x, .int .i64 y, .pointer (some ⟨hc, 0, none⟩)] w fun e w' => e = .returned (.tuple #[.int .i64 v, .bool k]) ∧ Below w.heap.size w w' := by
  have := law_does L.hp L.rc (n := 5) (by unfold isNum; omega) ha hb
  rw [hv, hk] at this
  exact this
theorem does_6 (L : LC w F h hc ca cb dc a b) {x y : Int} (ha : Sm x) (hb : Sm y) {v : Int} {k : Bool} (hv : (resV (opN 6 x y)).getD 0 = v) (hk : (resV (opN 6 x y)).isSome = k) : Calls Tryz.prog 8 #[.int .i64 6, .int .i64 x, .int .i64 y, .pointer (some ⟨hc, 0, none⟩)] w fun e w' => e = .returned (.tuple #[.int .i64 v, .bool k]) ∧ Below w.heap.size w w' := by
  have := law_does L.hp L.rc (n := 6) (by unfold isNum; omega) ha hb
  rw [hv, hk] at this
  exact this
theorem does_7 (L : LC w F h hc ca cb dc a b) {x y : Int} (ha : Sm x) (hb : Sm y) {v : Int} {k : Bool} (hv : (resV (opN 7 x y)).getD 0 = v) (hk : (resV (opN 7 x y)).isSome = k) : Calls Tryz.prog 8 #[.int .i64 7, .int .i64 x, .int .i64 y, .pointer (some ⟨hc, 0, none⟩)] w fun e w' => e = .returned (.tuple #[.int .i64 v, .bool k]) ∧ Below w.heap.size w w' := by
  have := law_does L.hp L.rc (n := 7) (by unfold isNum; omega) ha hb
  rw [hv, hk] at this
  exact this
theorem does_17 (L : LC w F h hc ca cb dc a b) {x y : Int} (ha : Sm x) (hb : Sm y) {v : Int} {k : Bool} (hv : (resV (opN 17 x y)).getD 0 = v) (hk : (resV (opN 17 x y)).isSome = k) : Calls Tryz.prog 8 #[.int .i64 17, .int .i64 x, .int .i64 y, .pointer (some ⟨hc, 0, none⟩)] w fun e w' => e = .returned (.tuple #[.int .i64 v, .bool k]) ∧ Below w.heap.size w w' := by
  have := law_does L.hp L.rc (n := 17) (by unfold isNum; omega) ha hb
  rw [hv, hk] at this
  exact this
end
set_option maxHeartbeats 12800000 in
set_option maxRecDepth 1000000 in
theorem law_numbers (w : World) (hs : Spares w) (a0 b0 c0 : Int) :
    Calls Tryz.prog 3 #[.int .i64 a0, .int .i64 b0, .int .i64 c0] w fun e w' => e = .returned (.bool true) ∧ Below w.heap.size w w' := by
  obtain ⟨hE, hBt⟩ := boot_4096 w hs
  obtain ⟨W1, hW1, r1, b1, z1⟩ := alloc_row w 3 [.int .i64 a0]
  obtain ⟨W2, hW2, r2, b2, z2⟩ := alloc_row W1 3 [.int .i64 b0]
  have r1 := r1.below b2 r1.lt
  rw [z1] at r2
  obtain ⟨ca, hca⟩ : ∃ ca, ca = w.heap.size := ⟨_, rfl⟩
  obtain ⟨cb, hcb⟩ : ∃ cb, cb = w.heap.size + 1 := ⟨_, rfl⟩
  rw [← hca] at r1
  rw [← hcb] at r2
  have hB2 := b1.trans (b2.mono b1.size)
  have HW2 := Lib.hid (show W2 = (w.alloc (.cells #[.int .i64 a0] 3)).alloc (.cells #[.int .i64 b0] 3) by rw [hW2, hW1])
  have HBt := Lib.hid (hBt W2 hB2)
  have HAw := Lib.hid (fun X (hb : Below w.heap.size w X) => law_awake X (hs.below hb hs.1))
  have HFt := Lib.hid law_fits
  have HNu := Lib.hid law_num
  have HB2 := Lib.hid hB2
  have R1 := Lib.hid r1
  have R2 := Lib.hid r2
  have Hca := Lib.hid hca
  have Hcb := Lib.hid hcb
  have Hne := Lib.hid (show ca ≠ cb ∧ ca < W2.heap.size ∧ cb < W2.heap.size ∧ 5 ≤ ca ∧ 5 ≤ cb ∧ w.heap.size ≤ ca ∧ w.heap.size ≤ cb from by have := r1.lt; have := r2.lt; have := hs.1; omega)
  clear hBt hs hW1 hW2 r1 r2 b1 b2 z1 z2 hB2 hca hcb
  go_enter Tryz.func3, Tryz.ntmps3
  go_wp2_with fail
  rw [← HW2.out, ← Hcb.out, ← Hca.out]
  refine HBt.out.mono ?_
  rintro e W3 ⟨F, rfl, H, hb3, hFl⟩
  (try dsimp only)
  have HFl := Lib.hid hFl
  clear hFl
  obtain ⟨W4, hW4, r4, b4, -⟩ := alloc_row W3 22 [.pointer (some ⟨F.p, 0, none⟩)]
  have HW4 := Lib.hid hW4
  obtain ⟨hc, hhc⟩ : ∃ hc, hc = W3.heap.size := ⟨_, rfl⟩
  rw [← hhc] at r4
  have HHc := Lib.hid hhc
  have HR := Lib.hid (show HeapAt W4 F hE ∧ Row W4 hc 22 [.pointer (some ⟨F.p, 0, none⟩)] ∧ Row W4 ca 3 [.int .i64 a0] ∧ Row W4 cb 3 [.int .i64 b0] from
    ⟨H.below b4, r4, (R1.out.below hb3 R1.out.lt).below b4 (Nat.lt_of_lt_of_le R1.out.lt hb3.size), (R2.out.below hb3 R2.out.lt).below b4 (Nat.lt_of_lt_of_le R2.out.lt hb3.size)⟩)
  have HB4 := Lib.hid (HB2.out.trans ((hb3.trans (b4.mono hb3.size)).mono HB2.out.size))
  have q4 := r4.cell_at 0
  simp only [List.getElem?_cons_zero] at q4
  have HHi := Lib.hid (show W2.heap.size ≤ hc from by rw [hhc]; exact hb3.size)
  clear HBt H hb3 hW4 r4 b4 hhc R1 R2 HB2 HW2 Hca Hcb
  go_wp2_with fail
  rw [← HW4.out, ← HHc.out]
  refine (HNu.out _ _).mono ?_
  rintro e W ⟨rfl, rfl⟩
  (try dsimp only)
  go_wp2_with fail
  refine (HAw.out _ HB4.out).mono ?_
  rintro e W5 ⟨rfl, hb⟩
  (try dsimp only)
  have HB5 := Lib.hid (HB4.out.trans (hb.mono HB4.out.size))
  have HR5 := Lib.hid (show HeapAt W5 F hE ∧ Row W5 hc 22 [.pointer (some ⟨F.p, 0, none⟩)] ∧ Row W5 ca 3 [.int .i64 a0] ∧ Row W5 cb 3 [.int .i64 b0] from
    ⟨HR.out.1.below hb, HR.out.2.1.below hb HR.out.2.1.lt, HR.out.2.2.1.below hb HR.out.2.2.1.lt, HR.out.2.2.2.below hb HR.out.2.2.2.lt⟩)
  clear hb HR HB4 HAw HNu HW4 HHc q4
  have hS : W5.drew.cell? ⟨ca, 0, none⟩ = some (.int .i64 a0) ∧ W5.drew.cell? ⟨cb, 0, none⟩ = some (.int .i64 b0) := ⟨HR5.out.2.2.1.cell_at 0, HR5.out.2.2.2.cell_at 0⟩
  have k1 : W5.cell? ⟨ca, 0, none⟩ = some (.int .i64 a0) := hS.1
  have k2 : W5.cell? ⟨cb, 0, none⟩ = some (.int .i64 b0) := hS.2
  have f1 : W5.frozen? ⟨ca, 0, none⟩ = false := HR5.out.2.2.1.free 0
  have f2 : W5.frozen? ⟨cb, 0, none⟩ = false := HR5.out.2.2.2.free 0
  have k3 : (W5.setCell ⟨ca, 0, none⟩ (.int .i64 (clamp a0))).cell? ⟨cb, 0, none⟩ = some (.int .i64 b0) := (HR5.out.2.2.2.other (by exact Hne.out.1.symm) _).cell_at 0
  have f3 : (W5.setCell ⟨ca, 0, none⟩ (.int .i64 (clamp a0))).frozen? ⟨cb, 0, none⟩ = false := (HR5.out.2.2.2.other (by exact Hne.out.1.symm) _).free 0
  obtain ⟨U, hU⟩ : ∃ U, U = (W5.setCell ⟨ca, 0, none⟩ (.int .i64 (clamp a0))).setCell ⟨cb, 0, none⟩ (.int .i64 (clamp b0)) := ⟨_, rfl⟩
  have HU := Lib.hid hU
  go_wp2_with fail
  refine wp_region_S (n := 6) (S := fun X => X.cell? ⟨ca, 0, none⟩ = some (.int .i64 a0) ∧ X.cell? ⟨cb, 0, none⟩ = some (.int .i64 b0)) (by kernel_rfl) (by decide) (fun inv => ?_)
  refine wpAnyS_take_at (i := 0) (v := .int .i64 a0) 44 inv rfl rfl (by kernel_rfl) (by kernel_rfl) (by kernel_rfl) (by decide) (by decide) (by kernel_rfl) (by kernel_rfl) (fun _ _ _ h => h) (.inl ⟨rfl, fun w hS => by obtain ⟨h0, h1⟩ := hS; go_simp⟩) hS (fun inv => ?_)
  simp only [Act.put, List.setIfInBounds_toArray, List.set_cons_zero, List.set_cons_succ]
  refine wpAnyS_take_at (i := 2) (v := .int .i64 b0) 46 inv rfl rfl (by kernel_rfl) (by kernel_rfl) (by kernel_rfl) (by decide) (by decide) (by kernel_rfl) (by kernel_rfl) (fun _ _ _ h => h) (.inl ⟨rfl, fun w hS => by obtain ⟨h0, h1⟩ := hS; go_simp⟩) hS (fun inv => ?_)
  simp only [Act.put, List.setIfInBounds_toArray, List.set_cons_zero, List.set_cons_succ]
  refine wpAnyS_take_at (i := 4) (v := .int .i64 c0) 48 inv rfl rfl (by kernel_rfl) (by kernel_rfl) (by kernel_rfl) (by decide) (by decide) (by kernel_rfl) (by kernel_rfl) (fun _ _ _ h => h) (.inl ⟨rfl, fun w hS => by go_simp⟩) hS (fun inv => ?_)
  simp only [Act.put, List.setIfInBounds_toArray, List.set_cons_zero, List.set_cons_succ]
  refine wpAnyS_one (i := 1) inv (by decide) (by kernel_rfl) (fun inv => ?_)
  unfold wpOp
  go_simp
  refine .inl ((HFt.out _ _).mono ?_)
  rintro e w1 ⟨rfl, rfl⟩
  refine ⟨hS, ?_⟩
  refine wpAnyS_one (i := 3) inv (by decide) (by kernel_rfl) (fun inv => ?_)
  unfold wpOp
  go_simp
  refine .inl ((HFt.out _ _).mono ?_)
  rintro e w1 ⟨rfl, rfl⟩
  refine ⟨hS, ?_⟩
  refine wpAnyS_one (i := 5) inv (by decide) (by kernel_rfl) (fun inv => ?_)
  unfold wpOp
  go_simp
  refine .inl ((HFt.out _ _).mono ?_)
  rintro e w1 ⟨rfl, rfl⟩
  refine ⟨hS, ?_⟩
  refine wpAnyS_tail (by decide) ?_
  refine wpAny_one (i := 6) (by kernel_rfl) ?_
  unfold wpOp
  go_simp
  refine .inl (wpAny_one (i := 7) (by kernel_rfl) ?_)
  unfold wpOp
  go_simp
  refine .inl (wpAny_one (i := 8) (by kernel_rfl) ?_)
  unfold wpOp
  go_simp
  refine .inl (wpAny_done (by kernel_rfl) ?_ _)
  rw [← HU.out]
  obtain ⟨Y, hY⟩ : ∃ Y, Y = U.drew := ⟨_, rfl⟩
  rw [← hY]
  have hoU : Only [ca, cb] W5 Y := by
    rw [hY, hU]
    exact (((Only.refl [ca, cb] W5).setCell (a := ⟨ca, 0, none⟩) (by simp) _).setCell (a := ⟨cb, 0, none⟩) (by simp) _).drew
  have ry1 : Row Y ca 3 [.int .i64 (clamp a0)] := by
    have h1 := (HR5.out.2.2.1.store_any 0 (.int .i64 (clamp a0))).other (a := ⟨cb, 0, none⟩) Hne.out.1 (.int .i64 (clamp b0))
    rw [hY, hU]; exact h1.below (Below.refl _ _).drew h1.lt
  have ry2 : Row Y cb 3 [.int .i64 (clamp b0)] := by
    have h1 := (HR5.out.2.2.2.other (a := ⟨ca, 0, none⟩) Hne.out.1.symm (.int .i64 (clamp a0))).store_any 0 (.int .i64 (clamp b0))
    rw [hY, hU]; exact h1.below (Below.refl _ _).drew h1.lt
  have hFn : ∀ g ∈ F.l, g ∉ [ca, cb] := fun g hg hm => by
    have h1 := HFl.out g hg
    have h2 := Hne.out
    simp only [List.mem_cons, List.not_mem_nil, or_false] at hm
    omega
  have hHY : HeapAt Y F hE := HR5.out.1.only hoU hFn (by have h2 := Hne.out; simp only [List.mem_cons, List.not_mem_nil, or_false]; omega)
  have rcY : Row Y hc 22 [.pointer (some ⟨F.p, 0, none⟩)] := HR5.out.2.1.only hoU (by have h2 := Hne.out; have h3 := HHi.out; simp only [List.mem_cons, List.not_mem_nil, or_false]; omega)
  have hBY : Below w.heap.size w Y := HB5.out.trans (hoU.belowB HB5.out.size (fun p hp => by
    have h2 := Hne.out
    simp only [List.mem_cons, List.not_mem_nil, or_false] at hp
    omega))
  obtain ⟨W6, hW6, r6, b6, z6⟩ := alloc_row Y 36 [.nilFunc]
  obtain ⟨dc, hdc⟩ : ∃ dc, dc = Y.heap.size := ⟨_, rfl⟩
  rw [← hdc] at r6
  have q0 := r6.cell_at 0
  have f0 := r6.free 0
  simp only [List.getElem?_cons_zero] at q0
  obtain ⟨W7, h7⟩ : ∃ W, W = W6.setCell ⟨dc, 0, none⟩ (.func (.func 8) #[] #[.pointer (some ⟨hc, 0, none⟩)]) := ⟨_, rfl⟩
  have hst : (store ⟨Y.heap.size, 0, none⟩ (.func (.func 8) #[] #[.pointer (some ⟨hc, 0, none⟩)])).run Tryz.prog (Y.alloc (.cells #[.nilFunc] 36)) = .ok () W7 := by rw [h7, ← hW6, ← hdc]; simp [store, Sem.run, q0, f0]
  have r7 : Row W7 dc 36 [.func (.func 8) #[] #[.pointer (some ⟨hc, 0, none⟩)]] := by rw [h7]; exact r6.store_any 0 _
  have b7 : Below Y.heap.size Y W7 := by rw [h7]; exact b6.setCell (by simp [hdc]) _
  have L7 := Lib.hid (show LC W7 F hE hc ca cb dc (clamp a0) (clamp b0) from ⟨hHY.below b7, rcY.below b7 rcY.lt, ry1.below b7 ry1.lt, ry2.below b7 ry2.lt, r7⟩)
  have B7 := Lib.hid (hBY.trans (b7.mono hBY.size))
  have Hdc := Lib.hid hdc
  have HSa := Lib.hid (clamp_sm a0)
  have HSb := Lib.hid (clamp_sm b0)
  have HSc := Lib.hid (clamp_sm c0)
  generalize clamp a0 = a at *
  generalize clamp b0 = b at *
  generalize clamp c0 = c at *
  clear hY hU HU hoU ry1 ry2 hFn hHY rcY hBY hW6 r6 b6 z6 hdc q0 f0 h7 r7 b7 hS k1 k2 k3 f1 f2 f3 inv HR5 HB5 HFl HHi HFt
  obtain ⟨a1, a2⟩ := id HSa.out
  obtain ⟨b1, b2⟩ := id HSb.out
  have hm := HSa.out.mul HSb.out
  obtain ⟨c1, c2, c3, c4⟩ := L7.out.cells
  go_wp2_with fail
  rw [← Hdc.out]
  refine (is_1 L7.out HSa.out HSb.out).mono ?_
  rintro e W8 ⟨rfl, hb⟩
  (try dsimp only)
  have L8 := Lib.hid (L7.out.below hb)
  have B8 := Lib.hid (B7.out.trans (hb.mono B7.out.size))
  clear hb L7 B7 c1 c2 c3 c4
  obtain ⟨c1, c2, c3, c4⟩ := L8.out.cells
  go_wp2_with fail
  refine (is_2 L8.out HSa.out HSb.out).mono ?_
  rintro e W9 ⟨rfl, hb⟩
  (try dsimp only)
  have L9 := Lib.hid (L8.out.below hb)
  have B9 := Lib.hid (B8.out.trans (hb.mono B8.out.size))
  clear hb L8 B8 c1 c2 c3 c4
  obtain ⟨c1, c2, c3, c4⟩ := L9.out.cells
  go_wp2_with fail
  refine (is_3 L9.out HSa.out HSb.out).mono ?_
  rintro e W10 ⟨rfl, hb⟩
  (try dsimp only)
  have L10 := Lib.hid (L9.out.below hb)
  have B10 := Lib.hid (B9.out.trans (hb.mono B9.out.size))
  clear hb L9 B9 c1 c2 c3 c4
  obtain ⟨c1, c2, c3, c4⟩ := L10.out.cells
  go_wp2_with fail
  refine (is_14 L10.out HSa.out HSb.out).mono ?_
  rintro e W11 ⟨rfl, hb⟩
  (try dsimp only)
  have L11 := Lib.hid (L10.out.below hb)
  have B11 := Lib.hid (B10.out.trans (hb.mono B10.out.size))
  clear hb L10 B10 c1 c2 c3 c4
  obtain ⟨c1, c2, c3, c4⟩ := L11.out.cells
  go_wp2_with fail
  refine (is_15 L11.out HSa.out HSb.out).mono ?_
  rintro e W12 ⟨rfl, hb⟩
  (try dsimp only)
  have L12 := Lib.hid (L11.out.below hb)
  have B12 := Lib.hid (B11.out.trans (hb.mono B11.out.size))
  clear hb L11 B11 c1 c2 c3 c4
  obtain ⟨c1, c2, c3, c4⟩ := L12.out.cells
  go_wp2_with fail
  refine (is_16 L12.out HSa.out HSb.out).mono ?_
  rintro e W13 ⟨rfl, hb⟩
  (try dsimp only)
  have L13 := Lib.hid (L12.out.below hb)
  have B13 := Lib.hid (B12.out.trans (hb.mono B12.out.size))
  clear hb L12 B12 c1 c2 c3 c4
  obtain ⟨c1, c2, c3, c4⟩ := L13.out.cells
  go_wp2_with fail
  refine (truth_8 L13.out HSa.out HSb.out).mono ?_
  rintro e W14 ⟨rfl, hb⟩
  (try dsimp only)
  have L14 := Lib.hid (L13.out.below hb)
  have B14 := Lib.hid (B13.out.trans (hb.mono B13.out.size))
  clear hb L13 B13 c1 c2 c3 c4
  obtain ⟨c1, c2, c3, c4⟩ := L14.out.cells
  go_wp2_with fail
  refine (truth_9 L14.out HSa.out HSb.out).mono ?_
  rintro e W15 ⟨rfl, hb⟩
  (try dsimp only)
  have L15 := Lib.hid (L14.out.below hb)
  have B15 := Lib.hid (B14.out.trans (hb.mono B14.out.size))
  clear hb L14 B14 c1 c2 c3 c4
  obtain ⟨c1, c2, c3, c4⟩ := L15.out.cells
  go_wp2_with fail
  refine (truth_10 L15.out HSa.out HSb.out).mono ?_
  rintro e W16 ⟨rfl, hb⟩
  (try dsimp only)
  have L16 := Lib.hid (L15.out.below hb)
  have B16 := Lib.hid (B15.out.trans (hb.mono B15.out.size))
  clear hb L15 B15 c1 c2 c3 c4
  obtain ⟨c1, c2, c3, c4⟩ := L16.out.cells
  go_wp2_with fail
  refine (truth_11 L16.out HSa.out HSb.out).mono ?_
  rintro e W17 ⟨rfl, hb⟩
  (try dsimp only)
  have L17 := Lib.hid (L16.out.below hb)
  have B17 := Lib.hid (B16.out.trans (hb.mono B16.out.size))
  clear hb L16 B16 c1 c2 c3 c4
  obtain ⟨c1, c2, c3, c4⟩ := L17.out.cells
  go_wp2_with fail
  refine (truth_12 L17.out HSa.out HSb.out).mono ?_
  rintro e W18 ⟨rfl, hb⟩
  (try dsimp only)
  have L18 := Lib.hid (L17.out.below hb)
  have B18 := Lib.hid (B17.out.trans (hb.mono B17.out.size))
  clear hb L17 B17 c1 c2 c3 c4
  obtain ⟨c1, c2, c3, c4⟩ := L18.out.cells
  go_wp2_with fail
  refine (truth_13 L18.out HSa.out HSb.out).mono ?_
  rintro e W19 ⟨rfl, hb⟩
  (try dsimp only)
  have L19 := Lib.hid (L18.out.below hb)
  have B19 := Lib.hid (B18.out.trans (hb.mono B18.out.size))
  clear hb L18 B18 c1 c2 c3 c4
  obtain ⟨c1, c2, c3, c4⟩ := L19.out.cells
  by_cases h0 : b = 0
  · as_aux_lemma =>
    have e0 : (b == 0) = true := by rw [h0]; rfl
    have n4 : resV (opN 4 a b) = none := by show resV (if b = 0 then none else _) = none; rw [if_pos h0]; rfl
    have n7 : resV (opN 7 a b) = none := by show resV (if b = 0 then none else _) = none; rw [if_pos h0]; rfl
    clear h0
    go_wp2_with fail
    refine (does_4 L19.out HSa.out HSb.out (v := 0) (k := false) (by rw [n4]; rfl) (by rw [n4]; rfl)).mono ?_
    rintro e W20 ⟨rfl, hb⟩
    (try dsimp only)
    have L20 := Lib.hid (L19.out.below hb)
    have B20 := Lib.hid (B19.out.trans (hb.mono B19.out.size))
    clear hb L19 B19 c1 c2 c3 c4
    obtain ⟨c1, c2, c3, c4⟩ := L20.out.cells
    go_wp2_with fail
    refine (does_7 L20.out HSa.out HSb.out (v := 0) (k := false) (by rw [n7]; rfl) (by rw [n7]; rfl)).mono ?_
    rintro e W21 ⟨rfl, hb⟩
    (try dsimp only)
    have L21 := Lib.hid (L20.out.below hb)
    have B21 := Lib.hid (B20.out.trans (hb.mono B20.out.size))
    clear hb L20 B20 c1 c2 c3 c4
    obtain ⟨c1, c2, c3, c4⟩ := L21.out.cells
    go_wp2_with fail
    go_ret
    exact ⟨rfl, B21.out⟩
  · have e0 : (b == 0) = false := by rw [beq_eq_false_iff_ne]; exact h0
    have hfl := floor_law HSa.out HSb.out h0
    have hql := quot_law HSa.out HSb.out h0
    have hfm := floor_mul HSa.out HSb.out
    have o4 : opN 4 a b = some (floorQ a b) := if_neg h0
    have o5 : opN 5 a b = some (a - floorQ a b * b) := if_neg h0
    have o6 : opN 6 a b = some (a.tdiv b) := if_neg h0
    have o7 : opN 7 a b = some (a.tmod b) := if_neg h0
    obtain ⟨r, hr⟩ : ∃ r, r = a - floorQ a b * b := ⟨_, rfl⟩
    obtain ⟨m, hm7⟩ : ∃ m, m = a.tmod b := ⟨_, rfl⟩
    obtain ⟨q, hq⟩ : ∃ q, q = (resV (opN 4 a b)).getD 0 := ⟨_, rfl⟩
    obtain ⟨k, hk⟩ : ∃ k, k = (resV (opN 4 a b)).isSome := ⟨_, rfl⟩
    obtain ⟨t, ht⟩ : ∃ t, t = (resV (opN 6 a b)).getD 0 := ⟨_, rfl⟩
    obtain ⟨k6, hk6⟩ : ∃ k, k = (resV (opN 6 a b)).isSome := ⟨_, rfl⟩
    have HQ := Lib.hid (show (k = true ∧ q * b + r = a ∧ (-1152921506000000000 ≤ q * b ∧ q * b ≤ 1152921506000000000)) ∨ (k = false ∧ a = -1073741824 ∧ b = -1) from by
      rcases hfl.2.2.2.2 with hs | he
      · left
        rw [hk, hq, hr, o4, resV_some hs]
        refine ⟨rfl, ?_, hfm⟩
        show floorQ a b * b + (a - floorQ a b * b) = a
        omega
      · right
        refine ⟨?_, he⟩
        rw [hk, he.1, he.2]
        decide)
    have HT := Lib.hid (show (k6 = true ∧ t * b + m = a ∧ (-4294967296 ≤ t * b ∧ t * b ≤ 4294967296)) ∨ (k6 = false ∧ a = -1073741824 ∧ b = -1) from by
      rcases hql.2.2.2.1 with hs | he
      · left
        rw [hk6, ht, hm7, o6, resV_some hs]
        have h2 := hql.1
        have h3 := hql.2.1
        refine ⟨rfl, h2, ?_⟩
        show -4294967296 ≤ a.tdiv b * b ∧ a.tdiv b * b ≤ 4294967296
        obtain ⟨m1, m2⟩ := h3
        omega
      · right
        refine ⟨?_, he⟩
        rw [hk6, he.1, he.2]
        decide)
    have HR := Lib.hid (show Sm r ∧ (r ≠ 0 → (r < 0 ↔ b < 0)) ∧ (0 < b → r < b) ∧ (b < 0 → b < r) from by
      rw [hr]; exact ⟨hfl.1, hfl.2.1, hfl.2.2.1, hfl.2.2.2.1⟩)
    have HM := Lib.hid (show Sm m ∧ (m ≠ 0 → (m < 0 ↔ a < 0)) from by rw [hm7]; exact ⟨hql.2.1, hql.2.2.1⟩)
    have HQv := Lib.hid (show (resV (opN 4 a b)).getD 0 = q ∧ (resV (opN 4 a b)).isSome = k ∧ (resV (opN 6 a b)).getD 0 = t ∧ (resV (opN 6 a b)).isSome = k6 from ⟨hq.symm, hk.symm, ht.symm, hk6.symm⟩)
    have HRv := Lib.hid (show resV (opN 5 a b) = some r ∧ resV (opN 7 a b) = some m from by
      rw [o5, o7, ← hr, ← hm7]
      exact ⟨resV_some HR.out.1, resV_some HM.out.1⟩)
    have Hb0 := Lib.hid h0
    clear hfl hql hfm o4 o5 o6 o7 hr hm7 hq hk ht hk6 h0
    go_wp2_with fail
    refine (does_4 L19.out HSa.out HSb.out HQv.out.1 HQv.out.2.1).mono ?_
    rintro e W20 ⟨rfl, hb⟩
    (try dsimp only)
    have L20 := Lib.hid (L19.out.below hb)
    have B20 := Lib.hid (B19.out.trans (hb.mono B19.out.size))
    clear hb L19 B19 c1 c2 c3 c4
    obtain ⟨c1, c2, c3, c4⟩ := L20.out.cells
    go_wp2_with fail
    refine (does_5 L20.out HSa.out HSb.out (v := r) (k := true) (by rw [HRv.out.1]; rfl) (by rw [HRv.out.1]; rfl)).mono ?_
    rintro e W21 ⟨rfl, hb⟩
    (try dsimp only)
    have L21 := Lib.hid (L20.out.below hb)
    have B21 := Lib.hid (B20.out.trans (hb.mono B20.out.size))
    clear hb L20 B20 c1 c2 c3 c4
    obtain ⟨c1, c2, c3, c4⟩ := L21.out.cells
    go_upto_region 18 with fail
    go_cut [247] from 193 to 247 (fun s wx => s = .bool false ∧ W21 = wx)
    case first => as_aux_lemma =>
      obtain ⟨⟨r1, r2⟩, hr3, hr4, hr5⟩ := HR.out
      have hbz := Hb0.out
      rcases HQ.out with ⟨hk, hqr, hqb⟩ | ⟨hk, ha, hb⟩
      · subst hk
        have e1 : (q * b + r != a) = false := by rw [hqr]; simp
        have e2 : (q * b + r == a) = true := by rw [hqr]; simp
        by_cases hpos : 0 < b
        · have d1 : decide (b < 0) = false := decide_eq_false (by omega)
          have d2 : decide (0 < b) = true := decide_eq_true hpos
          have d3 : decide (b ≤ r) = false := decide_eq_false (by have := hr4 hpos; omega)
          have d5 : decide (r ≤ b) = true := decide_eq_true (by have := hr4 hpos; omega)
          have d4 : decide (r < 0) = false := decide_eq_false (by
            intro h
            have := (hr3 (by omega)).1 h
            omega)
          clear hr3 hr4 hr5 hbz hpos
          go_wp2_with fail
          go_meet
          exact ⟨rfl, rfl⟩
        · have hneg : b < 0 := by omega
          have d1 : decide (b < 0) = true := decide_eq_true hneg
          have d2 : decide (0 < b) = false := decide_eq_false hpos
          have d3 : decide (r ≤ b) = false := decide_eq_false (by have := hr5 hneg; omega)
          have d5 : decide (b ≤ r) = true := decide_eq_true (by have := hr5 hneg; omega)
          by_cases hz : r = 0
          · have d4 : decide (r < 0) = false := decide_eq_false (by omega)
            have d6 : (r != 0) = false := by rw [hz]; rfl
            have d7 : (r == 0) = true := by rw [hz]; rfl
            clear hr3 hr4 hr5 hbz hpos hneg hz
            go_wp2_with fail
            go_meet
            exact ⟨rfl, rfl⟩
          · have d4 : decide (r < 0) = true := decide_eq_true ((hr3 hz).2 hneg)
            clear hr3 hr4 hr5 hbz hpos hneg hz
            go_wp2_with fail
            go_meet
            exact ⟨rfl, rfl⟩
      · subst hk ha hb
        clear hr3 hr4 hr5 hbz
        go_wp2_with fail
        go_meet
        exact ⟨rfl, rfl⟩
    case rest => as_aux_lemma =>
      obtain ⟨rfl, rfl⟩ := hcut
      go_wp2_with fail
      refine (does_6 L21.out HSa.out HSb.out HQv.out.2.2.1 HQv.out.2.2.2).mono ?_
      rintro e W22 ⟨rfl, hb⟩
      (try dsimp only)
      have L22 := Lib.hid (L21.out.below hb)
      have B22 := Lib.hid (B21.out.trans (hb.mono B21.out.size))
      clear hb L21 B21 c1 c2 c3 c4
      obtain ⟨c1, c2, c3, c4⟩ := L22.out.cells
      go_wp2_with fail
      refine (does_7 L22.out HSa.out HSb.out (v := m) (k := true) (by rw [HRv.out.2]; rfl) (by rw [HRv.out.2]; rfl)).mono ?_
      rintro e W23 ⟨rfl, hb⟩
      (try dsimp only)
      have L23 := Lib.hid (L22.out.below hb)
      have B23 := Lib.hid (B22.out.trans (hb.mono B22.out.size))
      clear hb L22 B22 c1 c2 c3 c4
      obtain ⟨c1, c2, c3, c4⟩ := L23.out.cells
      go_upto_region 22 with fail
      go_cut [298] from 262 to 298 (fun s wx => s = .bool false ∧ W23 = wx)
      case first => as_aux_lemma =>
        obtain ⟨⟨m1, m2⟩, hm3⟩ := HM.out
        rcases HT.out with ⟨hk, hqr, hqb⟩ | ⟨hk, ha, hb⟩
        · subst hk
          have e1 : (t * b + m != a) = false := by rw [hqr]; simp
          have e2 : (t * b + m == a) = true := by rw [hqr]; simp
          by_cases hz : m = 0
          · have d6 : (m != 0) = false := by rw [hz]; rfl
            have d7 : (m == 0) = true := by rw [hz]; rfl
            clear hm3 hz
            go_wp2_with fail
            go_meet
            exact ⟨rfl, rfl⟩
          · have d6 : (m != 0) = true := by rw [bne_iff_ne]; exact hz
            have d7 : (m == 0) = false := by rw [beq_eq_false_iff_ne]; exact hz
            by_cases hneg : a < 0
            · have d1 : decide (a < 0) = true := decide_eq_true hneg
              have d4 : decide (m < 0) = true := decide_eq_true ((hm3 hz).2 hneg)
              clear hm3 hz hneg
              go_wp2_with fail
              go_meet
              exact ⟨rfl, rfl⟩
            · have d1 : decide (a < 0) = false := decide_eq_false hneg
              have d4 : decide (m < 0) = false := decide_eq_false (fun h => hneg ((hm3 hz).1 h))
              clear hm3 hz hneg
              go_wp2_with fail
              go_meet
              exact ⟨rfl, rfl⟩
        · subst hk ha hb
          clear hm3
          go_wp2_with fail
          go_meet
          exact ⟨rfl, rfl⟩
      case rest => as_aux_lemma =>
        obtain ⟨rfl, rfl⟩ := hcut
        obtain ⟨cc1, cc2⟩ := id HSc.out
        clear HQ HT HR HM HQv HRv Hb0 hm
        go_upto_region 25 with fail
        obtain ⟨n, hn⟩ : ∃ n, n = (wrap64 (c.tmod 40 + 40)).tmod 40 := ⟨_, rfl⟩
        rw [← hn]
        have hn39 : 0 ≤ n ∧ n ≤ 39 := by
          have g1 : (c.tmod 40).natAbs < 40 := by rw [Int.natAbs_tmod]; exact Nat.mod_lt _ (by decide)
          have g2 : wrap64 (c.tmod 40 + 40) = c.tmod 40 + 40 := by unfold wrap64; omega
          rw [g2] at hn
          have g3 : 0 ≤ n := by rw [hn]; exact Int.tmod_nonneg _ (by omega)
          have g4 : n.natAbs < 40 := by rw [hn, Int.natAbs_tmod]; exact Nat.mod_lt _ (by decide)
          omega
        obtain ⟨n1, n2⟩ := hn39
        have hup := shift_up_law HSa.out n1 n2
        have HDn := Lib.hid (shift_down_law HSa.out n1 n2)
        have HSn := Lib.hid (show Sm n ∧ Sm (-n) ∧ Sm (1 - n) from ⟨⟨by omega, by omega⟩, ⟨by omega, by omega⟩, ⟨by omega, by omega⟩⟩)
        clear hn cc1 cc2 HSc
        rcases hup with ⟨u, e, hu, eb⟩ | ⟨e, ha0, hn0⟩
        · as_aux_lemma =>
          have HU := Lib.hid hu
          obtain ⟨u1, u2⟩ := id hu
          clear hu
          go_wp2_with fail
          refine (does_17 L23.out HSa.out HSn.out.1 (v := u) (k := true) (by rw [show opN 17 a n = shiftQ a n from rfl, e]; rfl) (by rw [show opN 17 a n = shiftQ a n from rfl, e]; rfl)).mono ?_
          rintro e W24 ⟨rfl, hb⟩
          (try dsimp only)
          have L24 := Lib.hid (L23.out.below hb)
          have B24 := Lib.hid (B23.out.trans (hb.mono B23.out.size))
          clear hb L23 B23 c1 c2 c3 c4
          obtain ⟨c1, c2, c3, c4⟩ := L24.out.cells
          go_wp2_with fail
          refine (does_17 L24.out HU.out HSn.out.2.1 (v := a) (k := true) (by rw [show opN 17 u (-n) = shiftQ u (-n) from rfl, eb]; rfl) (by rw [show opN 17 u (-n) = shiftQ u (-n) from rfl, eb]; rfl)).mono ?_
          rintro e W25 ⟨rfl, hb⟩
          (try dsimp only)
          have L25 := Lib.hid (L24.out.below hb)
          have B25 := Lib.hid (B24.out.trans (hb.mono B24.out.size))
          clear hb L24 B24 c1 c2 c3 c4
          obtain ⟨c1, c2, c3, c4⟩ := L25.out.cells
          have e3 : (a != a) = false := by simp
          have e4 : (a == a) = true := by simp
          clear e eb HU u1 u2
          obtain ⟨d, ed, hd, hd1, hd2, hd3, hd4⟩ := HDn.out
          have HD := Lib.hid (And.intro hd1 hd2)
          have HDz := Lib.hid hd3
          have HDo := Lib.hid hd4
          obtain ⟨dd1, dd2⟩ := id hd
          clear hd hd1 hd2 hd3 hd4 HDn
          go_wp2_with fail
          clear e3 e4
          refine (does_17 L25.out HSa.out HSn.out.2.1 (v := d) (k := true) (by rw [show opN 17 a (-n) = shiftQ a (-n) from rfl, ed]; rfl) (by rw [show opN 17 a (-n) = shiftQ a (-n) from rfl, ed]; rfl)).mono ?_
          rintro e W26 ⟨rfl, hb⟩
          (try dsimp only)
          have L26 := Lib.hid (L25.out.below hb)
          have B26 := Lib.hid (B25.out.trans (hb.mono B25.out.size))
          clear hb L25 B25 c1 c2 c3 c4
          obtain ⟨c1, c2, c3, c4⟩ := L26.out.cells
          go_upto_region 33 with fail
          go_cut [359] from 340 to 359 (fun s wx => s = .bool false ∧ W26 = wx)
          case first => as_aux_lemma =>
            obtain ⟨h3, h4⟩ := HD.out
            by_cases hp : 0 ≤ a
            · have d1 : decide (a < d) = false := decide_eq_false (by have := h3 hp; omega)
              have d2 : decide (a < 0) = false := decide_eq_false (by omega)
              have d5 : decide (0 ≤ a) = true := decide_eq_true hp
              by_cases hq : d < a
              · have d3 : decide (d < a) = true := decide_eq_true hq
                clear h3 h4 hp hq ed
                go_wp2_with fail
                go_meet
                exact ⟨rfl, rfl⟩
              · have d3 : decide (d < a) = false := decide_eq_false hq
                clear h3 h4 hp hq ed
                go_wp2_with fail
                go_meet
                exact ⟨rfl, rfl⟩
            · have d1 : decide (d < a) = false := decide_eq_false (by have := h4 (by omega); omega)
              have d2 : decide (0 ≤ a) = false := decide_eq_false hp
              have d5 : decide (a < 0) = true := decide_eq_true (by omega)
              by_cases hq : a < d
              · have d3 : decide (a < d) = true := decide_eq_true hq
                clear h3 h4 hp hq ed
                go_wp2_with fail
                go_meet
                exact ⟨rfl, rfl⟩
              · have d3 : decide (a < d) = false := decide_eq_false hq
                clear h3 h4 hp hq ed
                go_wp2_with fail
                go_meet
                exact ⟨rfl, rfl⟩
          case rest => as_aux_lemma =>
            obtain ⟨rfl, rfl⟩ := hcut
            by_cases hz : 0 < n
            · have d1 : decide (0 < n) = true := decide_eq_true hz
              obtain ⟨o, eo, ho, e2⟩ := HDo.out hz
              have e3 : (d == d) = true := by simp
              clear HD HDo ed hz HDz
              go_wp2_with fail
              refine (does_17 L26.out HSa.out (y := -1) ⟨by decide, by decide⟩ (v := o) (k := true) (by rw [show opN 17 a (-1) = shiftQ a (-1) from rfl, eo]; rfl) (by rw [show opN 17 a (-1) = shiftQ a (-1) from rfl, eo]; rfl)).mono ?_
              rintro e W27 ⟨rfl, hb⟩
              (try dsimp only)
              have L27 := Lib.hid (L26.out.below hb)
              have B27 := Lib.hid (B26.out.trans (hb.mono B26.out.size))
              clear hb L26 B26 c1 c2 c3 c4
              obtain ⟨c1, c2, c3, c4⟩ := L27.out.cells
              go_wp2_with fail
              refine (does_17 L27.out ho HSn.out.2.2 (v := d) (k := true) (by rw [show opN 17 o (1 - n) = shiftQ o (1 - n) from rfl, e2]; rfl) (by rw [show opN 17 o (1 - n) = shiftQ o (1 - n) from rfl, e2]; rfl)).mono ?_
              rintro e W28 ⟨rfl, hb⟩
              (try dsimp only)
              have L28 := Lib.hid (L27.out.below hb)
              have B28 := Lib.hid (B27.out.trans (hb.mono B27.out.size))
              clear hb L27 B27 c1 c2 c3 c4
              obtain ⟨c1, c2, c3, c4⟩ := L28.out.cells
              go_wp2_with fail
              go_ret
              exact ⟨rfl, B28.out⟩
            · have d1 : decide (0 < n) = false := decide_eq_false hz
              have e3 : d = a := HDz.out (by omega)
              subst e3
              clear HD HDo ed hz HDz
              go_wp2_with fail
              go_ret
              exact ⟨rfl, B26.out⟩
        · as_aux_lemma =>
          have e3 : (a == 0) = false := by rw [beq_eq_false_iff_ne]; exact ha0
          have e4 : (n == 0) = false := by rw [beq_eq_false_iff_ne]; exact hn0
          clear ha0 hn0
          go_wp2_with fail
          refine (does_17 L23.out HSa.out HSn.out.1 (v := 0) (k := false) (by rw [show opN 17 a n = shiftQ a n from rfl, e]; rfl) (by rw [show opN 17 a n = shiftQ a n from rfl, e]; rfl)).mono ?_
          rintro e W24 ⟨rfl, hb⟩
          (try dsimp only)
          have L24 := Lib.hid (L23.out.below hb)
          have B24 := Lib.hid (B23.out.trans (hb.mono B23.out.size))
          clear hb L23 B23 c1 c2 c3 c4
          obtain ⟨c1, c2, c3, c4⟩ := L24.out.cells
          clear e
          obtain ⟨d, ed, hd, hd1, hd2, hd3, hd4⟩ := HDn.out
          have HD := Lib.hid (And.intro hd1 hd2)
          have HDz := Lib.hid hd3
          have HDo := Lib.hid hd4
          obtain ⟨dd1, dd2⟩ := id hd
          clear hd hd1 hd2 hd3 hd4 HDn
          go_wp2_with fail
          clear e3 e4
          refine (does_17 L24.out HSa.out HSn.out.2.1 (v := d) (k := true) (by rw [show opN 17 a (-n) = shiftQ a (-n) from rfl, ed]; rfl) (by rw [show opN 17 a (-n) = shiftQ a (-n) from rfl, ed]; rfl)).mono ?_
          rintro e W25 ⟨rfl, hb⟩
          (try dsimp only)
          have L25 := Lib.hid (L24.out.below hb)
          have B25 := Lib.hid (B24.out.trans (hb.mono B24.out.size))
          clear hb L24 B24 c1 c2 c3 c4
          obtain ⟨c1, c2, c3, c4⟩ := L25.out.cells
          go_upto_region 33 with fail
          go_cut [359] from 340 to 359 (fun s wx => s = .bool false ∧ W25 = wx)
          case first => as_aux_lemma =>
            obtain ⟨h3, h4⟩ := HD.out
            by_cases hp : 0 ≤ a
            · have d1 : decide (a < d) = false := decide_eq_false (by have := h3 hp; omega)
              have d2 : decide (a < 0) = false := decide_eq_false (by omega)
              have d5 : decide (0 ≤ a) = true := decide_eq_true hp
              by_cases hq : d < a
              · have d3 : decide (d < a) = true := decide_eq_true hq
                clear h3 h4 hp hq ed
                go_wp2_with fail
                go_meet
                exact ⟨rfl, rfl⟩
              · have d3 : decide (d < a) = false := decide_eq_false hq
                clear h3 h4 hp hq ed
                go_wp2_with fail
                go_meet
                exact ⟨rfl, rfl⟩
            · have d1 : decide (d < a) = false := decide_eq_false (by have := h4 (by omega); omega)
              have d2 : decide (0 ≤ a) = false := decide_eq_false hp
              have d5 : decide (a < 0) = true := decide_eq_true (by omega)
              by_cases hq : a < d
              · have d3 : decide (a < d) = true := decide_eq_true hq
                clear h3 h4 hp hq ed
                go_wp2_with fail
                go_meet
                exact ⟨rfl, rfl⟩
              · have d3 : decide (a < d) = false := decide_eq_false hq
                clear h3 h4 hp hq ed
                go_wp2_with fail
                go_meet
                exact ⟨rfl, rfl⟩
          case rest => as_aux_lemma =>
            obtain ⟨rfl, rfl⟩ := hcut
            by_cases hz : 0 < n
            · have d1 : decide (0 < n) = true := decide_eq_true hz
              obtain ⟨o, eo, ho, e2⟩ := HDo.out hz
              have e3 : (d == d) = true := by simp
              clear HD HDo ed hz HDz
              go_wp2_with fail
              refine (does_17 L25.out HSa.out (y := -1) ⟨by decide, by decide⟩ (v := o) (k := true) (by rw [show opN 17 a (-1) = shiftQ a (-1) from rfl, eo]; rfl) (by rw [show opN 17 a (-1) = shiftQ a (-1) from rfl, eo]; rfl)).mono ?_
              rintro e W26 ⟨rfl, hb⟩
              (try dsimp only)
              have L26 := Lib.hid (L25.out.below hb)
              have B26 := Lib.hid (B25.out.trans (hb.mono B25.out.size))
              clear hb L25 B25 c1 c2 c3 c4
              obtain ⟨c1, c2, c3, c4⟩ := L26.out.cells
              go_wp2_with fail
              refine (does_17 L26.out ho HSn.out.2.2 (v := d) (k := true) (by rw [show opN 17 o (1 - n) = shiftQ o (1 - n) from rfl, e2]; rfl) (by rw [show opN 17 o (1 - n) = shiftQ o (1 - n) from rfl, e2]; rfl)).mono ?_
              rintro e W27 ⟨rfl, hb⟩
              (try dsimp only)
              have L27 := Lib.hid (L26.out.below hb)
              have B27 := Lib.hid (B26.out.trans (hb.mono B26.out.size))
              clear hb L26 B26 c1 c2 c3 c4
              obtain ⟨c1, c2, c3, c4⟩ := L27.out.cells
              go_wp2_with fail
              go_ret
              exact ⟨rfl, B27.out⟩
            · have d1 : decide (0 < n) = false := decide_eq_false hz
              have e3 : d = a := HDz.out (by omega)
              subst e3
              clear HD HDo ed hz HDz
              go_wp2_with fail
              go_ret
              exact ⟨rfl, B25.out⟩
end Go.Proofs.YtllabdmmfohbaaaGreatDoor
