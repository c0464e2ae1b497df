/- Package prim's helpers over objects of bytes of the class String. The functions in the table of numbers: what each answers of two small integers. -/
import Derived.Test.YteiikhcadjdkcaaGreatDoorGX26
import Derived.Test.YteiikhcadjdkcaaGreatDoorGX24
import Derived.Test.YteiikhcadjdkcaaGreatDoorGX11
import Derived.Test.YteiikhcadjdkcaaGreatDoorGX20
import Derived.Test.YteiikhcadjdkcaaGreatDoorGX12
set_option linter.unusedVariables false
set_option linter.unusedSimpArgs false
namespace Go.Proofs.YteiikhcadjdkcaaGreatDoor
open Go Go.RowKit Limb
section
variable {w : World} {F : Foot} {h : Hp}
set_option maxHeartbeats 1600000 in
set_option maxRecDepth 100000 in
theorem prim_header (H : HeapAt w F h) {p r : Nat} {a : Option Addr} {n c v : Nat} (R : Row w p 57 (callC F.p r a n c v)) {o : Nat} (ho : isO h o = true) {x0 x1 x2 x3 x4 : Nat} (hx : hdO h o = ⟨x0, x1, x2, x3, x4⟩) :
    Calls Tryz.prog 114 #[.pointer (some ⟨p, 0, none⟩), .int .u32 o] w fun e w' => e = .returned (.tuple #[.agg #[.int .i64 x0, .int .i64 x1, .int .i64 x2, .int .u32 x3, .int .u32 x4], .bool true]) ∧ Below w.heap.size w w' := by
  obtain ⟨W, hW, r0, hB, hz⟩ := alloc_row w 102 [.int .i64 0, .int .i64 0, .int .i64 0, .int .u32 0, .int .u32 0]
  have HW := Lib.hid hW
  have HD := Lib.hid (header_is (H.below hB) ho hx)
  have q1 := (R.below hB R.lt).cell_at 1
  unfold callC at q1
  simp only [List.getElem?_cons_zero, List.getElem?_cons_succ] at q1
  obtain ⟨g0, hg0⟩ : ∃ g, g = w.heap.size := ⟨_, rfl⟩
  rw [← hg0] at r0
  have Hg0 := Lib.hid hg0
  have hlg : w.heap.size ≤ g0 := by omega
  clear hW hz H R ho hx hg0
  go_enter Tryz.func114, Tryz.ntmps114
  obtain ⟨BP, hBP⟩ : ∃ B, bodyPost Tryz.prog Tryz.f114 (fun e w' => e = .returned (.tuple #[.agg #[.int .i64 x0, .int .i64 x1, .int .i64 x2, .int .u32 x3, .int .u32 x4], .bool true]) ∧ Below w.heap.size w w') = B := ⟨_, rfl⟩
  rw [hBP]
  go_upto_region 1 with fail
  rw [← HW.out, ← Hg0.out]
  go_wp2_with fail
  refine HD.out.mono ?_
  rintro e V ⟨rfl, hb⟩
  (try dsimp only)
  obtain ⟨V1, hV1, r1, hb1, hz1⟩ := alloc_row V 102 [.int .i64 x0, .int .i64 x1, .int .i64 x2, .int .u32 x3, .int .u32 x4]
  have HV1 := Lib.hid hV1
  have hlt0 := r0.lt
  have r0 := (r0.below hb r0.lt).below hb1 (by have := hb.size; omega)
  have hBV := hB.trans ((hb.trans (hb1.mono hb.size)).mono hB.size)
  have hne : g0 ≠ V.heap.size := by have := hb.size; omega
  obtain ⟨g, hg⟩ : ∃ g, g = V.heap.size := ⟨_, rfl⟩
  rw [← hg] at r1 hne
  have Hg := Lib.hid hg
  obtain ⟨k0, k1, k2, k3, k4⟩ := r1.cells5
  have z0 := r0.free 0
  have z1 := r0.free 1
  have z2 := r0.free 2
  have z3 := r0.free 3
  have z4 := r0.free 4
  obtain ⟨p0, p1, p2, p3, p4⟩ := r0.cells5
  obtain ⟨f0, f1, f2, f3, f4⟩ := Row.cells5 (store5 r0 (.int .i64 x0) (.int .i64 x1) (.int .i64 x2) (.int .u32 x3) (.int .u32 x4))
  have HE := Lib.hid (below_store5 hBV hlg (.int .i64 x0) (.int .i64 x1) (.int .i64 x2) (.int .u32 x3) (.int .u32 x4))
  clear hV1 hb1 hz1 hb hg HD q1 HW Hg0 hB hBV
  go_upto_region 2 with fail
  rw [← HV1.out, ← Hg.out]
  go_wp2_with fail
  (try simp only [Exit.inBlock, Exit.then])
  rw [← hBP]
  refine bodyPost_ret (v := .tuple #[.agg #[.int .i64 x0, .int .i64 x1, .int .i64 x2, .int .u32 x3, .int .u32 x4], .bool true]) (by simp [results, Tryz.results114, go_sem, f0, f1, f2, f3, f4]) rfl ⟨rfl, HE.out⟩
set_option maxHeartbeats 1600000 in
set_option maxRecDepth 100000 in
theorem prim_bytes (H : HeapAt w F h) {p r : Nat} {a : Option Addr} {n c v : Nat} (R : Row w p 57 (callC F.p r a n c v)) {o k : Nat} {t : List Nat} (b : Bs h o k t) :
    Calls Tryz.prog 124 #[.pointer (some ⟨p, 0, none⟩), .int .u32 o] w fun e w' => (∃ g, e = .returned (.tuple #[.slice (some ⟨g, 0, none⟩) t.length t.length, .bool true]) ∧ w.heap.size ≤ g ∧ Lay .u8 w' (some ⟨g, 0, none⟩) t) ∧ Below w.heap.size w w' := by
  have hB := heap_BytesC H o b.is b.fmt
  rw [b.len, b.byt] at hB
  have HD := Lib.hid hB
  have q1 := R.cell_at 1
  unfold callC at q1
  simp only [List.getElem?_cons_zero, List.getElem?_cons_succ] at q1
  generalize t.length = tl at *
  clear hB H R b
  go_enter Tryz.func124, Tryz.ntmps124
  go_wp2_with fail
  refine HD.out.mono ?_
  rintro e V ⟨⟨g, rfl, hg, hl⟩, hb⟩
  have HG := Lib.hid hg
  (try dsimp only)
  have HL := Lib.hid hl
  have HB := Lib.hid hb
  clear hl hb hg HD q1
  go_wp2_with fail
  go_ret2
  exact ⟨⟨g, rfl, HG.out, HL.out⟩, HB.out⟩
set_option maxHeartbeats 1600000 in
set_option maxRecDepth 100000 in
theorem prim_of_no (H : HeapAt w F h) {p r : Nat} {a : Option Addr} {n c v : Nat} (R : Row w p 57 (callC F.p r a n c v)) {o i : Nat} (ho : isO h o = true) (hi : i < 64) (hne : wd h.rt i ≠ (hdO h o).cls) :
    Calls Tryz.prog 143 #[.pointer (some ⟨p, 0, none⟩), .int .u32 o, .int .i64 i] w fun e w' => e = .returned (.bool false) ∧ Below w.heap.size w w' := by
  obtain ⟨x0, x1, x2, x3, x4, hx⟩ : ∃ x0 x1 x2 x3 x4, hdO h o = ⟨x0, x1, x2, x3, x4⟩ := ⟨_, _, _, _, _, rfl⟩
  rw [hx] at hne
  replace hne : wd h.rt i ≠ x3 := hne
  have HD := Lib.hid (prim_header H R ho hx)
  have HRt := Lib.hid (fun X (hb : Below w.heap.size w X) => prim_root (H.below hb) i hi p r a n c v (R.below hb R.lt))
  generalize wd h.rt i = tv at *
  have d1 : ((x3 : Int) == (tv : Int)) = false := by rw [beq_eq_false_iff_ne]; omega
  have d2 : (x3 == tv) = false := by rw [beq_eq_false_iff_ne]; exact fun e => hne e.symm
  clear H R ho hi hx hne
  go_enter Tryz.func143, Tryz.ntmps143
  go_wp2_with fail
  refine (HD.out).mono ?_
  rintro e V ⟨rfl, hb⟩
  (try dsimp only)
  obtain ⟨V1, hV1, r1, hb1, hz1⟩ := alloc_row V 102 [.int .i64 x0, .int .i64 x1, .int .i64 x2, .int .u32 x3, .int .u32 x4]
  have HV1 := Lib.hid hV1
  have hBV := hb.trans (hb1.mono hb.size)
  obtain ⟨g, hg⟩ : ∃ g, g = V.heap.size := ⟨_, rfl⟩
  rw [← hg] at r1
  have Hg := Lib.hid hg
  clear hV1 hb1 hz1 hb hg HD
  go_wp2_with fail
  rw [← HV1.out, ← Hg.out]
  refine wp_region_calm (fun Y => Below V1.heap.size V1 Y) (by kernel_rfl) (by kernel_rfl) (Below.refl _ _).drew ?_
  show wpQuiet _ _ _ _ [_, _, _, _, _, _, _, _, _, _] _
  refine wpQuiet_at 15 (.bool true) rfl (by kernel_rfl) (fun Y hC => ?_) ?_
  · go_simp
  simp only [Act.put, List.setIfInBounds_toArray, List.set_cons_zero, List.set_cons_succ]
  refine wpQuiet_at 16 (.bool true) rfl (by kernel_rfl) (fun Y hC => ?_) ?_
  · go_simp
  simp only [Act.put, List.setIfInBounds_toArray, List.set_cons_zero, List.set_cons_succ]
  refine wpQuiet_at 17 (.pointer (some ⟨g, 3, none⟩)) rfl (by kernel_rfl) (fun Y hC => ?_) ?_
  · go_simp
  simp only [Act.put, List.setIfInBounds_toArray, List.set_cons_zero, List.set_cons_succ]
  refine wpQuiet_at 18 (.int .u32 x3) rfl (by kernel_rfl) (fun Y hC => ?_) ?_
  · have k0 := (r1.below hC r1.lt).cell_at 3
    simp only [List.getElem?_cons_zero, List.getElem?_cons_succ] at k0
    go_simp
  simp only [Act.put, List.setIfInBounds_toArray, List.set_cons_zero, List.set_cons_succ]
  refine wpQuiet_at 19 (.pointer (some ⟨p, 0, none⟩)) rfl (by kernel_rfl) (fun Y hC => ?_) ?_
  · go_simp
  simp only [Act.put, List.setIfInBounds_toArray, List.set_cons_zero, List.set_cons_succ]
  refine wpQuiet_at 20 (.int .i64 i) rfl (by kernel_rfl) (fun Y hC => ?_) ?_
  · go_simp
  simp only [Act.put, List.setIfInBounds_toArray, List.set_cons_zero, List.set_cons_succ]
  refine wpQuiet_at 21 (.int .u32 (tv : Nat)) rfl (by kernel_rfl) (fun Y hC => ?_) ?_
  · go_simp
    exact (HRt.out Y (hBV.trans (hC.mono hBV.size))).mono fun e X' ⟨a, b⟩ => ⟨a, by rw [← b]; exact hC⟩
  simp only [Act.put, List.setIfInBounds_toArray, List.set_cons_zero, List.set_cons_succ]
  refine wpQuiet_at 22 (.bool false) rfl (by kernel_rfl) (fun Y hC => ?_) ?_
  · go_simp
  simp only [Act.put, List.setIfInBounds_toArray, List.set_cons_zero, List.set_cons_succ]
  refine wpQuiet_at 23 (.bool false) rfl (by kernel_rfl) (fun Y hC => ?_) ?_
  · go_simp
  simp only [Act.put, List.setIfInBounds_toArray, List.set_cons_zero, List.set_cons_succ]
  refine wpQuiet_at 6 (.bool false) rfl (by kernel_rfl) (fun Y hC => ?_) ?_
  · go_simp
  simp only [Act.put, List.setIfInBounds_toArray, List.set_cons_zero, List.set_cons_succ]
  refine wpQuiet_nil ?_
  intro V2 hb2
  have HF := Lib.hid (hBV.trans (hb2.mono hBV.size))
  clear hb2 hBV HRt r1 HV1 Hg
  go_wp2_with fail
  go_ret
  exact ⟨rfl, HF.out⟩
set_option maxHeartbeats 1600000 in
set_option maxRecDepth 100000 in
theorem prim_resultClass (H : HeapAt w F h) {p r : Nat} {a : Option Addr} {n c v : Nat} (R : Row w p 57 (callC F.p r a n c v)) {o : Nat} (ho : isO h o = true) (hne : wd h.rt 18 ≠ (hdO h o).cls) :
    Calls Tryz.prog 218 #[.pointer (some ⟨p, 0, none⟩), .int .u32 o] w fun e w' => e = .returned (.int .u32 ((hdO h o).cls : Nat)) ∧ Below w.heap.size w w' := by
  obtain ⟨x0, x1, x2, x3, x4, hx⟩ : ∃ x0 x1 x2 x3 x4, hdO h o = ⟨x0, x1, x2, x3, x4⟩ := ⟨_, _, _, _, _, rfl⟩
  have HD := Lib.hid (prim_header H R ho hx)
  rw [hx] at hne ⊢
  replace hne : wd h.rt 18 ≠ x3 := hne
  show Calls _ _ _ _ fun e w' => e = .returned (.int .u32 (x3 : Nat)) ∧ Below w.heap.size w w'
  obtain ⟨tv, htv⟩ : ∃ tv, tv = wd h.rt 18 := ⟨_, rfl⟩
  rw [← htv] at hne
  have HRt := Lib.hid (fun X (hb : Below w.heap.size w X) => show Calls Tryz.prog 177 #[.pointer (some ⟨p, 0, none⟩), .int .i64 18] X fun e w' => e = .returned (.int .u32 (tv : Nat)) ∧ X = w' from by rw [htv]; exact prim_root (H.below hb) 18 (by decide) p r a n c v (R.below hb R.lt))
  have d1 : ((x3 : Int) == (tv : Int)) = false := by rw [beq_eq_false_iff_ne]; omega
  have d2 : (x3 == tv) = false := by rw [beq_eq_false_iff_ne]; exact fun e => hne e.symm
  clear H R ho hx hne htv
  go_enter Tryz.func218, Tryz.ntmps218
  go_wp2_with fail
  refine (HD.out).mono ?_
  rintro e V ⟨rfl, hb⟩
  (try dsimp only)
  obtain ⟨V1, hV1, r1, hb1, hz1⟩ := alloc_row V 102 [.int .i64 x0, .int .i64 x1, .int .i64 x2, .int .u32 x3, .int .u32 x4]
  have HV1 := Lib.hid hV1
  have hBV := hb.trans (hb1.mono hb.size)
  obtain ⟨g, hg⟩ : ∃ g, g = V.heap.size := ⟨_, rfl⟩
  rw [← hg] at r1
  have Hg := Lib.hid hg
  clear hV1 hb1 hz1 hb hg HD
  go_wp2_with fail
  rw [← HV1.out, ← Hg.out]
  refine wp_region_calm (fun Y => Below V1.heap.size V1 Y) (by kernel_rfl) (by kernel_rfl) (Below.refl _ _).drew ?_
  show wpQuiet _ _ _ _ [_, _, _, _, _] _
  refine wpQuiet_at 13 (.pointer (some ⟨g, 3, none⟩)) rfl (by kernel_rfl) (fun Y hC => ?_) ?_
  · go_simp
  simp only [Act.put, List.setIfInBounds_toArray, List.set_cons_zero, List.set_cons_succ]
  refine wpQuiet_at 14 (.int .u32 x3) rfl (by kernel_rfl) (fun Y hC => ?_) ?_
  · have k0 := (r1.below hC r1.lt).cell_at 3
    simp only [List.getElem?_cons_zero, List.getElem?_cons_succ] at k0
    go_simp
  simp only [Act.put, List.setIfInBounds_toArray, List.set_cons_zero, List.set_cons_succ]
  refine wpQuiet_at 15 (.pointer (some ⟨p, 0, none⟩)) rfl (by kernel_rfl) (fun Y hC => ?_) ?_
  · go_simp
  simp only [Act.put, List.setIfInBounds_toArray, List.set_cons_zero, List.set_cons_succ]
  refine wpQuiet_at 16 (.int .u32 (tv : Nat)) rfl (by kernel_rfl) (fun Y hC => ?_) ?_
  · go_simp
    exact (HRt.out Y (hBV.trans (hC.mono hBV.size))).mono fun e X' ⟨a, b⟩ => ⟨a, by rw [← b]; exact hC⟩
  simp only [Act.put, List.setIfInBounds_toArray, List.set_cons_zero, List.set_cons_succ]
  refine wpQuiet_at 17 (.bool false) rfl (by kernel_rfl) (fun Y hC => ?_) ?_
  · go_simp
  simp only [Act.put, List.setIfInBounds_toArray, List.set_cons_zero, List.set_cons_succ]
  refine wpQuiet_nil ?_
  intro V2 hb2
  have HF := Lib.hid (hBV.trans (hb2.mono hBV.size))
  have k3 := (r1.below hb2 r1.lt).cell_at 3
  simp only [List.getElem?_cons_zero, List.getElem?_cons_succ] at k3
  clear hb2 hBV HRt r1 HV1 Hg
  go_wp2_with fail
  go_ret
  exact ⟨rfl, HF.out⟩
set_option maxHeartbeats 1600000 in
set_option maxRecDepth 100000 in
theorem prim_isSymbol_no (H : HeapAt w F h) {p r : Nat} {a : Option Addr} {n c v : Nat} (R : Row w p 57 (callC F.p r a n c v)) {o k : Nat} {t : List Nat} (b : Bs h o k t) (hne : wd h.rt 18 ≠ k) :
    Calls Tryz.prog 133 #[.pointer (some ⟨p, 0, none⟩), .int .u32 o] w fun e w' => e = .returned (.bool false) ∧ Below w.heap.size w w' := by
  have HBy := Lib.hid (prim_bytes H R b)
  have HOf := Lib.hid (fun X (hb : Below w.heap.size w X) => show Calls Tryz.prog 143 #[.pointer (some ⟨p, 0, none⟩), .int .u32 o, .int .i64 18] X fun e w' => e = .returned (.bool false) ∧ Below X.heap.size X w' from prim_of_no (H.below hb) (R.below hb R.lt) b.is (i := 18) (by decide) (by rw [b.cls]; exact hne))
  clear H R b hne
  go_enter Tryz.func133, Tryz.ntmps133
  go_wp2_with fail
  refine (HBy.out).mono ?_
  rintro e V ⟨⟨g, rfl, -, -⟩, hb⟩
  (try dsimp only)
  have HB := Lib.hid hb
  clear hb HBy
  go_wp2_with fail
  refine (HOf.out _ HB.out).mono ?_
  rintro e V2 ⟨rfl, hb⟩
  (try dsimp only)
  have HB2 := Lib.hid (HB.out.trans (hb.mono HB.out.size))
  clear hb HOf
  go_wp2_with fail
  go_ret
  exact ⟨rfl, HB2.out⟩
set_option maxRecDepth 100000 in
theorem prim_isClass_no (H : HeapAt w F h) (S : SC h) {p r : Nat} {a : Option Addr} {n c v : Nat} (R : Row w p 57 (callC F.p r a n c v)) {o : Nat} {t : List Nat} (b : Bs h o (wd h.rt 19) t) :
    Calls Tryz.prog 156 #[.pointer (some ⟨p, 0, none⟩), .int .u32 o] w fun e w' => e = .returned (.bool false) ∧ Below w.heap.size w w' := by
  have HC := Lib.hid (kernel_isclass_no H S b)
  have q1 := R.cell_at 1
  unfold callC at q1
  simp only [List.getElem?_cons_zero, List.getElem?_cons_succ] at q1
  clear H S R b
  go_enter Tryz.func156, Tryz.ntmps156
  go_wp2_with fail
  refine (HC.out).mono ?_
  rintro e V ⟨rfl, hb⟩
  (try dsimp only)
  have HB := Lib.hid hb
  clear hb HC q1
  go_wp2_with fail
  go_ret
  exact ⟨rfl, HB.out⟩
set_option maxRecDepth 100000 in
theorem prim_made_ok {p hp r : Nat} {a : Option Addr} {n c v : Nat} (R : Row w p 57 (callC hp r a n c v)) (o : Nat) :
    Calls Tryz.prog 110 #[.pointer (some ⟨p, 0, none⟩), .int .u32 o, .int .i64 0] w fun e w' => e = .returned (.int .i64 1) ∧ Row w' p 57 (callC hp r a n c o) ∧ Only [p] w w' := by
  have HD := Lib.hid (prim_done w p hp r a n c v o R)
  clear R
  go_enter Tryz.func110, Tryz.ntmps110
  go_wp2_with fail
  refine (HD.out).mono ?_
  rintro e W ⟨rfl, h1, h2⟩
  (try dsimp only)
  have H1 := Lib.hid h1
  have H2 := Lib.hid h2
  clear h1 h2 HD
  go_wp2_with fail
  go_ret
  exact ⟨rfl, H1.out, H2.out⟩
def withinB (a b : Int) (n : Nat) : Bool := decide (1 ≤ a) && (decide (a - 1 ≤ b) && decide (b ≤ n))
set_option maxRecDepth 100000 in
theorem prim_within (w : World) {a b : Int} {n : Nat} (ha : -1073741824 ≤ a ∧ a ≤ 1073741823) :
    Calls Tryz.prog 216 #[.int .i64 a, .int .i64 b, .int .i64 n] w fun e w' => e = .returned (.bool (withinB a b n)) ∧ w = w' := by
  unfold withinB
  by_cases h1 : 1 ≤ a
  · have d1 : decide (1 ≤ a) = true := decide_eq_true h1
    by_cases h2 : a - 1 ≤ b
    · have d2 : decide (a - 1 ≤ b) = true := decide_eq_true h2
      have d3 : decide (a ≤ b + 1) = true := decide_eq_true (by omega)
      rw [d1, d2]
      go_enter Tryz.func216, Tryz.ntmps216
      go_wp2_with fail
      go_ret
      exact ⟨rfl, rfl⟩
    · have d2 : decide (a - 1 ≤ b) = false := decide_eq_false h2
      have d3 : decide (a ≤ b + 1) = false := decide_eq_false (by omega)
      rw [d1, d2]
      go_enter Tryz.func216, Tryz.ntmps216
      go_wp2_with fail
      go_ret
      exact ⟨rfl, rfl⟩
  · have d1 : decide (1 ≤ a) = false := decide_eq_false h1
    rw [d1]
    go_enter Tryz.func216, Tryz.ntmps216
    go_wp2_with fail
    go_ret
    exact ⟨rfl, rfl⟩
end
end Go.Proofs.YteiikhcadjdkcaaGreatDoor
namespace Go.Proofs.YteiikhcadjdkcaaGreatDoor
open Go Go.RowKit Limb
def FnAns (o : Option Int) (e : Ending) : Prop := e = .returned (.tuple #[.int .i64 (o.getD 0), .bool o.isSome])
section
variable {w : World}
theorem num_all (x : Int) : Calls Tryz.prog 76 #[.int .i64 x] w fun e w' => e = .returned (.tuple #[.int .i64 x, .bool true]) ∧ w = w' := by
  go_enter Tryz.func76, Tryz.ntmps76
  go_wp2_with fail
  go_ret2
  exact ⟨rfl, rfl⟩
set_option maxRecDepth 100000 in
theorem num_1 {x y : Int} (hx : Sm x) (hy : Sm y) {a : Nat} (RA : Row w a 126 [.func (.func 76) #[] #[]]) :
    Calls Tryz.prog 78 #[.int .i64 x, .int .i64 y, .pointer (some ⟨a, 0, none⟩)] w fun e w' => FnAns (opN 1 x y) e ∧ Below w.heap.size w w' := by
  have c0 := RA.cell_at 0
  simp only [List.getElem?_cons_zero] at c0
  obtain ⟨x1, x2⟩ := id hx; obtain ⟨y1, y2⟩ := id hy
  have HA := Lib.hid (fun z => num_all (w := w) z)
  clear RA hx hy
  go_enter Tryz.func78, Tryz.ntmps78
  go_wp2_with fail
  refine (HA.out _).mono ?_
  rintro e W ⟨rfl, rfl⟩
  (try dsimp only)
  go_wp2_with fail
  go_ret2
  exact ⟨rfl, Below.refl _ _⟩
set_option maxRecDepth 100000 in
theorem num_2 {x y : Int} (hx : Sm x) (hy : Sm y) {a : Nat} (RA : Row w a 126 [.func (.func 76) #[] #[]]) :
    Calls Tryz.prog 79 #[.int .i64 x, .int .i64 y, .pointer (some ⟨a, 0, none⟩)] w fun e w' => FnAns (opN 2 x y) e ∧ Below w.heap.size w w' := by
  have c0 := RA.cell_at 0
  simp only [List.getElem?_cons_zero] at c0
  obtain ⟨x1, x2⟩ := id hx; obtain ⟨y1, y2⟩ := id hy
  have HA := Lib.hid (fun z => num_all (w := w) z)
  clear RA hx hy
  go_enter Tryz.func79, Tryz.ntmps79
  go_wp2_with fail
  refine (HA.out _).mono ?_
  rintro e W ⟨rfl, rfl⟩
  (try dsimp only)
  go_wp2_with fail
  go_ret2
  exact ⟨rfl, Below.refl _ _⟩
set_option maxRecDepth 100000 in
theorem num_3 {x y : Int} (hx : Sm x) (hy : Sm y) {a : Nat} (RA : Row w a 126 [.func (.func 76) #[] #[]]) :
    Calls Tryz.prog 80 #[.int .i64 x, .int .i64 y, .pointer (some ⟨a, 0, none⟩)] w fun e w' => FnAns (opN 3 x y) e ∧ Below w.heap.size w w' := by
  have c0 := RA.cell_at 0
  simp only [List.getElem?_cons_zero] at c0
  have hm := hx.mul hy
  have HA := Lib.hid (fun z => num_all (w := w) z)
  clear RA hx hy
  go_enter Tryz.func80, Tryz.ntmps80
  go_wp2_with fail
  refine (HA.out _).mono ?_
  rintro e W ⟨rfl, rfl⟩
  (try dsimp only)
  go_wp2_with fail
  go_ret2
  exact ⟨rfl, Below.refl _ _⟩
set_option maxRecDepth 100000 in
theorem num_14 {x y : Int} (hx : Sm x) (hy : Sm y) {a : Nat} (RA : Row w a 126 [.func (.func 76) #[] #[]]) :
    Calls Tryz.prog 93 #[.int .i64 x, .int .i64 y, .pointer (some ⟨a, 0, none⟩)] w fun e w' => FnAns (opN 14 x y) e ∧ Below w.heap.size w w' := by
  have c0 := RA.cell_at 0
  simp only [List.getElem?_cons_zero] at c0
  skip
  have HA := Lib.hid (fun z => num_all (w := w) z)
  clear RA hx hy
  go_enter Tryz.func93, Tryz.ntmps93
  go_wp2_with fail
  refine (HA.out _).mono ?_
  rintro e W ⟨rfl, rfl⟩
  (try dsimp only)
  go_wp2_with fail
  go_ret2
  exact ⟨rfl, Below.refl _ _⟩
set_option maxRecDepth 100000 in
theorem num_15 {x y : Int} (hx : Sm x) (hy : Sm y) {a : Nat} (RA : Row w a 126 [.func (.func 76) #[] #[]]) :
    Calls Tryz.prog 94 #[.int .i64 x, .int .i64 y, .pointer (some ⟨a, 0, none⟩)] w fun e w' => FnAns (opN 15 x y) e ∧ Below w.heap.size w w' := by
  have c0 := RA.cell_at 0
  simp only [List.getElem?_cons_zero] at c0
  skip
  have HA := Lib.hid (fun z => num_all (w := w) z)
  clear RA hx hy
  go_enter Tryz.func94, Tryz.ntmps94
  go_wp2_with fail
  refine (HA.out _).mono ?_
  rintro e W ⟨rfl, rfl⟩
  (try dsimp only)
  go_wp2_with fail
  go_ret2
  exact ⟨rfl, Below.refl _ _⟩
set_option maxRecDepth 100000 in
theorem num_16 {x y : Int} (hx : Sm x) (hy : Sm y) {a : Nat} (RA : Row w a 126 [.func (.func 76) #[] #[]]) :
    Calls Tryz.prog 95 #[.int .i64 x, .int .i64 y, .pointer (some ⟨a, 0, none⟩)] w fun e w' => FnAns (opN 16 x y) e ∧ Below w.heap.size w w' := by
  have c0 := RA.cell_at 0
  simp only [List.getElem?_cons_zero] at c0
  skip
  have HA := Lib.hid (fun z => num_all (w := w) z)
  clear RA hx hy
  go_enter Tryz.func95, Tryz.ntmps95
  go_wp2_with fail
  refine (HA.out _).mono ?_
  rintro e W ⟨rfl, rfl⟩
  (try dsimp only)
  go_wp2_with fail
  go_ret2
  exact ⟨rfl, Below.refl _ _⟩
theorem num_8 (x y : Int) : Calls Tryz.prog 87 #[.int .i64 x, .int .i64 y] w fun e w' => e = .returned (.bool (cmpN 8 x y)) ∧ Below w.heap.size w w' := by
  go_enter Tryz.func87, Tryz.ntmps87
  go_wp2_with fail
  go_ret
  exact ⟨rfl, Below.refl _ _⟩
theorem num_9 (x y : Int) : Calls Tryz.prog 88 #[.int .i64 x, .int .i64 y] w fun e w' => e = .returned (.bool (cmpN 9 x y)) ∧ Below w.heap.size w w' := by
  go_enter Tryz.func88, Tryz.ntmps88
  go_wp2_with fail
  go_ret
  exact ⟨rfl, Below.refl _ _⟩
theorem num_10 (x y : Int) : Calls Tryz.prog 89 #[.int .i64 x, .int .i64 y] w fun e w' => e = .returned (.bool (cmpN 10 x y)) ∧ Below w.heap.size w w' := by
  go_enter Tryz.func89, Tryz.ntmps89
  go_wp2_with fail
  go_ret
  exact ⟨rfl, Below.refl _ _⟩
theorem num_11 (x y : Int) : Calls Tryz.prog 90 #[.int .i64 x, .int .i64 y] w fun e w' => e = .returned (.bool (cmpN 11 x y)) ∧ Below w.heap.size w w' := by
  go_enter Tryz.func90, Tryz.ntmps90
  go_wp2_with fail
  go_ret
  exact ⟨rfl, Below.refl _ _⟩
theorem num_12 (x y : Int) : Calls Tryz.prog 91 #[.int .i64 x, .int .i64 y] w fun e w' => e = .returned (.bool (cmpN 12 x y)) ∧ Below w.heap.size w w' := by
  go_enter Tryz.func91, Tryz.ntmps91
  go_wp2_with fail
  go_ret
  exact ⟨rfl, Below.refl _ _⟩
theorem num_13 (x y : Int) : Calls Tryz.prog 92 #[.int .i64 x, .int .i64 y] w fun e w' => e = .returned (.bool (cmpN 13 x y)) ∧ Below w.heap.size w w' := by
  go_enter Tryz.func92, Tryz.ntmps92
  go_wp2_with fail
  go_ret
  exact ⟨rfl, Below.refl _ _⟩
set_option maxHeartbeats 1600000 in
set_option maxRecDepth 100000 in
theorem prim_floor {x y : Int} (hx : Sm x) (hy : Sm y) (h0 : y ≠ 0) : Calls Tryz.prog 82 #[.int .i64 x, .int .i64 y] w fun e w' => e = .returned (.int .i64 (floorQ x y)) ∧ w = w' := by
  have hq := tdiv_small (y := y) hx
  have hm := tmod_small (y := y) hx
  have hz : (y == 0) = false := by rw [beq_eq_false_iff_ne]; exact h0
  by_cases c1 : x.tmod y = 0
  · have hf : floorQ x y = x.tdiv y := by unfold floorQ; rw [if_neg (fun h => h.1 c1)]
    have e1 : (x.tmod y != 0) = false := by rw [c1]; rfl
    rw [hf]
    clear hf hx hy
    go_enter Tryz.func82, Tryz.ntmps82
    go_wp2_with fail
    go_ret
    exact ⟨rfl, rfl⟩
  · have e1 : (x.tmod y != 0) = true := by rw [bne_iff_ne]; exact c1
    cases hdd : (decide (x < 0) != decide (y < 0)) with
    | false =>
      have hdd2 : (decide (x < 0) == decide (y < 0)) = true := by simpa using hdd
      have hf : floorQ x y = x.tdiv y := by
        unfold floorQ
        rw [if_neg]
        rintro ⟨_, h⟩
        apply h
        have h2 : decide (x < 0) = decide (y < 0) := by simpa using hdd
        exact decide_eq_decide.1 h2
      rw [hf]
      clear hf hx hy c1
      go_enter Tryz.func82, Tryz.ntmps82
      go_wp2_with fail
      go_ret
      exact ⟨rfl, rfl⟩
    | true =>
      have hdd2 : (decide (x < 0) == decide (y < 0)) = false := by simpa using hdd
      have hf : floorQ x y = x.tdiv y - 1 := by
        unfold floorQ
        rw [if_pos]
        refine ⟨c1, fun h => ?_⟩
        have h2 : decide (x < 0) = decide (y < 0) := decide_eq_decide.2 h
        rw [h2] at hdd
        simp at hdd
      rw [hf]
      clear hf hx hy c1
      go_enter Tryz.func82, Tryz.ntmps82
      go_wp2_with fail
      go_ret
      exact ⟨rfl, rfl⟩
end
section
variable {w : World}
set_option maxHeartbeats 1600000 in
set_option maxRecDepth 100000 in
theorem num_4 {x y : Int} (hx : Sm x) (hy : Sm y) {a : Nat} (RA : Row w a 126 [.func (.func 76) #[] #[]]) :
    Calls Tryz.prog 81 #[.int .i64 x, .int .i64 y, .pointer (some ⟨a, 0, none⟩)] w fun e w' => FnAns (opN 4 x y) e ∧ Below w.heap.size w w' := by
  have SX := Lib.hid (fun X (hb : Below w.heap.size w X) => show X.cell? ⟨a, 0, none⟩ = some (.func (.func 76) #[] #[]) from (RA.below hb RA.lt).cell_at 0)
  have hX := SX.out _ (Below.refl _ _).drew
  have c0 := SX.out _ (Below.refl _ _)
  have HA := Lib.hid (fun X z => num_all (w := X) z)
  by_cases h0 : y = 0
  · subst h0
    clear RA hX hx hy
    go_enter Tryz.func81, Tryz.ntmps81
    go_wp2_with fail
    go_ret2
    exact ⟨rfl, Below.refl _ _⟩
  · have hz : (y == 0) = false := by rw [beq_eq_false_iff_ne]; exact h0
    have hn : opN 4 x y = some (floorQ x y) := if_neg h0
    rw [hn]
    have hfb := floor_small (y := y) hx
    have hqb := tdiv_small (y := y) hx
    have hmb := tmod_small (y := y) hx
    have hfm := floor_mul hx hy
    have hw1 : IntKind.i64.wrap (x.tdiv y) = x.tdiv y := by rw [IntKind.wrap_i64]; omega
    have hw3 : IntKind.i64.wrap (floorQ x y * y) = floorQ x y * y := by rw [IntKind.wrap_i64]; omega
    have hx' := hx
    unfold Sm at hx'
    have hw4 : IntKind.i64.wrap (x - floorQ x y * y) = x - floorQ x y * y := by rw [IntKind.wrap_i64]; omega
    clear hx'
    have HFl := Lib.hid (fun X => prim_floor (w := X) hx hy h0)
    have HBd := Lib.hid (show (-1073741824 ≤ x ∧ x ≤ 1073741823) ∧ (-1073741824 ≤ y ∧ y ≤ 1073741823) from ⟨hx, hy⟩)
    obtain ⟨⟨x1, x2⟩, ⟨y1, y2⟩⟩ := HBd.out
    clear RA hx hy hn HBd
    go_enter Tryz.func81, Tryz.ntmps81
    go_wp2_with fail
    refine wp_region_held (S := fun X => X.cell? ⟨a, 0, none⟩ = some (.func (.func 76) #[] #[])) (by kernel_rfl) ?_
    refine wpAnyH_take_at (i := 0) (v := .func (.func 76) #[] #[]) 9 rfl rfl (by kernel_rfl) (by kernel_rfl) (by kernel_rfl) (fun _ _ _ h => h) (.inl ⟨rfl, fun X hX => by go_simp⟩) hX ?_
    simp only [Act.put, List.setIfInBounds_toArray, List.set_cons_zero, List.set_cons_succ]
    refine wpAnyH_take_at (i := 1) (v := .int .i64 x) 10 rfl rfl (by kernel_rfl) (by kernel_rfl) (by kernel_rfl) (fun _ _ _ h => h) (.inl ⟨rfl, fun X hX => by go_simp⟩) hX ?_
    simp only [Act.put, List.setIfInBounds_toArray, List.set_cons_zero, List.set_cons_succ]
    refine wpAnyH_take_at (i := 2) (v := .int .i64 y) 11 rfl rfl (by kernel_rfl) (by kernel_rfl) (by kernel_rfl) (fun _ _ _ h => h) (.inl ⟨rfl, fun X hX => by go_simp⟩) hX ?_
    simp only [Act.put, List.setIfInBounds_toArray, List.set_cons_zero, List.set_cons_succ]
    refine wpAnyH_all (rs := [3]) (by kernel_rfl) (by decide) (fun i hi => ?_)
    rw [List.mem_singleton] at hi
    subst hi
    unfold wpOp
    go_simp
    refine .inl ((HFl.out _).mono ?_)
    rintro e X1 ⟨rfl, rfl⟩
    refine ⟨hX, ?_⟩
    (try simp only [Act.put, List.setIfInBounds_toArray, List.set_cons_zero, List.set_cons_succ])
    refine wpAnyH_all (rs := [4]) (by kernel_rfl) (by decide) (fun i hi => ?_)
    rw [List.mem_singleton] at hi
    subst hi
    unfold wpOp
    go_simp
    refine .inl ((HA.out _ _).mono ?_)
    rintro e X2 ⟨rfl, rfl⟩
    refine ⟨hX, ?_⟩
    (try simp only [Act.put, List.setIfInBounds_toArray, List.set_cons_zero, List.set_cons_succ])
    refine wpAnyH_take_at (i := 5) (v := .int .i64 (floorQ x y)) 14 rfl rfl (by kernel_rfl) (by kernel_rfl) (by kernel_rfl) (fun _ _ _ h => h) (.inl ⟨rfl, fun X hX => by go_simp⟩) hX ?_
    simp only [Act.put, List.setIfInBounds_toArray, List.set_cons_zero, List.set_cons_succ]
    refine wpAnyH_take_at (i := 6) (v := .bool true) 15 rfl rfl (by kernel_rfl) (by kernel_rfl) (by kernel_rfl) (fun _ _ _ h => h) (.inl ⟨rfl, fun X hX => by go_simp⟩) hX ?_
    simp only [Act.put, List.setIfInBounds_toArray, List.set_cons_zero, List.set_cons_succ]
    refine wpAnyH_take_at (i := 7) (v := .int .i64 (floorQ x y)) 5 rfl rfl (by kernel_rfl) (by kernel_rfl) (by kernel_rfl) (fun _ _ _ h => h) (.inl ⟨rfl, fun X hX => by go_simp⟩) hX ?_
    simp only [Act.put, List.setIfInBounds_toArray, List.set_cons_zero, List.set_cons_succ]
    refine wpAnyH_take_at (i := 8) (v := .bool true) 6 rfl rfl (by kernel_rfl) (by kernel_rfl) (by kernel_rfl) (fun _ _ _ h => h) (.inl ⟨rfl, fun X hX => by go_simp⟩) hX ?_
    simp only [Act.put, List.setIfInBounds_toArray, List.set_cons_zero, List.set_cons_succ]
    refine wpAnyH_done (by kernel_rfl) ?_ _
    go_wp2_with fail
    go_ret2
    exact ⟨rfl, (Below.refl _ _).drew⟩
set_option maxHeartbeats 1600000 in
set_option maxRecDepth 100000 in
theorem num_5 {x y : Int} (hx : Sm x) (hy : Sm y) {a : Nat} (RA : Row w a 126 [.func (.func 76) #[] #[]]) :
    Calls Tryz.prog 83 #[.int .i64 x, .int .i64 y, .pointer (some ⟨a, 0, none⟩)] w fun e w' => FnAns (opN 5 x y) e ∧ Below w.heap.size w w' := by
  have SX := Lib.hid (fun X (hb : Below w.heap.size w X) => show X.cell? ⟨a, 0, none⟩ = some (.func (.func 76) #[] #[]) from (RA.below hb RA.lt).cell_at 0)
  have hX := SX.out _ (Below.refl _ _).drew
  have c0 := SX.out _ (Below.refl _ _)
  have HA := Lib.hid (fun X z => num_all (w := X) z)
  by_cases h0 : y = 0
  · subst h0
    clear RA hX hx hy
    go_enter Tryz.func83, Tryz.ntmps83
    go_wp2_with fail
    go_ret2
    exact ⟨rfl, Below.refl _ _⟩
  · have hz : (y == 0) = false := by rw [beq_eq_false_iff_ne]; exact h0
    have hn : opN 5 x y = some (x - floorQ x y * y) := if_neg h0
    rw [hn]
    have hfb := floor_small (y := y) hx
    have hqb := tdiv_small (y := y) hx
    have hmb := tmod_small (y := y) hx
    have hfm := floor_mul hx hy
    have hw1 : IntKind.i64.wrap (x.tdiv y) = x.tdiv y := by rw [IntKind.wrap_i64]; omega
    have hw3 : IntKind.i64.wrap (floorQ x y * y) = floorQ x y * y := by rw [IntKind.wrap_i64]; omega
    have hx' := hx
    unfold Sm at hx'
    have hw4 : IntKind.i64.wrap (x - floorQ x y * y) = x - floorQ x y * y := by rw [IntKind.wrap_i64]; omega
    clear hx'
    have HFl := Lib.hid (fun X => prim_floor (w := X) hx hy h0)
    have HBd := Lib.hid (show (-1073741824 ≤ x ∧ x ≤ 1073741823) ∧ (-1073741824 ≤ y ∧ y ≤ 1073741823) from ⟨hx, hy⟩)
    obtain ⟨⟨x1, x2⟩, ⟨y1, y2⟩⟩ := HBd.out
    clear RA hx hy hn HBd
    go_enter Tryz.func83, Tryz.ntmps83
    go_wp2_with fail
    refine wp_region_held (S := fun X => X.cell? ⟨a, 0, none⟩ = some (.func (.func 76) #[] #[])) (by kernel_rfl) ?_
    refine wpAnyH_take_at (i := 0) (v := .func (.func 76) #[] #[]) 9 rfl rfl (by kernel_rfl) (by kernel_rfl) (by kernel_rfl) (fun _ _ _ h => h) (.inl ⟨rfl, fun X hX => by go_simp⟩) hX ?_
    simp only [Act.put, List.setIfInBounds_toArray, List.set_cons_zero, List.set_cons_succ]
    refine wpAnyH_take_at (i := 1) (v := .int .i64 x) 10 rfl rfl (by kernel_rfl) (by kernel_rfl) (by kernel_rfl) (fun _ _ _ h => h) (.inl ⟨rfl, fun X hX => by go_simp⟩) hX ?_
    simp only [Act.put, List.setIfInBounds_toArray, List.set_cons_zero, List.set_cons_succ]
    refine wpAnyH_take_at (i := 2) (v := .int .i64 x) 11 rfl rfl (by kernel_rfl) (by kernel_rfl) (by kernel_rfl) (fun _ _ _ h => h) (.inl ⟨rfl, fun X hX => by go_simp⟩) hX ?_
    simp only [Act.put, List.setIfInBounds_toArray, List.set_cons_zero, List.set_cons_succ]
    refine wpAnyH_take_at (i := 3) (v := .int .i64 y) 12 rfl rfl (by kernel_rfl) (by kernel_rfl) (by kernel_rfl) (fun _ _ _ h => h) (.inl ⟨rfl, fun X hX => by go_simp⟩) hX ?_
    simp only [Act.put, List.setIfInBounds_toArray, List.set_cons_zero, List.set_cons_succ]
    refine wpAnyH_take_at (i := 5) (v := .int .i64 y) 14 rfl rfl (by kernel_rfl) (by kernel_rfl) (by kernel_rfl) (fun _ _ _ h => h) (.inl ⟨rfl, fun X hX => by go_simp⟩) hX ?_
    simp only [Act.put, List.setIfInBounds_toArray, List.set_cons_zero, List.set_cons_succ]
    refine wpAnyH_all (rs := [4]) (by kernel_rfl) (by decide) (fun i hi => ?_)
    rw [List.mem_singleton] at hi
    subst hi
    unfold wpOp
    go_simp
    refine .inl ((HFl.out _).mono ?_)
    rintro e X1 ⟨rfl, rfl⟩
    refine ⟨hX, ?_⟩
    (try simp only [Act.put, List.setIfInBounds_toArray, List.set_cons_zero, List.set_cons_succ])
    refine wpAnyH_take_at (i := 6) (v := .int .i64 (floorQ x y * y)) 15 rfl rfl (by kernel_rfl) (by kernel_rfl) (by kernel_rfl) (fun _ _ _ h => h) (.inl ⟨rfl, fun X hX => by go_simp⟩) hX ?_
    simp only [Act.put, List.setIfInBounds_toArray, List.set_cons_zero, List.set_cons_succ]
    refine wpAnyH_take_at (i := 7) (v := .int .i64 (x - floorQ x y * y)) 16 rfl rfl (by kernel_rfl) (by kernel_rfl) (by kernel_rfl) (fun _ _ _ h => h) (.inl ⟨rfl, fun X hX => by go_simp⟩) hX ?_
    simp only [Act.put, List.setIfInBounds_toArray, List.set_cons_zero, List.set_cons_succ]
    refine wpAnyH_all (rs := [8]) (by kernel_rfl) (by decide) (fun i hi => ?_)
    rw [List.mem_singleton] at hi
    subst hi
    unfold wpOp
    go_simp
    refine .inl ((HA.out _ _).mono ?_)
    rintro e X2 ⟨rfl, rfl⟩
    refine ⟨hX, ?_⟩
    (try simp only [Act.put, List.setIfInBounds_toArray, List.set_cons_zero, List.set_cons_succ])
    refine wpAnyH_take_at (i := 9) (v := .int .i64 (x - floorQ x y * y)) 18 rfl rfl (by kernel_rfl) (by kernel_rfl) (by kernel_rfl) (fun _ _ _ h => h) (.inl ⟨rfl, fun X hX => by go_simp⟩) hX ?_
    simp only [Act.put, List.setIfInBounds_toArray, List.set_cons_zero, List.set_cons_succ]
    refine wpAnyH_take_at (i := 10) (v := .bool true) 19 rfl rfl (by kernel_rfl) (by kernel_rfl) (by kernel_rfl) (fun _ _ _ h => h) (.inl ⟨rfl, fun X hX => by go_simp⟩) hX ?_
    simp only [Act.put, List.setIfInBounds_toArray, List.set_cons_zero, List.set_cons_succ]
    refine wpAnyH_take_at (i := 11) (v := .int .i64 (x - floorQ x y * y)) 5 rfl rfl (by kernel_rfl) (by kernel_rfl) (by kernel_rfl) (fun _ _ _ h => h) (.inl ⟨rfl, fun X hX => by go_simp⟩) hX ?_
    simp only [Act.put, List.setIfInBounds_toArray, List.set_cons_zero, List.set_cons_succ]
    refine wpAnyH_take_at (i := 12) (v := .bool true) 6 rfl rfl (by kernel_rfl) (by kernel_rfl) (by kernel_rfl) (fun _ _ _ h => h) (.inl ⟨rfl, fun X hX => by go_simp⟩) hX ?_
    simp only [Act.put, List.setIfInBounds_toArray, List.set_cons_zero, List.set_cons_succ]
    refine wpAnyH_done (by kernel_rfl) ?_ _
    go_wp2_with fail
    go_ret2
    exact ⟨rfl, (Below.refl _ _).drew⟩
set_option maxHeartbeats 1600000 in
set_option maxRecDepth 100000 in
theorem num_6 {x y : Int} (hx : Sm x) (hy : Sm y) {a : Nat} (RA : Row w a 126 [.func (.func 76) #[] #[]]) :
    Calls Tryz.prog 84 #[.int .i64 x, .int .i64 y, .pointer (some ⟨a, 0, none⟩)] w fun e w' => FnAns (opN 6 x y) e ∧ Below w.heap.size w w' := by
  have SX := Lib.hid (fun X (hb : Below w.heap.size w X) => show X.cell? ⟨a, 0, none⟩ = some (.func (.func 76) #[] #[]) from (RA.below hb RA.lt).cell_at 0)
  have hX := SX.out _ (Below.refl _ _).drew
  have c0 := SX.out _ (Below.refl _ _)
  have HA := Lib.hid (fun X z => num_all (w := X) z)
  by_cases h0 : y = 0
  · subst h0
    clear RA hX hx hy
    go_enter Tryz.func84, Tryz.ntmps84
    go_wp2_with fail
    go_ret2
    exact ⟨rfl, Below.refl _ _⟩
  · have hz : (y == 0) = false := by rw [beq_eq_false_iff_ne]; exact h0
    have hn : opN 6 x y = some (x.tdiv y) := if_neg h0
    rw [hn]
    have hfb := floor_small (y := y) hx
    have hqb := tdiv_small (y := y) hx
    have hmb := tmod_small (y := y) hx
    have hfm := floor_mul hx hy
    have hw1 : IntKind.i64.wrap (x.tdiv y) = x.tdiv y := by rw [IntKind.wrap_i64]; omega
    have hw3 : IntKind.i64.wrap (floorQ x y * y) = floorQ x y * y := by rw [IntKind.wrap_i64]; omega
    have hx' := hx
    unfold Sm at hx'
    have hw4 : IntKind.i64.wrap (x - floorQ x y * y) = x - floorQ x y * y := by rw [IntKind.wrap_i64]; omega
    clear hx'
    have HFl := Lib.hid (fun X => prim_floor (w := X) hx hy h0)
    have HBd := Lib.hid (show (-1073741824 ≤ x ∧ x ≤ 1073741823) ∧ (-1073741824 ≤ y ∧ y ≤ 1073741823) from ⟨hx, hy⟩)
    obtain ⟨⟨x1, x2⟩, ⟨y1, y2⟩⟩ := HBd.out
    clear RA hx hy hn HBd
    go_enter Tryz.func84, Tryz.ntmps84
    go_wp2_with fail
    refine wp_region_held (S := fun X => X.cell? ⟨a, 0, none⟩ = some (.func (.func 76) #[] #[])) (by kernel_rfl) ?_
    refine wpAnyH_take_at (i := 0) (v := .func (.func 76) #[] #[]) 9 rfl rfl (by kernel_rfl) (by kernel_rfl) (by kernel_rfl) (fun _ _ _ h => h) (.inl ⟨rfl, fun X hX => by go_simp⟩) hX ?_
    simp only [Act.put, List.setIfInBounds_toArray, List.set_cons_zero, List.set_cons_succ]
    refine wpAnyH_take_at (i := 1) (v := .int .i64 x) 10 rfl rfl (by kernel_rfl) (by kernel_rfl) (by kernel_rfl) (fun _ _ _ h => h) (.inl ⟨rfl, fun X hX => by go_simp⟩) hX ?_
    simp only [Act.put, List.setIfInBounds_toArray, List.set_cons_zero, List.set_cons_succ]
    refine wpAnyH_take_at (i := 2) (v := .int .i64 y) 11 rfl rfl (by kernel_rfl) (by kernel_rfl) (by kernel_rfl) (fun _ _ _ h => h) (.inl ⟨rfl, fun X hX => by go_simp⟩) hX ?_
    simp only [Act.put, List.setIfInBounds_toArray, List.set_cons_zero, List.set_cons_succ]
    refine wpAnyH_take_at (i := 3) (v := .int .i64 (x.tdiv y)) 12 rfl rfl (by kernel_rfl) (by kernel_rfl) (by kernel_rfl) (fun _ _ _ h => h) (.inl ⟨rfl, fun X hX => by go_simp⟩) hX ?_
    simp only [Act.put, List.setIfInBounds_toArray, List.set_cons_zero, List.set_cons_succ]
    refine wpAnyH_all (rs := [4]) (by kernel_rfl) (by decide) (fun i hi => ?_)
    rw [List.mem_singleton] at hi
    subst hi
    unfold wpOp
    go_simp
    refine .inl ((HA.out _ _).mono ?_)
    rintro e X1 ⟨rfl, rfl⟩
    refine ⟨hX, ?_⟩
    (try simp only [Act.put, List.setIfInBounds_toArray, List.set_cons_zero, List.set_cons_succ])
    refine wpAnyH_take_at (i := 5) (v := .int .i64 (x.tdiv y)) 14 rfl rfl (by kernel_rfl) (by kernel_rfl) (by kernel_rfl) (fun _ _ _ h => h) (.inl ⟨rfl, fun X hX => by go_simp⟩) hX ?_
    simp only [Act.put, List.setIfInBounds_toArray, List.set_cons_zero, List.set_cons_succ]
    refine wpAnyH_take_at (i := 6) (v := .bool true) 15 rfl rfl (by kernel_rfl) (by kernel_rfl) (by kernel_rfl) (fun _ _ _ h => h) (.inl ⟨rfl, fun X hX => by go_simp⟩) hX ?_
    simp only [Act.put, List.setIfInBounds_toArray, List.set_cons_zero, List.set_cons_succ]
    refine wpAnyH_take_at (i := 7) (v := .int .i64 (x.tdiv y)) 5 rfl rfl (by kernel_rfl) (by kernel_rfl) (by kernel_rfl) (fun _ _ _ h => h) (.inl ⟨rfl, fun X hX => by go_simp⟩) hX ?_
    simp only [Act.put, List.setIfInBounds_toArray, List.set_cons_zero, List.set_cons_succ]
    refine wpAnyH_take_at (i := 8) (v := .bool true) 6 rfl rfl (by kernel_rfl) (by kernel_rfl) (by kernel_rfl) (fun _ _ _ h => h) (.inl ⟨rfl, fun X hX => by go_simp⟩) hX ?_
    simp only [Act.put, List.setIfInBounds_toArray, List.set_cons_zero, List.set_cons_succ]
    refine wpAnyH_done (by kernel_rfl) ?_ _
    go_wp2_with fail
    go_ret2
    exact ⟨rfl, (Below.refl _ _).drew⟩
set_option maxHeartbeats 1600000 in
set_option maxRecDepth 100000 in
theorem num_7 {x y : Int} (hx : Sm x) (hy : Sm y) {a : Nat} (RA : Row w a 126 [.func (.func 76) #[] #[]]) :
    Calls Tryz.prog 85 #[.int .i64 x, .int .i64 y, .pointer (some ⟨a, 0, none⟩)] w fun e w' => FnAns (opN 7 x y) e ∧ Below w.heap.size w w' := by
  have SX := Lib.hid (fun X (hb : Below w.heap.size w X) => show X.cell? ⟨a, 0, none⟩ = some (.func (.func 76) #[] #[]) from (RA.below hb RA.lt).cell_at 0)
  have hX := SX.out _ (Below.refl _ _).drew
  have c0 := SX.out _ (Below.refl _ _)
  have HA := Lib.hid (fun X z => num_all (w := X) z)
  by_cases h0 : y = 0
  · subst h0
    clear RA hX hx hy
    go_enter Tryz.func85, Tryz.ntmps85
    go_wp2_with fail
    go_ret2
    exact ⟨rfl, Below.refl _ _⟩
  · have hz : (y == 0) = false := by rw [beq_eq_false_iff_ne]; exact h0
    have hn : opN 7 x y = some (x.tmod y) := if_neg h0
    rw [hn]
    have hfb := floor_small (y := y) hx
    have hqb := tdiv_small (y := y) hx
    have hmb := tmod_small (y := y) hx
    have hfm := floor_mul hx hy
    have hw1 : IntKind.i64.wrap (x.tdiv y) = x.tdiv y := by rw [IntKind.wrap_i64]; omega
    have hw3 : IntKind.i64.wrap (floorQ x y * y) = floorQ x y * y := by rw [IntKind.wrap_i64]; omega
    have hx' := hx
    unfold Sm at hx'
    have hw4 : IntKind.i64.wrap (x - floorQ x y * y) = x - floorQ x y * y := by rw [IntKind.wrap_i64]; omega
    clear hx'
    have HFl := Lib.hid (fun X => prim_floor (w := X) hx hy h0)
    have HBd := Lib.hid (show (-1073741824 ≤ x ∧ x ≤ 1073741823) ∧ (-1073741824 ≤ y ∧ y ≤ 1073741823) from ⟨hx, hy⟩)
    obtain ⟨⟨x1, x2⟩, ⟨y1, y2⟩⟩ := HBd.out
    clear RA hx hy hn HBd
    go_enter Tryz.func85, Tryz.ntmps85
    go_wp2_with fail
    refine wp_region_held (S := fun X => X.cell? ⟨a, 0, none⟩ = some (.func (.func 76) #[] #[])) (by kernel_rfl) ?_
    refine wpAnyH_take_at (i := 0) (v := .func (.func 76) #[] #[]) 9 rfl rfl (by kernel_rfl) (by kernel_rfl) (by kernel_rfl) (fun _ _ _ h => h) (.inl ⟨rfl, fun X hX => by go_simp⟩) hX ?_
    simp only [Act.put, List.setIfInBounds_toArray, List.set_cons_zero, List.set_cons_succ]
    refine wpAnyH_take_at (i := 1) (v := .int .i64 x) 10 rfl rfl (by kernel_rfl) (by kernel_rfl) (by kernel_rfl) (fun _ _ _ h => h) (.inl ⟨rfl, fun X hX => by go_simp⟩) hX ?_
    simp only [Act.put, List.setIfInBounds_toArray, List.set_cons_zero, List.set_cons_succ]
    refine wpAnyH_take_at (i := 2) (v := .int .i64 y) 11 rfl rfl (by kernel_rfl) (by kernel_rfl) (by kernel_rfl) (fun _ _ _ h => h) (.inl ⟨rfl, fun X hX => by go_simp⟩) hX ?_
    simp only [Act.put, List.setIfInBounds_toArray, List.set_cons_zero, List.set_cons_succ]
    refine wpAnyH_take_at (i := 3) (v := .int .i64 (x.tmod y)) 12 rfl rfl (by kernel_rfl) (by kernel_rfl) (by kernel_rfl) (fun _ _ _ h => h) (.inl ⟨rfl, fun X hX => by go_simp⟩) hX ?_
    simp only [Act.put, List.setIfInBounds_toArray, List.set_cons_zero, List.set_cons_succ]
    refine wpAnyH_all (rs := [4]) (by kernel_rfl) (by decide) (fun i hi => ?_)
    rw [List.mem_singleton] at hi
    subst hi
    unfold wpOp
    go_simp
    refine .inl ((HA.out _ _).mono ?_)
    rintro e X1 ⟨rfl, rfl⟩
    refine ⟨hX, ?_⟩
    (try simp only [Act.put, List.setIfInBounds_toArray, List.set_cons_zero, List.set_cons_succ])
    refine wpAnyH_take_at (i := 5) (v := .int .i64 (x.tmod y)) 14 rfl rfl (by kernel_rfl) (by kernel_rfl) (by kernel_rfl) (fun _ _ _ h => h) (.inl ⟨rfl, fun X hX => by go_simp⟩) hX ?_
    simp only [Act.put, List.setIfInBounds_toArray, List.set_cons_zero, List.set_cons_succ]
    refine wpAnyH_take_at (i := 6) (v := .bool true) 15 rfl rfl (by kernel_rfl) (by kernel_rfl) (by kernel_rfl) (fun _ _ _ h => h) (.inl ⟨rfl, fun X hX => by go_simp⟩) hX ?_
    simp only [Act.put, List.setIfInBounds_toArray, List.set_cons_zero, List.set_cons_succ]
    refine wpAnyH_take_at (i := 7) (v := .int .i64 (x.tmod y)) 5 rfl rfl (by kernel_rfl) (by kernel_rfl) (by kernel_rfl) (fun _ _ _ h => h) (.inl ⟨rfl, fun X hX => by go_simp⟩) hX ?_
    simp only [Act.put, List.setIfInBounds_toArray, List.set_cons_zero, List.set_cons_succ]
    refine wpAnyH_take_at (i := 8) (v := .bool true) 6 rfl rfl (by kernel_rfl) (by kernel_rfl) (by kernel_rfl) (fun _ _ _ h => h) (.inl ⟨rfl, fun X hX => by go_simp⟩) hX ?_
    simp only [Act.put, List.setIfInBounds_toArray, List.set_cons_zero, List.set_cons_succ]
    refine wpAnyH_done (by kernel_rfl) ?_ _
    go_wp2_with fail
    go_ret2
    exact ⟨rfl, (Below.refl _ _).drew⟩
set_option maxHeartbeats 1600000 in
set_option maxRecDepth 100000 in
theorem num_17 {x y : Int} (hx : Sm x) (hy : Sm y) : Calls Tryz.prog 96 #[.int .i64 x, .int .i64 y] w fun e w' => FnAns (opN 17 x y) e ∧ Below w.heap.size w w' := by
  obtain ⟨x1, x2⟩ := hx
  obtain ⟨y1, y2⟩ := hy
  show Calls _ _ _ _ fun e w' => FnAns (shiftQ x y) e ∧ Below w.heap.size w w'
  by_cases c0 : x = 0
  · subst c0
    rw [shift_zero]
    go_enter Tryz.func96, Tryz.ntmps96
    go_wp2_with fail
    go_ret2
    exact ⟨rfl, Below.refl _ _⟩
  · have e0 : (x == 0) = false := by rw [beq_eq_false_iff_ne]; exact c0
    by_cases c1 : 31 < y
    · have d1 : decide (31 < y) = true := decide_eq_true c1
      have hs : shiftQ x y = none := by unfold shiftQ; rw [if_neg c0, if_pos c1]
      rw [hs]
      clear hs
      go_enter Tryz.func96, Tryz.ntmps96
      go_wp2_with fail
      go_ret2
      exact ⟨rfl, Below.refl _ _⟩
    · have d1 : decide (31 < y) = false := decide_eq_false c1
      by_cases c2 : 0 ≤ y
      · have d2 : decide (0 ≤ y) = true := decide_eq_true c2
        have hs : shiftQ x y = some (x * 2 ^ y.toNat) := by unfold shiftQ; rw [if_neg c0, if_neg c1, if_pos c2]
        have hw : wrap64 (x * 2 ^ y.toNat) = x * 2 ^ y.toNat := by
          have h2 : (2 : Nat) ^ y.toNat ≤ 2 ^ 31 := Nat.pow_le_pow_right (by decide) (by omega)
          have h3 : (x * 2 ^ y.toNat).natAbs ≤ 1073741824 * 2 ^ 31 := by
            rw [Int.natAbs_mul, Int.natAbs_pow]
            exact Nat.mul_le_mul (by omega) h2
          unfold wrap64; omega
        rw [hs]
        clear hs
        go_enter Tryz.func96, Tryz.ntmps96
        go_wp2_with fail
        (try rw [hw])
        go_ret2
        exact ⟨rfl, Below.refl _ _⟩
      · have d2 : decide (0 ≤ y) = false := decide_eq_false c2
        have hs : shiftQ x y = some (x / 2 ^ (min (-y) 60).toNat) := by unfold shiftQ; rw [if_neg c0, if_neg c1, if_neg c2]
        rw [hs]
        clear hs
        go_enter Tryz.func96, Tryz.ntmps96
        go_wp2_with fail
        go_ret2
        exact ⟨rfl, Below.refl _ _⟩
end
end Go.Proofs.YteiikhcadjdkcaaGreatDoor
