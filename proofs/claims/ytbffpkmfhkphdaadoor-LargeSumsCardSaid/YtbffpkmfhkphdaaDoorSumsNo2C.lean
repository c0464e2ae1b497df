/- The walk of LargeSums: no2. -/
import Derived.Test.YtbffpkmfhkphdaaDoorGAid
import Derived.Deep.DeepCutAuto
namespace Go.Proofs.YtbffpkmfhkphdaaDoor
open Go Go.RowKit Limb

set_option maxHeartbeats 16000000 in
set_option maxRecDepth 1000000 in
theorem sums_no2 (w : World) (b1 b2 : Bool) (a1 a2 : Option Addr) (l1 l2 : List Nat) (n1 n2 c1 c2 : Nat) (h1 : Came w b1 a1 n1 l1) (h2 : Came w b2 a2 n2 l2) (m1 : n1 ≤ 35184372088832) (m2 : n2 ≤ 35184372088832) (hm : mayB b1 l1 = true) (hm' : mayB b2 l2 = false) :
    Calls Tryd.prog 4 #[.agg #[.bool b1, .slice a1 n1 c1], .agg #[.bool b2, .slice a2 n2 c2]] w fun e w' => e = .returned (.bool true) ∧ Below w.heap.size w w' := by
  obtain ⟨W, hWe, r2, r3, hB, hsz⟩ := rows2 w 24 (.bool b1) (.slice a1 n1 c1) (.bool b2) (.slice a2 n2 c2)
  have HWe := Lib.hid hWe; clear hWe
  have hk1 := fun X (h : Below W.heap.size W X) => since_kept (c := c1) (h1.below hB) m1 h
  have hk2 := fun X (h : Below W.heap.size W X) => since_kept (c := c2) (h2.below hB) m2 h
  have hk := fun X (h : Below W.heap.size W X) => show X.cell? ⟨w.heap.size, 0, none⟩ = some (.bool b1) ∧ X.cell? ⟨w.heap.size, 1, none⟩ = some (.slice a1 n1 c1) ∧ X.cell? ⟨w.heap.size + 1, 0, none⟩ = some (.bool b2) ∧ X.cell? ⟨w.heap.size + 1, 1, none⟩ = some (.slice a2 n2 c2) from ⟨(r2.below h r2.lt).cells.1, (r2.below h r2.lt).cells.2, (r3.below h r3.lt).cells.1, (r3.below h r3.lt).cells.2⟩
  have HK := Lib.hid hk; clear hk
  have HK1 := Lib.hid hk1; clear hk1
  have HK2 := Lib.hid hk2; clear hk2
  go_enter Tryd.func4, Tryd.ntmps4
  go_upto_region 1 with fail
  rw [← HWe.out]
  go_cut [5, 6] (fun s5 s6 wx => TwoKept W b1 b2 n1 n2 l1 l2 s5 s6 wx)
  case first =>
    clear h1 h2 m1 m2 r2 r3 hB hsz HWe
    have hX : Below W.heap.size W W.drew := (Below.refl _ _).drew
    refine wp_region_S (n := 6) (S := fun X => Below W.heap.size W X) (by kernel_rfl) (by decide) (fun inv => ?_)
    refine wpAnyS_take_at (i := 0) (v := .agg #[.bool b1, .slice a1 n1 c1]) 16 inv rfl rfl (by kernel_rfl) (by kernel_rfl) (by kernel_rfl) (by decide) (by decide) (by kernel_rfl) (by kernel_rfl) (fun _ _ _ h => h) (.inl ⟨rfl, fun X hX => by obtain ⟨h0, h1, h2, h3⟩ := HK.out X hX; go_simp⟩) hX (fun inv => ?_)
    simp only [Act.put, List.setIfInBounds_toArray, List.set_cons_zero, List.set_cons_succ]
    refine wpAnyS_take_at (i := 2) (v := .agg #[.bool b2, .slice a2 n2 c2]) 18 inv rfl rfl (by kernel_rfl) (by kernel_rfl) (by kernel_rfl) (by decide) (by decide) (by kernel_rfl) (by kernel_rfl) (fun _ _ _ h => h) (.inl ⟨rfl, fun X hX => by obtain ⟨h0, h1, h2, h3⟩ := HK.out X hX; go_simp⟩) hX (fun inv => ?_)
    simp only [Act.put, List.setIfInBounds_toArray, List.set_cons_zero, List.set_cons_succ]
    refine wpAnyS_many [1, 4, 5] inv (by decide) (by decide) (by kernel_rfl) (fun i hi inv => ?_)
    simp only [List.mem_cons, List.not_mem_nil, or_false] at hi
    rcases hi with rfl | rfl | rfl
    · unfold wpOp
      go_simp
      refine .inl ((HK1.out _ hX).mono ?_)
      rintro e X1 ⟨⟨a5, c5, rfl, H5⟩, hb, hXn⟩
      refine ⟨hXn, ?_⟩
      clear hb hX
      have hX := hXn; clear hXn
      refine wpAnyS_many [3, 4, 5] inv (by decide) (by decide) (by kernel_rfl) (fun i hi inv => ?_)
      simp only [List.mem_cons, List.not_mem_nil, or_false] at hi
      rcases hi with rfl | rfl | rfl
      · unfold wpOp
        go_simp
        refine .inl ((HK2.out _ hX).mono ?_)
        rintro e X2 ⟨⟨a6, c6, rfl, H6⟩, hb, hXn⟩
        replace H5 := Lib.hid (And.intro H5.out.1 (H5.out.2.below hb))
        refine ⟨hXn, ?_⟩
        clear hb hX
        have hX := hXn; clear hXn
        refine wpAnyS_many [4, 5] inv (by decide) (by decide) (by kernel_rfl) (fun i hi inv => ?_)
        simp only [List.mem_cons, List.not_mem_nil, or_false] at hi
        rcases hi with rfl | rfl
        · refine wpOp_alloc_int (o := _) rfl rfl rfl (fun X3 g5 r5 hb hg5 hlt5 => ?_)
          replace H5 := Lib.hid (And.intro H5.out.1 (H5.out.2.below hb))
          replace H6 := Lib.hid (And.intro H6.out.1 (H6.out.2.below hb))
          replace hg5 : W.heap.size ≤ g5 := Nat.le_trans hX.size hg5
          clear hlt5
          have hXn := hX.trans (hb.mono hX.size)
          refine ⟨hXn, ?_⟩
          simp only [Act.put, List.setIfInBounds_toArray, List.set_cons_zero, List.set_cons_succ]
          clear hb hX
          have hX := hXn; clear hXn
          refine wpAnyS_many [5] inv (by decide) (by decide) (by kernel_rfl) (fun i hi inv => ?_)
          rw [List.mem_singleton] at hi
          subst hi
          refine wpOp_alloc_int (o := _) rfl rfl rfl (fun X4 g6 r6 hb hg6 hlt6 => ?_)
          have hne : g5 ≠ g6 := by have := r5.lt; omega
          replace r5 := r5.below hb r5.lt
          replace H5 := Lib.hid (And.intro H5.out.1 (H5.out.2.below hb))
          replace H6 := Lib.hid (And.intro H6.out.1 (H6.out.2.below hb))
          replace hg6 : W.heap.size ≤ g6 := Nat.le_trans hX.size hg6
          clear hlt6
          have hXn := hX.trans (hb.mono hX.size)
          refine ⟨hXn, ?_⟩
          simp only [Act.put, List.setIfInBounds_toArray, List.set_cons_zero, List.set_cons_succ]
          clear hb hX
          have hX := hXn; clear hXn
          refine wpAnyS_tail (by decide) ?_
          obtain ⟨U, hU, f0, f1, f2, f3, hBU, hlay⟩ := pair2 (w := W) (.bool b1) (.slice a5 n1 c5) (.bool b2) (.slice a6 n2 c6) r5 r6 hne hX hg5 hg6
          have hUs : X4.heap.size ≤ U.heap.size := by rw [hU]; simp only [World.setCell, Array.size_modify]; exact Nat.le_refl _
          have HF : Hid (Cell2 U g5 (.bool b1) (.slice a5 n1 c5) ∧ Cell2 U g6 (.bool b2) (.slice a6 n2 c6) ∧ Lay .u32 U a5 l1 ∧ Lay .u32 U a6 l2 ∧ Below W.heap.size W U) :=
            Lib.hid ⟨⟨Nat.lt_of_lt_of_le r5.lt hUs, f0, f1⟩, ⟨Nat.lt_of_lt_of_le r6.lt hUs, f2, f3⟩, hlay _ _ H5.out.2, hlay _ _ H6.out.2, hBU⟩
          have k50 := r5.cell_at 0
          have k51 := r5.cell_at 1
          have f50 := r5.free 0
          have f51 := r5.free 1
          have k60 := r6.cell_at 0
          have k61 := r6.cell_at 1
          have f60 := r6.free 0
          have f61 := r6.free 1
          simp only [List.getElem?_cons_zero, List.getElem?_cons_succ] at k50 k51 k60 k61
          have hne' : g6 ≠ g5 := Ne.symm hne
          have HU := Lib.hid hU; clear hU
          clear r5 r6 f0 f1 f2 f3 hBU hlay hUs hX
          refine wpAny_one (i := 6) (by kernel_rfl) ?_
          unfold wpOp
          go_simp
          refine .inl (wpAny_one (i := 7) (by kernel_rfl) ?_)
          unfold wpOp
          go_simp
          refine .inl (wpAny_done (by kernel_rfl) ?_ _)
          go_wp2_with fail; go_meet; rw [← HU.out]; exact ⟨g5, g6, a5, c5, a6, c6, rfl, rfl, HF.out.1, HF.out.2.1, HF.out.2.2.1, HF.out.2.2.2.1, HF.out.2.2.2.2⟩
        · refine wpOp_alloc_int (o := _) rfl rfl rfl (fun X3 g6 r6 hb hg6 hlt6 => ?_)
          replace H5 := Lib.hid (And.intro H5.out.1 (H5.out.2.below hb))
          replace H6 := Lib.hid (And.intro H6.out.1 (H6.out.2.below hb))
          replace hg6 : W.heap.size ≤ g6 := Nat.le_trans hX.size hg6
          clear hlt6
          have hXn := hX.trans (hb.mono hX.size)
          refine ⟨hXn, ?_⟩
          simp only [Act.put, List.setIfInBounds_toArray, List.set_cons_zero, List.set_cons_succ]
          clear hb hX
          have hX := hXn; clear hXn
          refine wpAnyS_many [4] inv (by decide) (by decide) (by kernel_rfl) (fun i hi inv => ?_)
          rw [List.mem_singleton] at hi
          subst hi
          refine wpOp_alloc_int (o := _) rfl rfl rfl (fun X4 g5 r5 hb hg5 hlt5 => ?_)
          have hne : g5 ≠ g6 := by have := r6.lt; omega
          replace r6 := r6.below hb r6.lt
          replace H5 := Lib.hid (And.intro H5.out.1 (H5.out.2.below hb))
          replace H6 := Lib.hid (And.intro H6.out.1 (H6.out.2.below hb))
          replace hg5 : W.heap.size ≤ g5 := Nat.le_trans hX.size hg5
          clear hlt5
          have hXn := hX.trans (hb.mono hX.size)
          refine ⟨hXn, ?_⟩
          simp only [Act.put, List.setIfInBounds_toArray, List.set_cons_zero, List.set_cons_succ]
          clear hb hX
          have hX := hXn; clear hXn
          refine wpAnyS_tail (by decide) ?_
          obtain ⟨U, hU, f0, f1, f2, f3, hBU, hlay⟩ := pair2 (w := W) (.bool b1) (.slice a5 n1 c5) (.bool b2) (.slice a6 n2 c6) r5 r6 hne hX hg5 hg6
          have hUs : X4.heap.size ≤ U.heap.size := by rw [hU]; simp only [World.setCell, Array.size_modify]; exact Nat.le_refl _
          have HF : Hid (Cell2 U g5 (.bool b1) (.slice a5 n1 c5) ∧ Cell2 U g6 (.bool b2) (.slice a6 n2 c6) ∧ Lay .u32 U a5 l1 ∧ Lay .u32 U a6 l2 ∧ Below W.heap.size W U) :=
            Lib.hid ⟨⟨Nat.lt_of_lt_of_le r5.lt hUs, f0, f1⟩, ⟨Nat.lt_of_lt_of_le r6.lt hUs, f2, f3⟩, hlay _ _ H5.out.2, hlay _ _ H6.out.2, hBU⟩
          have k50 := r5.cell_at 0
          have k51 := r5.cell_at 1
          have f50 := r5.free 0
          have f51 := r5.free 1
          have k60 := r6.cell_at 0
          have k61 := r6.cell_at 1
          have f60 := r6.free 0
          have f61 := r6.free 1
          simp only [List.getElem?_cons_zero, List.getElem?_cons_succ] at k50 k51 k60 k61
          have hne' : g6 ≠ g5 := Ne.symm hne
          have HU := Lib.hid hU; clear hU
          clear r5 r6 f0 f1 f2 f3 hBU hlay hUs hX
          refine wpAny_one (i := 6) (by kernel_rfl) ?_
          unfold wpOp
          go_simp
          refine .inl (wpAny_one (i := 7) (by kernel_rfl) ?_)
          unfold wpOp
          go_simp
          refine .inl (wpAny_done (by kernel_rfl) ?_ _)
          go_wp2_with fail; go_meet; rw [← HU.out]; exact ⟨g5, g6, a5, c5, a6, c6, rfl, rfl, HF.out.1, HF.out.2.1, HF.out.2.2.1, HF.out.2.2.2.1, HF.out.2.2.2.2⟩
      · refine wpOp_alloc_int (o := _) rfl rfl rfl (fun X2 g5 r5 hb hg5 hlt5 => ?_)
        replace H5 := Lib.hid (And.intro H5.out.1 (H5.out.2.below hb))
        replace hg5 : W.heap.size ≤ g5 := Nat.le_trans hX.size hg5
        clear hlt5
        have hXn := hX.trans (hb.mono hX.size)
        refine ⟨hXn, ?_⟩
        simp only [Act.put, List.setIfInBounds_toArray, List.set_cons_zero, List.set_cons_succ]
        clear hb hX
        have hX := hXn; clear hXn
        refine wpAnyS_many [3, 5] inv (by decide) (by decide) (by kernel_rfl) (fun i hi inv => ?_)
        simp only [List.mem_cons, List.not_mem_nil, or_false] at hi
        rcases hi with rfl | rfl
        · unfold wpOp
          go_simp
          refine .inl ((HK2.out _ hX).mono ?_)
          rintro e X3 ⟨⟨a6, c6, rfl, H6⟩, hb, hXn⟩
          replace H5 := Lib.hid (And.intro H5.out.1 (H5.out.2.below hb))
          replace r5 := r5.below hb r5.lt
          refine ⟨hXn, ?_⟩
          clear hb hX
          have hX := hXn; clear hXn
          refine wpAnyS_many [5] inv (by decide) (by decide) (by kernel_rfl) (fun i hi inv => ?_)
          rw [List.mem_singleton] at hi
          subst hi
          refine wpOp_alloc_int (o := _) rfl rfl rfl (fun X4 g6 r6 hb hg6 hlt6 => ?_)
          have hne : g5 ≠ g6 := by have := r5.lt; omega
          replace r5 := r5.below hb r5.lt
          replace H5 := Lib.hid (And.intro H5.out.1 (H5.out.2.below hb))
          replace H6 := Lib.hid (And.intro H6.out.1 (H6.out.2.below hb))
          replace hg6 : W.heap.size ≤ g6 := Nat.le_trans hX.size hg6
          clear hlt6
          have hXn := hX.trans (hb.mono hX.size)
          refine ⟨hXn, ?_⟩
          simp only [Act.put, List.setIfInBounds_toArray, List.set_cons_zero, List.set_cons_succ]
          clear hb hX
          have hX := hXn; clear hXn
          refine wpAnyS_tail (by decide) ?_
          obtain ⟨U, hU, f0, f1, f2, f3, hBU, hlay⟩ := pair2 (w := W) (.bool b1) (.slice a5 n1 c5) (.bool b2) (.slice a6 n2 c6) r5 r6 hne hX hg5 hg6
          have hUs : X4.heap.size ≤ U.heap.size := by rw [hU]; simp only [World.setCell, Array.size_modify]; exact Nat.le_refl _
          have HF : Hid (Cell2 U g5 (.bool b1) (.slice a5 n1 c5) ∧ Cell2 U g6 (.bool b2) (.slice a6 n2 c6) ∧ Lay .u32 U a5 l1 ∧ Lay .u32 U a6 l2 ∧ Below W.heap.size W U) :=
            Lib.hid ⟨⟨Nat.lt_of_lt_of_le r5.lt hUs, f0, f1⟩, ⟨Nat.lt_of_lt_of_le r6.lt hUs, f2, f3⟩, hlay _ _ H5.out.2, hlay _ _ H6.out.2, hBU⟩
          have k50 := r5.cell_at 0
          have k51 := r5.cell_at 1
          have f50 := r5.free 0
          have f51 := r5.free 1
          have k60 := r6.cell_at 0
          have k61 := r6.cell_at 1
          have f60 := r6.free 0
          have f61 := r6.free 1
          simp only [List.getElem?_cons_zero, List.getElem?_cons_succ] at k50 k51 k60 k61
          have hne' : g6 ≠ g5 := Ne.symm hne
          have HU := Lib.hid hU; clear hU
          clear r5 r6 f0 f1 f2 f3 hBU hlay hUs hX
          refine wpAny_one (i := 6) (by kernel_rfl) ?_
          unfold wpOp
          go_simp
          refine .inl (wpAny_one (i := 7) (by kernel_rfl) ?_)
          unfold wpOp
          go_simp
          refine .inl (wpAny_done (by kernel_rfl) ?_ _)
          go_wp2_with fail; go_meet; rw [← HU.out]; exact ⟨g5, g6, a5, c5, a6, c6, rfl, rfl, HF.out.1, HF.out.2.1, HF.out.2.2.1, HF.out.2.2.2.1, HF.out.2.2.2.2⟩
        · refine wpOp_alloc_int (o := _) rfl rfl rfl (fun X3 g6 r6 hb hg6 hlt6 => ?_)
          have hne : g5 ≠ g6 := by have := r5.lt; omega
          replace r5 := r5.below hb r5.lt
          replace H5 := Lib.hid (And.intro H5.out.1 (H5.out.2.below hb))
          replace hg6 : W.heap.size ≤ g6 := Nat.le_trans hX.size hg6
          clear hlt6
          have hXn := hX.trans (hb.mono hX.size)
          refine ⟨hXn, ?_⟩
          simp only [Act.put, List.setIfInBounds_toArray, List.set_cons_zero, List.set_cons_succ]
          clear hb hX
          have hX := hXn; clear hXn
          refine wpAnyS_many [3] inv (by decide) (by decide) (by kernel_rfl) (fun i hi inv => ?_)
          rw [List.mem_singleton] at hi
          subst hi
          unfold wpOp
          go_simp
          refine .inl ((HK2.out _ hX).mono ?_)
          rintro e X4 ⟨⟨a6, c6, rfl, H6⟩, hb, hXn⟩
          replace H5 := Lib.hid (And.intro H5.out.1 (H5.out.2.below hb))
          replace r5 := r5.below hb r5.lt
          replace r6 := r6.below hb r6.lt
          refine ⟨hXn, ?_⟩
          clear hb hX
          have hX := hXn; clear hXn
          refine wpAnyS_tail (by decide) ?_
          obtain ⟨U, hU, f0, f1, f2, f3, hBU, hlay⟩ := pair2 (w := W) (.bool b1) (.slice a5 n1 c5) (.bool b2) (.slice a6 n2 c6) r5 r6 hne hX hg5 hg6
          have hUs : X4.heap.size ≤ U.heap.size := by rw [hU]; simp only [World.setCell, Array.size_modify]; exact Nat.le_refl _
          have HF : Hid (Cell2 U g5 (.bool b1) (.slice a5 n1 c5) ∧ Cell2 U g6 (.bool b2) (.slice a6 n2 c6) ∧ Lay .u32 U a5 l1 ∧ Lay .u32 U a6 l2 ∧ Below W.heap.size W U) :=
            Lib.hid ⟨⟨Nat.lt_of_lt_of_le r5.lt hUs, f0, f1⟩, ⟨Nat.lt_of_lt_of_le r6.lt hUs, f2, f3⟩, hlay _ _ H5.out.2, hlay _ _ H6.out.2, hBU⟩
          have k50 := r5.cell_at 0
          have k51 := r5.cell_at 1
          have f50 := r5.free 0
          have f51 := r5.free 1
          have k60 := r6.cell_at 0
          have k61 := r6.cell_at 1
          have f60 := r6.free 0
          have f61 := r6.free 1
          simp only [List.getElem?_cons_zero, List.getElem?_cons_succ] at k50 k51 k60 k61
          have hne' : g6 ≠ g5 := Ne.symm hne
          have HU := Lib.hid hU; clear hU
          clear r5 r6 f0 f1 f2 f3 hBU hlay hUs hX
          refine wpAny_one (i := 6) (by kernel_rfl) ?_
          unfold wpOp
          go_simp
          refine .inl (wpAny_one (i := 7) (by kernel_rfl) ?_)
          unfold wpOp
          go_simp
          refine .inl (wpAny_done (by kernel_rfl) ?_ _)
          go_wp2_with fail; go_meet; rw [← HU.out]; exact ⟨g5, g6, a5, c5, a6, c6, rfl, rfl, HF.out.1, HF.out.2.1, HF.out.2.2.1, HF.out.2.2.2.1, HF.out.2.2.2.2⟩
      · refine wpOp_alloc_int (o := _) rfl rfl rfl (fun X2 g6 r6 hb hg6 hlt6 => ?_)
        replace H5 := Lib.hid (And.intro H5.out.1 (H5.out.2.below hb))
        replace hg6 : W.heap.size ≤ g6 := Nat.le_trans hX.size hg6
        clear hlt6
        have hXn := hX.trans (hb.mono hX.size)
        refine ⟨hXn, ?_⟩
        simp only [Act.put, List.setIfInBounds_toArray, List.set_cons_zero, List.set_cons_succ]
        clear hb hX
        have hX := hXn; clear hXn
        refine wpAnyS_many [3, 4] inv (by decide) (by decide) (by kernel_rfl) (fun i hi inv => ?_)
        simp only [List.mem_cons, List.not_mem_nil, or_false] at hi
        rcases hi with rfl | rfl
        · unfold wpOp
          go_simp
          refine .inl ((HK2.out _ hX).mono ?_)
          rintro e X3 ⟨⟨a6, c6, rfl, H6⟩, hb, hXn⟩
          replace H5 := Lib.hid (And.intro H5.out.1 (H5.out.2.below hb))
          replace r6 := r6.below hb r6.lt
          refine ⟨hXn, ?_⟩
          clear hb hX
          have hX := hXn; clear hXn
          refine wpAnyS_many [4] inv (by decide) (by decide) (by kernel_rfl) (fun i hi inv => ?_)
          rw [List.mem_singleton] at hi
          subst hi
          refine wpOp_alloc_int (o := _) rfl rfl rfl (fun X4 g5 r5 hb hg5 hlt5 => ?_)
          have hne : g5 ≠ g6 := by have := r6.lt; omega
          replace r6 := r6.below hb r6.lt
          replace H5 := Lib.hid (And.intro H5.out.1 (H5.out.2.below hb))
          replace H6 := Lib.hid (And.intro H6.out.1 (H6.out.2.below hb))
          replace hg5 : W.heap.size ≤ g5 := Nat.le_trans hX.size hg5
          clear hlt5
          have hXn := hX.trans (hb.mono hX.size)
          refine ⟨hXn, ?_⟩
          simp only [Act.put, List.setIfInBounds_toArray, List.set_cons_zero, List.set_cons_succ]
          clear hb hX
          have hX := hXn; clear hXn
          refine wpAnyS_tail (by decide) ?_
          obtain ⟨U, hU, f0, f1, f2, f3, hBU, hlay⟩ := pair2 (w := W) (.bool b1) (.slice a5 n1 c5) (.bool b2) (.slice a6 n2 c6) r5 r6 hne hX hg5 hg6
          have hUs : X4.heap.size ≤ U.heap.size := by rw [hU]; simp only [World.setCell, Array.size_modify]; exact Nat.le_refl _
          have HF : Hid (Cell2 U g5 (.bool b1) (.slice a5 n1 c5) ∧ Cell2 U g6 (.bool b2) (.slice a6 n2 c6) ∧ Lay .u32 U a5 l1 ∧ Lay .u32 U a6 l2 ∧ Below W.heap.size W U) :=
            Lib.hid ⟨⟨Nat.lt_of_lt_of_le r5.lt hUs, f0, f1⟩, ⟨Nat.lt_of_lt_of_le r6.lt hUs, f2, f3⟩, hlay _ _ H5.out.2, hlay _ _ H6.out.2, hBU⟩
          have k50 := r5.cell_at 0
          have k51 := r5.cell_at 1
          have f50 := r5.free 0
          have f51 := r5.free 1
          have k60 := r6.cell_at 0
          have k61 := r6.cell_at 1
          have f60 := r6.free 0
          have f61 := r6.free 1
          simp only [List.getElem?_cons_zero, List.getElem?_cons_succ] at k50 k51 k60 k61
          have hne' : g6 ≠ g5 := Ne.symm hne
          have HU := Lib.hid hU; clear hU
          clear r5 r6 f0 f1 f2 f3 hBU hlay hUs hX
          refine wpAny_one (i := 6) (by kernel_rfl) ?_
          unfold wpOp
          go_simp
          refine .inl (wpAny_one (i := 7) (by kernel_rfl) ?_)
          unfold wpOp
          go_simp
          refine .inl (wpAny_done (by kernel_rfl) ?_ _)
          go_wp2_with fail; go_meet; rw [← HU.out]; exact ⟨g5, g6, a5, c5, a6, c6, rfl, rfl, HF.out.1, HF.out.2.1, HF.out.2.2.1, HF.out.2.2.2.1, HF.out.2.2.2.2⟩
        · refine wpOp_alloc_int (o := _) rfl rfl rfl (fun X3 g5 r5 hb hg5 hlt5 => ?_)
          have hne : g5 ≠ g6 := by have := r6.lt; omega
          replace r6 := r6.below hb r6.lt
          replace H5 := Lib.hid (And.intro H5.out.1 (H5.out.2.below hb))
          replace hg5 : W.heap.size ≤ g5 := Nat.le_trans hX.size hg5
          clear hlt5
          have hXn := hX.trans (hb.mono hX.size)
          refine ⟨hXn, ?_⟩
          simp only [Act.put, List.setIfInBounds_toArray, List.set_cons_zero, List.set_cons_succ]
          clear hb hX
          have hX := hXn; clear hXn
          refine wpAnyS_many [3] inv (by decide) (by decide) (by kernel_rfl) (fun i hi inv => ?_)
          rw [List.mem_singleton] at hi
          subst hi
          unfold wpOp
          go_simp
          refine .inl ((HK2.out _ hX).mono ?_)
          rintro e X4 ⟨⟨a6, c6, rfl, H6⟩, hb, hXn⟩
          replace H5 := Lib.hid (And.intro H5.out.1 (H5.out.2.below hb))
          replace r5 := r5.below hb r5.lt
          replace r6 := r6.below hb r6.lt
          refine ⟨hXn, ?_⟩
          clear hb hX
          have hX := hXn; clear hXn
          refine wpAnyS_tail (by decide) ?_
          obtain ⟨U, hU, f0, f1, f2, f3, hBU, hlay⟩ := pair2 (w := W) (.bool b1) (.slice a5 n1 c5) (.bool b2) (.slice a6 n2 c6) r5 r6 hne hX hg5 hg6
          have hUs : X4.heap.size ≤ U.heap.size := by rw [hU]; simp only [World.setCell, Array.size_modify]; exact Nat.le_refl _
          have HF : Hid (Cell2 U g5 (.bool b1) (.slice a5 n1 c5) ∧ Cell2 U g6 (.bool b2) (.slice a6 n2 c6) ∧ Lay .u32 U a5 l1 ∧ Lay .u32 U a6 l2 ∧ Below W.heap.size W U) :=
            Lib.hid ⟨⟨Nat.lt_of_lt_of_le r5.lt hUs, f0, f1⟩, ⟨Nat.lt_of_lt_of_le r6.lt hUs, f2, f3⟩, hlay _ _ H5.out.2, hlay _ _ H6.out.2, hBU⟩
          have k50 := r5.cell_at 0
          have k51 := r5.cell_at 1
          have f50 := r5.free 0
          have f51 := r5.free 1
          have k60 := r6.cell_at 0
          have k61 := r6.cell_at 1
          have f60 := r6.free 0
          have f61 := r6.free 1
          simp only [List.getElem?_cons_zero, List.getElem?_cons_succ] at k50 k51 k60 k61
          have hne' : g6 ≠ g5 := Ne.symm hne
          have HU := Lib.hid hU; clear hU
          clear r5 r6 f0 f1 f2 f3 hBU hlay hUs hX
          refine wpAny_one (i := 6) (by kernel_rfl) ?_
          unfold wpOp
          go_simp
          refine .inl (wpAny_one (i := 7) (by kernel_rfl) ?_)
          unfold wpOp
          go_simp
          refine .inl (wpAny_done (by kernel_rfl) ?_ _)
          go_wp2_with fail; go_meet; rw [← HU.out]; exact ⟨g5, g6, a5, c5, a6, c6, rfl, rfl, HF.out.1, HF.out.2.1, HF.out.2.2.1, HF.out.2.2.2.1, HF.out.2.2.2.2⟩
    · refine wpOp_alloc_int (o := _) rfl rfl rfl (fun X1 g5 r5 hb hg5 hlt5 => ?_)
      replace hg5 : W.heap.size ≤ g5 := Nat.le_trans hX.size hg5
      clear hlt5
      have hXn := hX.trans (hb.mono hX.size)
      refine ⟨hXn, ?_⟩
      simp only [Act.put, List.setIfInBounds_toArray, List.set_cons_zero, List.set_cons_succ]
      clear hb hX
      have hX := hXn; clear hXn
      refine wpAnyS_many [1, 5] inv (by decide) (by decide) (by kernel_rfl) (fun i hi inv => ?_)
      simp only [List.mem_cons, List.not_mem_nil, or_false] at hi
      rcases hi with rfl | rfl
      · unfold wpOp
        go_simp
        refine .inl ((HK1.out _ hX).mono ?_)
        rintro e X2 ⟨⟨a5, c5, rfl, H5⟩, hb, hXn⟩
        replace r5 := r5.below hb r5.lt
        refine ⟨hXn, ?_⟩
        clear hb hX
        have hX := hXn; clear hXn
        refine wpAnyS_many [3, 5] inv (by decide) (by decide) (by kernel_rfl) (fun i hi inv => ?_)
        simp only [List.mem_cons, List.not_mem_nil, or_false] at hi
        rcases hi with rfl | rfl
        · unfold wpOp
          go_simp
          refine .inl ((HK2.out _ hX).mono ?_)
          rintro e X3 ⟨⟨a6, c6, rfl, H6⟩, hb, hXn⟩
          replace H5 := Lib.hid (And.intro H5.out.1 (H5.out.2.below hb))
          replace r5 := r5.below hb r5.lt
          refine ⟨hXn, ?_⟩
          clear hb hX
          have hX := hXn; clear hXn
          refine wpAnyS_many [5] inv (by decide) (by decide) (by kernel_rfl) (fun i hi inv => ?_)
          rw [List.mem_singleton] at hi
          subst hi
          refine wpOp_alloc_int (o := _) rfl rfl rfl (fun X4 g6 r6 hb hg6 hlt6 => ?_)
          have hne : g5 ≠ g6 := by have := r5.lt; omega
          replace r5 := r5.below hb r5.lt
          replace H5 := Lib.hid (And.intro H5.out.1 (H5.out.2.below hb))
          replace H6 := Lib.hid (And.intro H6.out.1 (H6.out.2.below hb))
          replace hg6 : W.heap.size ≤ g6 := Nat.le_trans hX.size hg6
          clear hlt6
          have hXn := hX.trans (hb.mono hX.size)
          refine ⟨hXn, ?_⟩
          simp only [Act.put, List.setIfInBounds_toArray, List.set_cons_zero, List.set_cons_succ]
          clear hb hX
          have hX := hXn; clear hXn
          refine wpAnyS_tail (by decide) ?_
          obtain ⟨U, hU, f0, f1, f2, f3, hBU, hlay⟩ := pair2 (w := W) (.bool b1) (.slice a5 n1 c5) (.bool b2) (.slice a6 n2 c6) r5 r6 hne hX hg5 hg6
          have hUs : X4.heap.size ≤ U.heap.size := by rw [hU]; simp only [World.setCell, Array.size_modify]; exact Nat.le_refl _
          have HF : Hid (Cell2 U g5 (.bool b1) (.slice a5 n1 c5) ∧ Cell2 U g6 (.bool b2) (.slice a6 n2 c6) ∧ Lay .u32 U a5 l1 ∧ Lay .u32 U a6 l2 ∧ Below W.heap.size W U) :=
            Lib.hid ⟨⟨Nat.lt_of_lt_of_le r5.lt hUs, f0, f1⟩, ⟨Nat.lt_of_lt_of_le r6.lt hUs, f2, f3⟩, hlay _ _ H5.out.2, hlay _ _ H6.out.2, hBU⟩
          have k50 := r5.cell_at 0
          have k51 := r5.cell_at 1
          have f50 := r5.free 0
          have f51 := r5.free 1
          have k60 := r6.cell_at 0
          have k61 := r6.cell_at 1
          have f60 := r6.free 0
          have f61 := r6.free 1
          simp only [List.getElem?_cons_zero, List.getElem?_cons_succ] at k50 k51 k60 k61
          have hne' : g6 ≠ g5 := Ne.symm hne
          have HU := Lib.hid hU; clear hU
          clear r5 r6 f0 f1 f2 f3 hBU hlay hUs hX
          refine wpAny_one (i := 6) (by kernel_rfl) ?_
          unfold wpOp
          go_simp
          refine .inl (wpAny_one (i := 7) (by kernel_rfl) ?_)
          unfold wpOp
          go_simp
          refine .inl (wpAny_done (by kernel_rfl) ?_ _)
          go_wp2_with fail; go_meet; rw [← HU.out]; exact ⟨g5, g6, a5, c5, a6, c6, rfl, rfl, HF.out.1, HF.out.2.1, HF.out.2.2.1, HF.out.2.2.2.1, HF.out.2.2.2.2⟩
        · refine wpOp_alloc_int (o := _) rfl rfl rfl (fun X3 g6 r6 hb hg6 hlt6 => ?_)
          have hne : g5 ≠ g6 := by have := r5.lt; omega
          replace r5 := r5.below hb r5.lt
          replace H5 := Lib.hid (And.intro H5.out.1 (H5.out.2.below hb))
          replace hg6 : W.heap.size ≤ g6 := Nat.le_trans hX.size hg6
          clear hlt6
          have hXn := hX.trans (hb.mono hX.size)
          refine ⟨hXn, ?_⟩
          simp only [Act.put, List.setIfInBounds_toArray, List.set_cons_zero, List.set_cons_succ]
          clear hb hX
          have hX := hXn; clear hXn
          refine wpAnyS_many [3] inv (by decide) (by decide) (by kernel_rfl) (fun i hi inv => ?_)
          rw [List.mem_singleton] at hi
          subst hi
          unfold wpOp
          go_simp
          refine .inl ((HK2.out _ hX).mono ?_)
          rintro e X4 ⟨⟨a6, c6, rfl, H6⟩, hb, hXn⟩
          replace H5 := Lib.hid (And.intro H5.out.1 (H5.out.2.below hb))
          replace r5 := r5.below hb r5.lt
          replace r6 := r6.below hb r6.lt
          refine ⟨hXn, ?_⟩
          clear hb hX
          have hX := hXn; clear hXn
          refine wpAnyS_tail (by decide) ?_
          obtain ⟨U, hU, f0, f1, f2, f3, hBU, hlay⟩ := pair2 (w := W) (.bool b1) (.slice a5 n1 c5) (.bool b2) (.slice a6 n2 c6) r5 r6 hne hX hg5 hg6
          have hUs : X4.heap.size ≤ U.heap.size := by rw [hU]; simp only [World.setCell, Array.size_modify]; exact Nat.le_refl _
          have HF : Hid (Cell2 U g5 (.bool b1) (.slice a5 n1 c5) ∧ Cell2 U g6 (.bool b2) (.slice a6 n2 c6) ∧ Lay .u32 U a5 l1 ∧ Lay .u32 U a6 l2 ∧ Below W.heap.size W U) :=
            Lib.hid ⟨⟨Nat.lt_of_lt_of_le r5.lt hUs, f0, f1⟩, ⟨Nat.lt_of_lt_of_le r6.lt hUs, f2, f3⟩, hlay _ _ H5.out.2, hlay _ _ H6.out.2, hBU⟩
          have k50 := r5.cell_at 0
          have k51 := r5.cell_at 1
          have f50 := r5.free 0
          have f51 := r5.free 1
          have k60 := r6.cell_at 0
          have k61 := r6.cell_at 1
          have f60 := r6.free 0
          have f61 := r6.free 1
          simp only [List.getElem?_cons_zero, List.getElem?_cons_succ] at k50 k51 k60 k61
          have hne' : g6 ≠ g5 := Ne.symm hne
          have HU := Lib.hid hU; clear hU
          clear r5 r6 f0 f1 f2 f3 hBU hlay hUs hX
          refine wpAny_one (i := 6) (by kernel_rfl) ?_
          unfold wpOp
          go_simp
          refine .inl (wpAny_one (i := 7) (by kernel_rfl) ?_)
          unfold wpOp
          go_simp
          refine .inl (wpAny_done (by kernel_rfl) ?_ _)
          go_wp2_with fail; go_meet; rw [← HU.out]; exact ⟨g5, g6, a5, c5, a6, c6, rfl, rfl, HF.out.1, HF.out.2.1, HF.out.2.2.1, HF.out.2.2.2.1, HF.out.2.2.2.2⟩
      · refine wpOp_alloc_int (o := _) rfl rfl rfl (fun X2 g6 r6 hb hg6 hlt6 => ?_)
        have hne : g5 ≠ g6 := by have := r5.lt; omega
        replace r5 := r5.below hb r5.lt
        replace hg6 : W.heap.size ≤ g6 := Nat.le_trans hX.size hg6
        clear hlt6
        have hXn := hX.trans (hb.mono hX.size)
        refine ⟨hXn, ?_⟩
        simp only [Act.put, List.setIfInBounds_toArray, List.set_cons_zero, List.set_cons_succ]
        clear hb hX
        have hX := hXn; clear hXn
        refine wpAnyS_many [1] inv (by decide) (by decide) (by kernel_rfl) (fun i hi inv => ?_)
        rw [List.mem_singleton] at hi
        subst hi
        unfold wpOp
        go_simp
        refine .inl ((HK1.out _ hX).mono ?_)
        rintro e X3 ⟨⟨a5, c5, rfl, H5⟩, hb, hXn⟩
        replace r5 := r5.below hb r5.lt
        replace r6 := r6.below hb r6.lt
        refine ⟨hXn, ?_⟩
        clear hb hX
        have hX := hXn; clear hXn
        refine wpAnyS_many [3] inv (by decide) (by decide) (by kernel_rfl) (fun i hi inv => ?_)
        rw [List.mem_singleton] at hi
        subst hi
        unfold wpOp
        go_simp
        refine .inl ((HK2.out _ hX).mono ?_)
        rintro e X4 ⟨⟨a6, c6, rfl, H6⟩, hb, hXn⟩
        replace H5 := Lib.hid (And.intro H5.out.1 (H5.out.2.below hb))
        replace r5 := r5.below hb r5.lt
        replace r6 := r6.below hb r6.lt
        refine ⟨hXn, ?_⟩
        clear hb hX
        have hX := hXn; clear hXn
        refine wpAnyS_tail (by decide) ?_
        obtain ⟨U, hU, f0, f1, f2, f3, hBU, hlay⟩ := pair2 (w := W) (.bool b1) (.slice a5 n1 c5) (.bool b2) (.slice a6 n2 c6) r5 r6 hne hX hg5 hg6
        have hUs : X4.heap.size ≤ U.heap.size := by rw [hU]; simp only [World.setCell, Array.size_modify]; exact Nat.le_refl _
        have HF : Hid (Cell2 U g5 (.bool b1) (.slice a5 n1 c5) ∧ Cell2 U g6 (.bool b2) (.slice a6 n2 c6) ∧ Lay .u32 U a5 l1 ∧ Lay .u32 U a6 l2 ∧ Below W.heap.size W U) :=
          Lib.hid ⟨⟨Nat.lt_of_lt_of_le r5.lt hUs, f0, f1⟩, ⟨Nat.lt_of_lt_of_le r6.lt hUs, f2, f3⟩, hlay _ _ H5.out.2, hlay _ _ H6.out.2, hBU⟩
        have k50 := r5.cell_at 0
        have k51 := r5.cell_at 1
        have f50 := r5.free 0
        have f51 := r5.free 1
        have k60 := r6.cell_at 0
        have k61 := r6.cell_at 1
        have f60 := r6.free 0
        have f61 := r6.free 1
        simp only [List.getElem?_cons_zero, List.getElem?_cons_succ] at k50 k51 k60 k61
        have hne' : g6 ≠ g5 := Ne.symm hne
        have HU := Lib.hid hU; clear hU
        clear r5 r6 f0 f1 f2 f3 hBU hlay hUs hX
        refine wpAny_one (i := 6) (by kernel_rfl) ?_
        unfold wpOp
        go_simp
        refine .inl (wpAny_one (i := 7) (by kernel_rfl) ?_)
        unfold wpOp
        go_simp
        refine .inl (wpAny_done (by kernel_rfl) ?_ _)
        go_wp2_with fail; go_meet; rw [← HU.out]; exact ⟨g5, g6, a5, c5, a6, c6, rfl, rfl, HF.out.1, HF.out.2.1, HF.out.2.2.1, HF.out.2.2.2.1, HF.out.2.2.2.2⟩
    · refine wpOp_alloc_int (o := _) rfl rfl rfl (fun X1 g6 r6 hb hg6 hlt6 => ?_)
      replace hg6 : W.heap.size ≤ g6 := Nat.le_trans hX.size hg6
      clear hlt6
      have hXn := hX.trans (hb.mono hX.size)
      refine ⟨hXn, ?_⟩
      simp only [Act.put, List.setIfInBounds_toArray, List.set_cons_zero, List.set_cons_succ]
      clear hb hX
      have hX := hXn; clear hXn
      refine wpAnyS_many [1, 4] inv (by decide) (by decide) (by kernel_rfl) (fun i hi inv => ?_)
      simp only [List.mem_cons, List.not_mem_nil, or_false] at hi
      rcases hi with rfl | rfl
      · unfold wpOp
        go_simp
        refine .inl ((HK1.out _ hX).mono ?_)
        rintro e X2 ⟨⟨a5, c5, rfl, H5⟩, hb, hXn⟩
        replace r6 := r6.below hb r6.lt
        refine ⟨hXn, ?_⟩
        clear hb hX
        have hX := hXn; clear hXn
        refine wpAnyS_many [3, 4] inv (by decide) (by decide) (by kernel_rfl) (fun i hi inv => ?_)
        simp only [List.mem_cons, List.not_mem_nil, or_false] at hi
        rcases hi with rfl | rfl
        · unfold wpOp
          go_simp
          refine .inl ((HK2.out _ hX).mono ?_)
          rintro e X3 ⟨⟨a6, c6, rfl, H6⟩, hb, hXn⟩
          replace H5 := Lib.hid (And.intro H5.out.1 (H5.out.2.below hb))
          replace r6 := r6.below hb r6.lt
          refine ⟨hXn, ?_⟩
          clear hb hX
          have hX := hXn; clear hXn
          refine wpAnyS_many [4] inv (by decide) (by decide) (by kernel_rfl) (fun i hi inv => ?_)
          rw [List.mem_singleton] at hi
          subst hi
          refine wpOp_alloc_int (o := _) rfl rfl rfl (fun X4 g5 r5 hb hg5 hlt5 => ?_)
          have hne : g5 ≠ g6 := by have := r6.lt; omega
          replace r6 := r6.below hb r6.lt
          replace H5 := Lib.hid (And.intro H5.out.1 (H5.out.2.below hb))
          replace H6 := Lib.hid (And.intro H6.out.1 (H6.out.2.below hb))
          replace hg5 : W.heap.size ≤ g5 := Nat.le_trans hX.size hg5
          clear hlt5
          have hXn := hX.trans (hb.mono hX.size)
          refine ⟨hXn, ?_⟩
          simp only [Act.put, List.setIfInBounds_toArray, List.set_cons_zero, List.set_cons_succ]
          clear hb hX
          have hX := hXn; clear hXn
          refine wpAnyS_tail (by decide) ?_
          obtain ⟨U, hU, f0, f1, f2, f3, hBU, hlay⟩ := pair2 (w := W) (.bool b1) (.slice a5 n1 c5) (.bool b2) (.slice a6 n2 c6) r5 r6 hne hX hg5 hg6
          have hUs : X4.heap.size ≤ U.heap.size := by rw [hU]; simp only [World.setCell, Array.size_modify]; exact Nat.le_refl _
          have HF : Hid (Cell2 U g5 (.bool b1) (.slice a5 n1 c5) ∧ Cell2 U g6 (.bool b2) (.slice a6 n2 c6) ∧ Lay .u32 U a5 l1 ∧ Lay .u32 U a6 l2 ∧ Below W.heap.size W U) :=
            Lib.hid ⟨⟨Nat.lt_of_lt_of_le r5.lt hUs, f0, f1⟩, ⟨Nat.lt_of_lt_of_le r6.lt hUs, f2, f3⟩, hlay _ _ H5.out.2, hlay _ _ H6.out.2, hBU⟩
          have k50 := r5.cell_at 0
          have k51 := r5.cell_at 1
          have f50 := r5.free 0
          have f51 := r5.free 1
          have k60 := r6.cell_at 0
          have k61 := r6.cell_at 1
          have f60 := r6.free 0
          have f61 := r6.free 1
          simp only [List.getElem?_cons_zero, List.getElem?_cons_succ] at k50 k51 k60 k61
          have hne' : g6 ≠ g5 := Ne.symm hne
          have HU := Lib.hid hU; clear hU
          clear r5 r6 f0 f1 f2 f3 hBU hlay hUs hX
          refine wpAny_one (i := 6) (by kernel_rfl) ?_
          unfold wpOp
          go_simp
          refine .inl (wpAny_one (i := 7) (by kernel_rfl) ?_)
          unfold wpOp
          go_simp
          refine .inl (wpAny_done (by kernel_rfl) ?_ _)
          go_wp2_with fail; go_meet; rw [← HU.out]; exact ⟨g5, g6, a5, c5, a6, c6, rfl, rfl, HF.out.1, HF.out.2.1, HF.out.2.2.1, HF.out.2.2.2.1, HF.out.2.2.2.2⟩
        · refine wpOp_alloc_int (o := _) rfl rfl rfl (fun X3 g5 r5 hb hg5 hlt5 => ?_)
          have hne : g5 ≠ g6 := by have := r6.lt; omega
          replace r6 := r6.below hb r6.lt
          replace H5 := Lib.hid (And.intro H5.out.1 (H5.out.2.below hb))
          replace hg5 : W.heap.size ≤ g5 := Nat.le_trans hX.size hg5
          clear hlt5
          have hXn := hX.trans (hb.mono hX.size)
          refine ⟨hXn, ?_⟩
          simp only [Act.put, List.setIfInBounds_toArray, List.set_cons_zero, List.set_cons_succ]
          clear hb hX
          have hX := hXn; clear hXn
          refine wpAnyS_many [3] inv (by decide) (by decide) (by kernel_rfl) (fun i hi inv => ?_)
          rw [List.mem_singleton] at hi
          subst hi
          unfold wpOp
          go_simp
          refine .inl ((HK2.out _ hX).mono ?_)
          rintro e X4 ⟨⟨a6, c6, rfl, H6⟩, hb, hXn⟩
          replace H5 := Lib.hid (And.intro H5.out.1 (H5.out.2.below hb))
          replace r5 := r5.below hb r5.lt
          replace r6 := r6.below hb r6.lt
          refine ⟨hXn, ?_⟩
          clear hb hX
          have hX := hXn; clear hXn
          refine wpAnyS_tail (by decide) ?_
          obtain ⟨U, hU, f0, f1, f2, f3, hBU, hlay⟩ := pair2 (w := W) (.bool b1) (.slice a5 n1 c5) (.bool b2) (.slice a6 n2 c6) r5 r6 hne hX hg5 hg6
          have hUs : X4.heap.size ≤ U.heap.size := by rw [hU]; simp only [World.setCell, Array.size_modify]; exact Nat.le_refl _
          have HF : Hid (Cell2 U g5 (.bool b1) (.slice a5 n1 c5) ∧ Cell2 U g6 (.bool b2) (.slice a6 n2 c6) ∧ Lay .u32 U a5 l1 ∧ Lay .u32 U a6 l2 ∧ Below W.heap.size W U) :=
            Lib.hid ⟨⟨Nat.lt_of_lt_of_le r5.lt hUs, f0, f1⟩, ⟨Nat.lt_of_lt_of_le r6.lt hUs, f2, f3⟩, hlay _ _ H5.out.2, hlay _ _ H6.out.2, hBU⟩
          have k50 := r5.cell_at 0
          have k51 := r5.cell_at 1
          have f50 := r5.free 0
          have f51 := r5.free 1
          have k60 := r6.cell_at 0
          have k61 := r6.cell_at 1
          have f60 := r6.free 0
          have f61 := r6.free 1
          simp only [List.getElem?_cons_zero, List.getElem?_cons_succ] at k50 k51 k60 k61
          have hne' : g6 ≠ g5 := Ne.symm hne
          have HU := Lib.hid hU; clear hU
          clear r5 r6 f0 f1 f2 f3 hBU hlay hUs hX
          refine wpAny_one (i := 6) (by kernel_rfl) ?_
          unfold wpOp
          go_simp
          refine .inl (wpAny_one (i := 7) (by kernel_rfl) ?_)
          unfold wpOp
          go_simp
          refine .inl (wpAny_done (by kernel_rfl) ?_ _)
          go_wp2_with fail; go_meet; rw [← HU.out]; exact ⟨g5, g6, a5, c5, a6, c6, rfl, rfl, HF.out.1, HF.out.2.1, HF.out.2.2.1, HF.out.2.2.2.1, HF.out.2.2.2.2⟩
      · refine wpOp_alloc_int (o := _) rfl rfl rfl (fun X2 g5 r5 hb hg5 hlt5 => ?_)
        have hne : g5 ≠ g6 := by have := r6.lt; omega
        replace r6 := r6.below hb r6.lt
        replace hg5 : W.heap.size ≤ g5 := Nat.le_trans hX.size hg5
        clear hlt5
        have hXn := hX.trans (hb.mono hX.size)
        refine ⟨hXn, ?_⟩
        simp only [Act.put, List.setIfInBounds_toArray, List.set_cons_zero, List.set_cons_succ]
        clear hb hX
        have hX := hXn; clear hXn
        refine wpAnyS_many [1] inv (by decide) (by decide) (by kernel_rfl) (fun i hi inv => ?_)
        rw [List.mem_singleton] at hi
        subst hi
        unfold wpOp
        go_simp
        refine .inl ((HK1.out _ hX).mono ?_)
        rintro e X3 ⟨⟨a5, c5, rfl, H5⟩, hb, hXn⟩
        replace r5 := r5.below hb r5.lt
        replace r6 := r6.below hb r6.lt
        refine ⟨hXn, ?_⟩
        clear hb hX
        have hX := hXn; clear hXn
        refine wpAnyS_many [3] inv (by decide) (by decide) (by kernel_rfl) (fun i hi inv => ?_)
        rw [List.mem_singleton] at hi
        subst hi
        unfold wpOp
        go_simp
        refine .inl ((HK2.out _ hX).mono ?_)
        rintro e X4 ⟨⟨a6, c6, rfl, H6⟩, hb, hXn⟩
        replace H5 := Lib.hid (And.intro H5.out.1 (H5.out.2.below hb))
        replace r5 := r5.below hb r5.lt
        replace r6 := r6.below hb r6.lt
        refine ⟨hXn, ?_⟩
        clear hb hX
        have hX := hXn; clear hXn
        refine wpAnyS_tail (by decide) ?_
        obtain ⟨U, hU, f0, f1, f2, f3, hBU, hlay⟩ := pair2 (w := W) (.bool b1) (.slice a5 n1 c5) (.bool b2) (.slice a6 n2 c6) r5 r6 hne hX hg5 hg6
        have hUs : X4.heap.size ≤ U.heap.size := by rw [hU]; simp only [World.setCell, Array.size_modify]; exact Nat.le_refl _
        have HF : Hid (Cell2 U g5 (.bool b1) (.slice a5 n1 c5) ∧ Cell2 U g6 (.bool b2) (.slice a6 n2 c6) ∧ Lay .u32 U a5 l1 ∧ Lay .u32 U a6 l2 ∧ Below W.heap.size W U) :=
          Lib.hid ⟨⟨Nat.lt_of_lt_of_le r5.lt hUs, f0, f1⟩, ⟨Nat.lt_of_lt_of_le r6.lt hUs, f2, f3⟩, hlay _ _ H5.out.2, hlay _ _ H6.out.2, hBU⟩
        have k50 := r5.cell_at 0
        have k51 := r5.cell_at 1
        have f50 := r5.free 0
        have f51 := r5.free 1
        have k60 := r6.cell_at 0
        have k61 := r6.cell_at 1
        have f60 := r6.free 0
        have f61 := r6.free 1
        simp only [List.getElem?_cons_zero, List.getElem?_cons_succ] at k50 k51 k60 k61
        have hne' : g6 ≠ g5 := Ne.symm hne
        have HU := Lib.hid hU; clear hU
        clear r5 r6 f0 f1 f2 f3 hBU hlay hUs hX
        refine wpAny_one (i := 6) (by kernel_rfl) ?_
        unfold wpOp
        go_simp
        refine .inl (wpAny_one (i := 7) (by kernel_rfl) ?_)
        unfold wpOp
        go_simp
        refine .inl (wpAny_done (by kernel_rfl) ?_ _)
        go_wp2_with fail; go_meet; rw [← HU.out]; exact ⟨g5, g6, a5, c5, a6, c6, rfl, rfl, HF.out.1, HF.out.2.1, HF.out.2.2.1, HF.out.2.2.2.1, HF.out.2.2.2.2⟩
  case rest =>
    obtain ⟨g5, g6, a5, c5, a6, c6, rfl, rfl, r5, r6, H5, H6, hx⟩ := hcut
    replace r2 := r2.below hx r2.lt
    replace r3 := r3.below hx r3.lt
    replace hB := hB.trans (hx.mono hB.size)
    clear HK HK1 HK2 HWe hsz hx
    have hm1s := fun X (h : Below w.heap.size w X) => since_may (c := c1) (W := w) h1 h
    have hm2s := fun X (h : Below w.heap.size w X) => since_may (c := c2) (W := w) h2 h
    have hlm := fun X (h : Below w.heap.size w X) => large_May X b1 a1 l1 n1 c1 (h1.1.below h) h1.2.1 h1.2.2.1 h1.2.2.2
    have hcm := fun X (h : Below w.heap.size w X) => large_compare X b1 b2 a1 a2 l1 l2 n1 n2 c1 c2 (h1.1.below h) (h2.1.below h) h1.2.1 h2.2.1 h1.2.2.1 h2.2.2.1 h1.2.2.2 h2.2.2.2
    have hs1 := fun X (h : Below w.heap.size w X) (k : Lay .u32 X a5 l1) => law_same X b1 a1 a5 l1 n1 c1 c5 (h1.1.below h) k h1.2.2.1 h1.2.2.2
    have hs2 := fun X (h : Below w.heap.size w X) (k : Lay .u32 X a6 l2) => law_same X b2 a2 a6 l2 n2 c2 c6 (h2.1.below h) k h2.2.2.1 h2.2.2.2
    have hadd := fun X (h : Below w.heap.size w X) => large_add X b1 b2 a1 a2 l1 l2 n1 n2 c1 c2 (h1.1.below h) (h2.1.below h) h1.2.1 h2.2.1 h1.2.2.1 h2.2.2.1 h1.2.2.2 h2.2.2.2
    have hsub := fun X (h : Below w.heap.size w X) => large_sub X b1 b2 a1 a2 l1 l2 n1 n2 c1 c2 (h1.1.below h) (h2.1.below h) h1.2.1 h2.2.1 h1.2.2.1 h2.2.2.1 h1.2.2.2 h2.2.2.2
    have hmul := fun X (h : Below w.heap.size w X) => large_mul X b1 b2 a1 a2 l1 l2 n1 n2 c1 c2 (h1.1.below h) (h2.1.below h) h1.2.1 h2.2.1 h1.2.2.1 h2.2.2.1 h1.2.2.2 h2.2.2.2
    simp only [hm, hm', Bool.and_false, Bool.false_eq_true, if_false] at hcm hadd hsub hmul
    simp only [hm] at hm1s hlm
    simp only [hm'] at hm2s
    have Gm1s := Lib.hid hm1s; clear hm1s
    have Gm2s := Lib.hid hm2s; clear hm2s
    have Glm := Lib.hid hlm; clear hlm
    have Gcm := Lib.hid hcm; clear hcm
    have Gs1 := Lib.hid hs1; clear hs1
    have Gs2 := Lib.hid hs2; clear hs2
    have Gadd := Lib.hid hadd; clear hadd
    have Gsub := Lib.hid hsub; clear hsub
    have Gmul := Lib.hid hmul; clear hmul
    have GL5 := H5
    have GL6 := H6
    clear H5 H6 h1 h2 m1 m2 hm hm'
    obtain ⟨kr20, kr21⟩ := r2.cells
    obtain ⟨kr30, kr31⟩ := r3.cells
    obtain ⟨kr50, kr51⟩ := r5.cells
    obtain ⟨kr60, kr61⟩ := r6.cells
    go_wp2_with fail
    refine (Gm1s.out wc hB).mono ?_
    rintro e V1 ⟨rfl, hb⟩
    replace r2 := r2.below hb r2.lt
    replace r3 := r3.below hb r3.lt
    replace r5 := r5.below hb r5.lt
    replace r6 := r6.below hb r6.lt
    replace GL5 := GL5.below hb
    replace GL6 := GL6.below hb
    replace hB := hB.trans (hb.mono hB.size)
    clear kr20 kr21 kr30 kr31 kr50 kr51 kr60 kr61
    obtain ⟨kr20, kr21⟩ := r2.cells
    obtain ⟨kr30, kr31⟩ := r3.cells
    obtain ⟨kr50, kr51⟩ := r5.cells
    obtain ⟨kr60, kr61⟩ := r6.cells
    go_wp2_with fail
    refine (Gm2s.out V1 hB).mono ?_
    rintro e V2 ⟨rfl, hb⟩
    replace r2 := r2.below hb r2.lt
    replace r3 := r3.below hb r3.lt
    replace r5 := r5.below hb r5.lt
    replace r6 := r6.below hb r6.lt
    replace GL5 := GL5.below hb
    replace GL6 := GL6.below hb
    replace hB := hB.trans (hb.mono hB.size)
    clear kr20 kr21 kr30 kr31 kr50 kr51 kr60 kr61
    obtain ⟨kr20, kr21⟩ := r2.cells
    obtain ⟨kr30, kr31⟩ := r3.cells
    obtain ⟨kr50, kr51⟩ := r5.cells
    obtain ⟨kr60, kr61⟩ := r6.cells
    go_wp2_with fail
    refine (Gcm.out V2 hB).mono ?_
    rintro e V3 ⟨rfl, hb⟩
    replace r2 := r2.below hb r2.lt
    replace r3 := r3.below hb r3.lt
    replace r5 := r5.below hb r5.lt
    replace r6 := r6.below hb r6.lt
    replace GL5 := GL5.below hb
    replace GL6 := GL6.below hb
    replace hB := hB.trans (hb.mono hB.size)
    clear kr20 kr21 kr30 kr31 kr50 kr51 kr60 kr61
    obtain ⟨kr20, kr21⟩ := r2.cells
    obtain ⟨kr30, kr31⟩ := r3.cells
    obtain ⟨kr50, kr51⟩ := r5.cells
    obtain ⟨kr60, kr61⟩ := r6.cells
    go_wp2_with fail
    refine ((Gadd.out V3 hB).mono fun e X' h => h.bad).mono ?_
    rintro e V4 ⟨rfl, hb⟩
    replace r2 := r2.below hb r2.lt
    replace r3 := r3.below hb r3.lt
    replace r5 := r5.below hb r5.lt
    replace r6 := r6.below hb r6.lt
    replace GL5 := GL5.below hb
    replace GL6 := GL6.below hb
    replace hB := hB.trans (hb.mono hB.size)
    clear kr20 kr21 kr30 kr31 kr50 kr51 kr60 kr61
    obtain ⟨kr20, kr21⟩ := r2.cells
    obtain ⟨kr30, kr31⟩ := r3.cells
    obtain ⟨kr50, kr51⟩ := r5.cells
    obtain ⟨kr60, kr61⟩ := r6.cells
    obtain ⟨V5, hV5, r10, hbV5, hzV5⟩ := rows1 V4 24 (.bool false) (.slice none 0 0)
    replace r2 := r2.below hbV5 r2.lt
    replace r3 := r3.below hbV5 r3.lt
    replace r5 := r5.below hbV5 r5.lt
    replace r6 := r6.below hbV5 r6.lt
    replace GL5 := GL5.below hbV5
    replace GL6 := GL6.below hbV5
    replace hB := hB.trans (hbV5.mono hB.size)
    clear kr20 kr21 kr30 kr31 kr50 kr51 kr60 kr61
    obtain ⟨kr20, kr21⟩ := r2.cells
    obtain ⟨kr30, kr31⟩ := r3.cells
    obtain ⟨kr50, kr51⟩ := r5.cells
    obtain ⟨kr60, kr61⟩ := r6.cells
    obtain ⟨kr100, kr101⟩ := r10.cells
    rw [hV5] at kr20 kr21 kr30 kr31 kr50 kr51 kr60 kr61 kr100 kr101
    have HV5 := Lib.hid hV5; clear hV5
    go_wp2_with fail
    rw [← HV5.out]
    refine ((Gsub.out V5 hB).mono fun e X' h => h.bad).mono ?_
    rintro e V6 ⟨rfl, hb⟩
    replace r2 := r2.below hb r2.lt
    replace r3 := r3.below hb r3.lt
    replace r5 := r5.below hb r5.lt
    replace r6 := r6.below hb r6.lt
    replace r10 := r10.below hb r10.lt
    replace GL5 := GL5.below hb
    replace GL6 := GL6.below hb
    replace hB := hB.trans (hb.mono hB.size)
    clear kr20 kr21 kr30 kr31 kr50 kr51 kr60 kr61 kr100 kr101
    obtain ⟨kr20, kr21⟩ := r2.cells
    obtain ⟨kr30, kr31⟩ := r3.cells
    obtain ⟨kr50, kr51⟩ := r5.cells
    obtain ⟨kr60, kr61⟩ := r6.cells
    obtain ⟨kr100, kr101⟩ := r10.cells
    obtain ⟨V7, hV7, r12, hbV7, hzV7⟩ := rows1 V6 24 (.bool false) (.slice none 0 0)
    replace r2 := r2.below hbV7 r2.lt
    replace r3 := r3.below hbV7 r3.lt
    replace r5 := r5.below hbV7 r5.lt
    replace r6 := r6.below hbV7 r6.lt
    replace r10 := r10.below hbV7 r10.lt
    replace GL5 := GL5.below hbV7
    replace GL6 := GL6.below hbV7
    replace hB := hB.trans (hbV7.mono hB.size)
    clear kr20 kr21 kr30 kr31 kr50 kr51 kr60 kr61 kr100 kr101
    obtain ⟨kr20, kr21⟩ := r2.cells
    obtain ⟨kr30, kr31⟩ := r3.cells
    obtain ⟨kr50, kr51⟩ := r5.cells
    obtain ⟨kr60, kr61⟩ := r6.cells
    obtain ⟨kr100, kr101⟩ := r10.cells
    obtain ⟨kr120, kr121⟩ := r12.cells
    rw [hV7] at kr20 kr21 kr30 kr31 kr50 kr51 kr60 kr61 kr100 kr101 kr120 kr121
    have HV7 := Lib.hid hV7; clear hV7
    go_wp2_with fail
    rw [← HV7.out]
    refine ((Gmul.out V7 hB).mono fun e X' h => h.bad).mono ?_
    rintro e V8 ⟨rfl, hb⟩
    replace r2 := r2.below hb r2.lt
    replace r3 := r3.below hb r3.lt
    replace r5 := r5.below hb r5.lt
    replace r6 := r6.below hb r6.lt
    replace r10 := r10.below hb r10.lt
    replace r12 := r12.below hb r12.lt
    replace GL5 := GL5.below hb
    replace GL6 := GL6.below hb
    replace hB := hB.trans (hb.mono hB.size)
    clear kr20 kr21 kr30 kr31 kr50 kr51 kr60 kr61 kr100 kr101 kr120 kr121
    obtain ⟨kr20, kr21⟩ := r2.cells
    obtain ⟨kr30, kr31⟩ := r3.cells
    obtain ⟨kr50, kr51⟩ := r5.cells
    obtain ⟨kr60, kr61⟩ := r6.cells
    obtain ⟨kr100, kr101⟩ := r10.cells
    obtain ⟨kr120, kr121⟩ := r12.cells
    obtain ⟨V9, hV9, r14, hbV9, hzV9⟩ := rows1 V8 24 (.bool false) (.slice none 0 0)
    replace r2 := r2.below hbV9 r2.lt
    replace r3 := r3.below hbV9 r3.lt
    replace r5 := r5.below hbV9 r5.lt
    replace r6 := r6.below hbV9 r6.lt
    replace r10 := r10.below hbV9 r10.lt
    replace r12 := r12.below hbV9 r12.lt
    replace GL5 := GL5.below hbV9
    replace GL6 := GL6.below hbV9
    replace hB := hB.trans (hbV9.mono hB.size)
    clear kr20 kr21 kr30 kr31 kr50 kr51 kr60 kr61 kr100 kr101 kr120 kr121
    obtain ⟨kr20, kr21⟩ := r2.cells
    obtain ⟨kr30, kr31⟩ := r3.cells
    obtain ⟨kr50, kr51⟩ := r5.cells
    obtain ⟨kr60, kr61⟩ := r6.cells
    obtain ⟨kr100, kr101⟩ := r10.cells
    obtain ⟨kr120, kr121⟩ := r12.cells
    obtain ⟨kr140, kr141⟩ := r14.cells
    rw [hV9] at kr20 kr21 kr30 kr31 kr50 kr51 kr60 kr61 kr100 kr101 kr120 kr121 kr140 kr141
    have HV9 := Lib.hid hV9; clear hV9
    have hBV := hB
    have K20 := Lib.hid (fun X (h : Below V9.heap.size V9 X) => (Glm.out X (hBV.trans (h.mono hBV.size))).mono fun e X' he => And.intro he.1 (h.trans (he.2.mono h.size)))
    have K10 := Lib.hid (fun X (h : Below V9.heap.size V9 X) => (Gm1s.out X (hBV.trans (h.mono hBV.size))).mono fun e X' he => And.intro he.1 (h.trans (he.2.mono h.size)))
    have K12 := Lib.hid (fun X (h : Below V9.heap.size V9 X) => (Gs1.out X (hBV.trans (h.mono hBV.size)) (GL5.below h)).mono fun e X' he => And.intro he.1 (h.trans (he.2.mono h.size)))
    have K13 := Lib.hid (fun X (h : Below V9.heap.size V9 X) => (Gs2.out X (hBV.trans (h.mono hBV.size)) (GL6.below h)).mono fun e X' he => And.intro he.1 (h.trans (he.2.mono h.size)))
    have K9 := Lib.hid (fun X (h : Below V9.heap.size V9 X) => (law_awake X).mono fun e X' he => And.intro he.1 (h.trans (he.2.mono h.size)))
    clear hBV
    have hk := fun X (h : Below V9.heap.size V9 X) => show X.cell? ⟨w.heap.size, 0, none⟩ = some (.bool b1) ∧ X.cell? ⟨w.heap.size, 1, none⟩ = some (.slice a1 n1 c1) ∧ X.cell? ⟨(w.heap.size + 1), 0, none⟩ = some (.bool b2) ∧ X.cell? ⟨(w.heap.size + 1), 1, none⟩ = some (.slice a2 n2 c2) ∧ X.cell? ⟨g5, 0, none⟩ = some (.bool b1) ∧ X.cell? ⟨g5, 1, none⟩ = some (.slice a5 n1 c5) ∧ X.cell? ⟨g6, 0, none⟩ = some (.bool b2) ∧ X.cell? ⟨g6, 1, none⟩ = some (.slice a6 n2 c6) from ⟨(r2.below h r2.lt).cells.1, (r2.below h r2.lt).cells.2, (r3.below h r3.lt).cells.1, (r3.below h r3.lt).cells.2, (r5.below h r5.lt).cells.1, (r5.below h r5.lt).cells.2, (r6.below h r6.lt).cells.1, (r6.below h r6.lt).cells.2⟩
    have HKx := Lib.hid hk; clear hk
    have h := Below.refl V9.heap.size V9
    clear kr20 kr21 kr30 kr31 kr50 kr51 kr60 kr61 kr100 kr101 kr120 kr121 kr140 kr141
    go_wp2_with fail
    rw [← HV9.out]
    go_region_held3 (fun X => (X.cell? ⟨w.heap.size, 0, none⟩ = some (.bool b1) ∧ X.cell? ⟨w.heap.size, 1, none⟩ = some (.slice a1 n1 c1) ∧ X.cell? ⟨(w.heap.size + 1), 0, none⟩ = some (.bool b2) ∧ X.cell? ⟨(w.heap.size + 1), 1, none⟩ = some (.slice a2 n2 c2) ∧ X.cell? ⟨g5, 0, none⟩ = some (.bool b1) ∧ X.cell? ⟨g5, 1, none⟩ = some (.slice a5 n1 c5) ∧ X.cell? ⟨g6, 0, none⟩ = some (.bool b2) ∧ X.cell? ⟨g6, 1, none⟩ = some (.slice a6 n2 c6)))
      (first | (apply HKx.out; (repeat (first | exact h | apply Below.drew)); done))
      (first
        | (go_at_call 20; apply Calls.mono; apply K20.out; (repeat (first | exact h | apply Below.drew)); clear h; rintro e w' ⟨rfl, h⟩)
        | (go_at_call 10; apply Calls.mono; apply K10.out; (repeat (first | exact h | apply Below.drew)); clear h; rintro e w' ⟨rfl, h⟩)
        | (go_at_call_of 12 (Value.agg #[.bool b1, .slice a1 n1 c1]); apply Calls.mono; apply K12.out; (repeat (first | exact h | apply Below.drew)); clear h; rintro e w' ⟨rfl, h⟩)
        | (go_at_call_of 12 (Value.agg #[.bool b2, .slice a2 n2 c2]); apply Calls.mono; apply K13.out; (repeat (first | exact h | apply Below.drew)); clear h; rintro e w' ⟨rfl, h⟩)
        | (go_at_call 9; apply Calls.mono; apply K9.out; (repeat (first | exact h | apply Below.drew)); clear h; rintro e w' ⟨rfl, h⟩))
    clear HKx
    replace r2 := r2.below h r2.lt
    replace r3 := r3.below h r3.lt
    replace r5 := r5.below h r5.lt
    replace r6 := r6.below h r6.lt
    replace r10 := r10.below h r10.lt
    replace r12 := r12.below h r12.lt
    replace r14 := r14.below h r14.lt
    replace GL5 := GL5.below h
    replace GL6 := GL6.below h
    replace hB := hB.trans (h.mono hB.size)
    obtain ⟨kr20, kr21⟩ := r2.cells
    obtain ⟨kr30, kr31⟩ := r3.cells
    obtain ⟨kr50, kr51⟩ := r5.cells
    obtain ⟨kr60, kr61⟩ := r6.cells
    obtain ⟨kr100, kr101⟩ := r10.cells
    obtain ⟨kr120, kr121⟩ := r12.cells
    obtain ⟨kr140, kr141⟩ := r14.cells
    clear K20 K10 K12 K13 K9
    go_wp2_with fail
    refine (is_no2 w').mono ?_
    rintro e U0 ⟨rfl, hb⟩
    replace r2 := r2.below hb r2.lt
    replace r3 := r3.below hb r3.lt
    replace r5 := r5.below hb r5.lt
    replace r6 := r6.below hb r6.lt
    replace r10 := r10.below hb r10.lt
    replace r12 := r12.below hb r12.lt
    replace r14 := r14.below hb r14.lt
    replace GL5 := GL5.below hb
    replace GL6 := GL6.below hb
    replace hB := hB.trans (hb.mono hB.size)
    clear kr20 kr21 kr30 kr31 kr50 kr51 kr60 kr61 kr100 kr101 kr120 kr121 kr140 kr141
    obtain ⟨kr20, kr21⟩ := r2.cells
    obtain ⟨kr30, kr31⟩ := r3.cells
    obtain ⟨kr50, kr51⟩ := r5.cells
    obtain ⟨kr60, kr61⟩ := r6.cells
    obtain ⟨kr100, kr101⟩ := r10.cells
    obtain ⟨kr120, kr121⟩ := r12.cells
    obtain ⟨kr140, kr141⟩ := r14.cells
    go_wp2_with fail
    refine (is_no2 U0).mono ?_
    rintro e U1 ⟨rfl, hb⟩
    replace r2 := r2.below hb r2.lt
    replace r3 := r3.below hb r3.lt
    replace r5 := r5.below hb r5.lt
    replace r6 := r6.below hb r6.lt
    replace r10 := r10.below hb r10.lt
    replace r12 := r12.below hb r12.lt
    replace r14 := r14.below hb r14.lt
    replace GL5 := GL5.below hb
    replace GL6 := GL6.below hb
    replace hB := hB.trans (hb.mono hB.size)
    clear kr20 kr21 kr30 kr31 kr50 kr51 kr60 kr61 kr100 kr101 kr120 kr121 kr140 kr141
    obtain ⟨kr20, kr21⟩ := r2.cells
    obtain ⟨kr30, kr31⟩ := r3.cells
    obtain ⟨kr50, kr51⟩ := r5.cells
    obtain ⟨kr60, kr61⟩ := r6.cells
    obtain ⟨kr100, kr101⟩ := r10.cells
    obtain ⟨kr120, kr121⟩ := r12.cells
    obtain ⟨kr140, kr141⟩ := r14.cells
    go_wp2_with fail
    refine (is_no2 U1).mono ?_
    rintro e U2 ⟨rfl, hb⟩
    replace r2 := r2.below hb r2.lt
    replace r3 := r3.below hb r3.lt
    replace r5 := r5.below hb r5.lt
    replace r6 := r6.below hb r6.lt
    replace r10 := r10.below hb r10.lt
    replace r12 := r12.below hb r12.lt
    replace r14 := r14.below hb r14.lt
    replace GL5 := GL5.below hb
    replace GL6 := GL6.below hb
    replace hB := hB.trans (hb.mono hB.size)
    clear kr20 kr21 kr30 kr31 kr50 kr51 kr60 kr61 kr100 kr101 kr120 kr121 kr140 kr141
    obtain ⟨kr20, kr21⟩ := r2.cells
    obtain ⟨kr30, kr31⟩ := r3.cells
    obtain ⟨kr50, kr51⟩ := r5.cells
    obtain ⟨kr60, kr61⟩ := r6.cells
    obtain ⟨kr100, kr101⟩ := r10.cells
    obtain ⟨kr120, kr121⟩ := r12.cells
    obtain ⟨kr140, kr141⟩ := r14.cells
    go_wp2_with fail
    go_ret
    exact ⟨rfl, hB⟩

end Go.Proofs.YtbffpkmfhkphdaaDoor
