/- The walk of LargeRing where an integer may not be, or they are too long together: awake's answer. -/
import Derived.Test.YtbffpkmfhkphdaaDoorGAid
namespace Go.Proofs.YtbffpkmfhkphdaaDoor
open Go Go.RowKit Limb

set_option maxHeartbeats 4000000 in
set_option maxRecDepth 1000000 in
theorem ring_no1 (w : World) (b1 b2 b3 : Bool) (a1 a2 a3 : Option Addr) (l1 l2 l3 : List Nat) (nx ny nz c1 c2 c3 : Nat) (h1 : Came w b1 a1 nx l1) (h2 : Came w b2 a2 ny l2) (h3 : Came w b3 a3 nz l3) (hm1 : mayB b1 l1 = false) :
    Calls Tryd.prog 5 #[.agg #[.bool b1, .slice a1 nx c1], .agg #[.bool b2, .slice a2 ny c2], .agg #[.bool b3, .slice a3 nz c3]] w fun e w' => e = .returned (.bool true) ∧ Below w.heap.size w w' := by
  obtain ⟨W0, hW0e, r30, r40, hB0, hsz0⟩ := rows2 w 24 (.bool b1) (.slice a1 nx c1) (.bool b2) (.slice a2 ny c2)
  obtain ⟨W, hWe, r5, hBW, hszW⟩ := rows1 W0 24 (.bool b3) (.slice a3 nz c3)
  have r3 := r30.below hBW r30.lt
  have r4 := r40.below hBW r40.lt
  have hB := hB0.trans (hBW.mono hB0.size)
  rw [hsz0] at r5
  rw [hW0e] at hWe
  have HWe := Lib.hid hWe; clear hWe hW0e r30 r40 hB0 hBW
  have hm1s := fun X (h : Below w.heap.size w X) => since_may (c := c1) (W := w) h1 h
  rw [hm1] at hm1s
  have Hm1 := Lib.hid hm1s; clear hm1s
  clear h1 h2 h3 hm1
  have kr30 := r3.cell_at 0
  have kr31 := r3.cell_at 1
  have kr40 := r4.cell_at 0
  have kr41 := r4.cell_at 1
  have kr50 := r5.cell_at 0
  have kr51 := r5.cell_at 1
  simp only [List.getElem?_cons_zero, List.getElem?_cons_succ] at kr30 kr31 kr40 kr41 kr50 kr51
  go_enter Tryd.func5, Tryd.ntmps5
  go_wp2_with fail
  rw [← HWe.out]
  refine (Hm1.out W hB).mono ?_
  rintro e V1 ⟨rfl, hb⟩
  replace r3 := r3.below hb r3.lt
  replace r4 := r4.below hb r4.lt
  replace r5 := r5.below hb r5.lt
  replace hB := hB.trans (hb.mono hB.size)
  clear kr30 kr31 kr40 kr41 kr50 kr51
  have kr30 := r3.cell_at 0
  have kr31 := r3.cell_at 1
  have kr40 := r4.cell_at 0
  have kr41 := r4.cell_at 1
  have kr50 := r5.cell_at 0
  have kr51 := r5.cell_at 1
  simp only [List.getElem?_cons_zero, List.getElem?_cons_succ] at kr30 kr31 kr40 kr41 kr50 kr51
  go_wp2_with fail
  refine (law_awake V1).mono ?_
  rintro e V9 ⟨rfl, hb⟩
  go_wp2_with fail
  go_ret
  exact ⟨rfl, hB.trans (hb.mono hB.size)⟩

set_option maxHeartbeats 4000000 in
set_option maxRecDepth 1000000 in
theorem ring_no2 (w : World) (b1 b2 b3 : Bool) (a1 a2 a3 : Option Addr) (l1 l2 l3 : List Nat) (nx ny nz c1 c2 c3 : Nat) (h1 : Came w b1 a1 nx l1) (h2 : Came w b2 a2 ny l2) (h3 : Came w b3 a3 nz l3) (hm1 : mayB b1 l1 = true) (hm2 : mayB b2 l2 = false) :
    Calls Tryd.prog 5 #[.agg #[.bool b1, .slice a1 nx c1], .agg #[.bool b2, .slice a2 ny c2], .agg #[.bool b3, .slice a3 nz c3]] w fun e w' => e = .returned (.bool true) ∧ Below w.heap.size w w' := by
  obtain ⟨W0, hW0e, r30, r40, hB0, hsz0⟩ := rows2 w 24 (.bool b1) (.slice a1 nx c1) (.bool b2) (.slice a2 ny c2)
  obtain ⟨W, hWe, r5, hBW, hszW⟩ := rows1 W0 24 (.bool b3) (.slice a3 nz c3)
  have r3 := r30.below hBW r30.lt
  have r4 := r40.below hBW r40.lt
  have hB := hB0.trans (hBW.mono hB0.size)
  rw [hsz0] at r5
  rw [hW0e] at hWe
  have HWe := Lib.hid hWe; clear hWe hW0e r30 r40 hB0 hBW
  have hm1s := fun X (h : Below w.heap.size w X) => since_may (c := c1) (W := w) h1 h
  rw [hm1] at hm1s
  have Hm1 := Lib.hid hm1s; clear hm1s
  have hm2s := fun X (h : Below w.heap.size w X) => since_may (c := c2) (W := w) h2 h
  rw [hm2] at hm2s
  have Hm2 := Lib.hid hm2s; clear hm2s
  clear h1 h2 h3 hm1 hm2
  have kr30 := r3.cell_at 0
  have kr31 := r3.cell_at 1
  have kr40 := r4.cell_at 0
  have kr41 := r4.cell_at 1
  have kr50 := r5.cell_at 0
  have kr51 := r5.cell_at 1
  simp only [List.getElem?_cons_zero, List.getElem?_cons_succ] at kr30 kr31 kr40 kr41 kr50 kr51
  go_enter Tryd.func5, Tryd.ntmps5
  go_wp2_with fail
  rw [← HWe.out]
  refine (Hm1.out W hB).mono ?_
  rintro e V1 ⟨rfl, hb⟩
  replace r3 := r3.below hb r3.lt
  replace r4 := r4.below hb r4.lt
  replace r5 := r5.below hb r5.lt
  replace hB := hB.trans (hb.mono hB.size)
  clear kr30 kr31 kr40 kr41 kr50 kr51
  have kr30 := r3.cell_at 0
  have kr31 := r3.cell_at 1
  have kr40 := r4.cell_at 0
  have kr41 := r4.cell_at 1
  have kr50 := r5.cell_at 0
  have kr51 := r5.cell_at 1
  simp only [List.getElem?_cons_zero, List.getElem?_cons_succ] at kr30 kr31 kr40 kr41 kr50 kr51
  go_wp2_with fail
  refine (Hm2.out V1 hB).mono ?_
  rintro e V2 ⟨rfl, hb⟩
  replace r3 := r3.below hb r3.lt
  replace r4 := r4.below hb r4.lt
  replace r5 := r5.below hb r5.lt
  replace hB := hB.trans (hb.mono hB.size)
  clear kr30 kr31 kr40 kr41 kr50 kr51
  have kr30 := r3.cell_at 0
  have kr31 := r3.cell_at 1
  have kr40 := r4.cell_at 0
  have kr41 := r4.cell_at 1
  have kr50 := r5.cell_at 0
  have kr51 := r5.cell_at 1
  simp only [List.getElem?_cons_zero, List.getElem?_cons_succ] at kr30 kr31 kr40 kr41 kr50 kr51
  go_wp2_with fail
  refine (law_awake V2).mono ?_
  rintro e V9 ⟨rfl, hb⟩
  go_wp2_with fail
  go_ret
  exact ⟨rfl, hB.trans (hb.mono hB.size)⟩

set_option maxHeartbeats 4000000 in
set_option maxRecDepth 1000000 in
theorem ring_no3 (w : World) (b1 b2 b3 : Bool) (a1 a2 a3 : Option Addr) (l1 l2 l3 : List Nat) (nx ny nz c1 c2 c3 : Nat) (h1 : Came w b1 a1 nx l1) (h2 : Came w b2 a2 ny l2) (h3 : Came w b3 a3 nz l3) (hm1 : mayB b1 l1 = true) (hm2 : mayB b2 l2 = true) (hm3 : mayB b3 l3 = false) :
    Calls Tryd.prog 5 #[.agg #[.bool b1, .slice a1 nx c1], .agg #[.bool b2, .slice a2 ny c2], .agg #[.bool b3, .slice a3 nz c3]] w fun e w' => e = .returned (.bool true) ∧ Below w.heap.size w w' := by
  obtain ⟨W0, hW0e, r30, r40, hB0, hsz0⟩ := rows2 w 24 (.bool b1) (.slice a1 nx c1) (.bool b2) (.slice a2 ny c2)
  obtain ⟨W, hWe, r5, hBW, hszW⟩ := rows1 W0 24 (.bool b3) (.slice a3 nz c3)
  have r3 := r30.below hBW r30.lt
  have r4 := r40.below hBW r40.lt
  have hB := hB0.trans (hBW.mono hB0.size)
  rw [hsz0] at r5
  rw [hW0e] at hWe
  have HWe := Lib.hid hWe; clear hWe hW0e r30 r40 hB0 hBW
  have hm1s := fun X (h : Below w.heap.size w X) => since_may (c := c1) (W := w) h1 h
  rw [hm1] at hm1s
  have Hm1 := Lib.hid hm1s; clear hm1s
  have hm2s := fun X (h : Below w.heap.size w X) => since_may (c := c2) (W := w) h2 h
  rw [hm2] at hm2s
  have Hm2 := Lib.hid hm2s; clear hm2s
  have hm3s := fun X (h : Below w.heap.size w X) => since_may (c := c3) (W := w) h3 h
  rw [hm3] at hm3s
  have Hm3 := Lib.hid hm3s; clear hm3s
  clear h1 h2 h3 hm1 hm2 hm3
  have kr30 := r3.cell_at 0
  have kr31 := r3.cell_at 1
  have kr40 := r4.cell_at 0
  have kr41 := r4.cell_at 1
  have kr50 := r5.cell_at 0
  have kr51 := r5.cell_at 1
  simp only [List.getElem?_cons_zero, List.getElem?_cons_succ] at kr30 kr31 kr40 kr41 kr50 kr51
  go_enter Tryd.func5, Tryd.ntmps5
  go_wp2_with fail
  rw [← HWe.out]
  refine (Hm1.out W hB).mono ?_
  rintro e V1 ⟨rfl, hb⟩
  replace r3 := r3.below hb r3.lt
  replace r4 := r4.below hb r4.lt
  replace r5 := r5.below hb r5.lt
  replace hB := hB.trans (hb.mono hB.size)
  clear kr30 kr31 kr40 kr41 kr50 kr51
  have kr30 := r3.cell_at 0
  have kr31 := r3.cell_at 1
  have kr40 := r4.cell_at 0
  have kr41 := r4.cell_at 1
  have kr50 := r5.cell_at 0
  have kr51 := r5.cell_at 1
  simp only [List.getElem?_cons_zero, List.getElem?_cons_succ] at kr30 kr31 kr40 kr41 kr50 kr51
  go_wp2_with fail
  refine (Hm2.out V1 hB).mono ?_
  rintro e V2 ⟨rfl, hb⟩
  replace r3 := r3.below hb r3.lt
  replace r4 := r4.below hb r4.lt
  replace r5 := r5.below hb r5.lt
  replace hB := hB.trans (hb.mono hB.size)
  clear kr30 kr31 kr40 kr41 kr50 kr51
  have kr30 := r3.cell_at 0
  have kr31 := r3.cell_at 1
  have kr40 := r4.cell_at 0
  have kr41 := r4.cell_at 1
  have kr50 := r5.cell_at 0
  have kr51 := r5.cell_at 1
  simp only [List.getElem?_cons_zero, List.getElem?_cons_succ] at kr30 kr31 kr40 kr41 kr50 kr51
  go_wp2_with fail
  refine (Hm3.out V2 hB).mono ?_
  rintro e V3 ⟨rfl, hb⟩
  replace r3 := r3.below hb r3.lt
  replace r4 := r4.below hb r4.lt
  replace r5 := r5.below hb r5.lt
  replace hB := hB.trans (hb.mono hB.size)
  clear kr30 kr31 kr40 kr41 kr50 kr51
  have kr30 := r3.cell_at 0
  have kr31 := r3.cell_at 1
  have kr40 := r4.cell_at 0
  have kr41 := r4.cell_at 1
  have kr50 := r5.cell_at 0
  have kr51 := r5.cell_at 1
  simp only [List.getElem?_cons_zero, List.getElem?_cons_succ] at kr30 kr31 kr40 kr41 kr50 kr51
  go_wp2_with fail
  refine (law_awake V3).mono ?_
  rintro e V9 ⟨rfl, hb⟩
  go_wp2_with fail
  go_ret
  exact ⟨rfl, hB.trans (hb.mono hB.size)⟩

set_option maxHeartbeats 4000000 in
set_option maxRecDepth 1000000 in
theorem ring_no4 (w : World) (b1 b2 b3 : Bool) (a1 a2 a3 : Option Addr) (l1 l2 l3 : List Nat) (nx ny nz c1 c2 c3 : Nat) (h1 : Came w b1 a1 nx l1) (h2 : Came w b2 a2 ny l2) (h3 : Came w b3 a3 nz l3) (hm1 : mayB b1 l1 = true) (hm2 : mayB b2 l2 = true) (hm3 : mayB b3 l3 = true) (hs : ¬ nx + ny + nz ≤ 1000) :
    Calls Tryd.prog 5 #[.agg #[.bool b1, .slice a1 nx c1], .agg #[.bool b2, .slice a2 ny c2], .agg #[.bool b3, .slice a3 nz c3]] w fun e w' => e = .returned (.bool true) ∧ Below w.heap.size w w' := by
  obtain ⟨W0, hW0e, r30, r40, hB0, hsz0⟩ := rows2 w 24 (.bool b1) (.slice a1 nx c1) (.bool b2) (.slice a2 ny c2)
  obtain ⟨W, hWe, r5, hBW, hszW⟩ := rows1 W0 24 (.bool b3) (.slice a3 nz c3)
  have r3 := r30.below hBW r30.lt
  have r4 := r40.below hBW r40.lt
  have hB := hB0.trans (hBW.mono hB0.size)
  rw [hsz0] at r5
  rw [hW0e] at hWe
  have HWe := Lib.hid hWe; clear hWe hW0e r30 r40 hB0 hBW
  obtain ⟨-, -, x3⟩ := mayB_int h1.2.1 hm1
  obtain ⟨-, -, y3⟩ := mayB_int h2.2.1 hm2
  obtain ⟨-, -, z3⟩ := mayB_int h3.2.1 hm3
  rw [← h1.2.2.1] at x3
  rw [← h2.2.2.1] at y3
  rw [← h3.2.2.1] at z3
  have d0 : decide ((1000 : Int) < (nx : Int) + (ny : Int) + (nz : Int)) = true := by rw [decide_eq_true_eq]; omega
  have hm1s := fun X (h : Below w.heap.size w X) => since_may (c := c1) (W := w) h1 h
  rw [hm1] at hm1s
  have Hm1 := Lib.hid hm1s; clear hm1s
  have hm2s := fun X (h : Below w.heap.size w X) => since_may (c := c2) (W := w) h2 h
  rw [hm2] at hm2s
  have Hm2 := Lib.hid hm2s; clear hm2s
  have hm3s := fun X (h : Below w.heap.size w X) => since_may (c := c3) (W := w) h3 h
  rw [hm3] at hm3s
  have Hm3 := Lib.hid hm3s; clear hm3s
  clear h1 h2 h3 hm1 hm2 hm3
  have kr30 := r3.cell_at 0
  have kr31 := r3.cell_at 1
  have kr40 := r4.cell_at 0
  have kr41 := r4.cell_at 1
  have kr50 := r5.cell_at 0
  have kr51 := r5.cell_at 1
  simp only [List.getElem?_cons_zero, List.getElem?_cons_succ] at kr30 kr31 kr40 kr41 kr50 kr51
  go_enter Tryd.func5, Tryd.ntmps5
  go_wp2_with fail
  rw [← HWe.out]
  refine (Hm1.out W hB).mono ?_
  rintro e V1 ⟨rfl, hb⟩
  replace r3 := r3.below hb r3.lt
  replace r4 := r4.below hb r4.lt
  replace r5 := r5.below hb r5.lt
  replace hB := hB.trans (hb.mono hB.size)
  clear kr30 kr31 kr40 kr41 kr50 kr51
  have kr30 := r3.cell_at 0
  have kr31 := r3.cell_at 1
  have kr40 := r4.cell_at 0
  have kr41 := r4.cell_at 1
  have kr50 := r5.cell_at 0
  have kr51 := r5.cell_at 1
  simp only [List.getElem?_cons_zero, List.getElem?_cons_succ] at kr30 kr31 kr40 kr41 kr50 kr51
  go_wp2_with fail
  refine (Hm2.out V1 hB).mono ?_
  rintro e V2 ⟨rfl, hb⟩
  replace r3 := r3.below hb r3.lt
  replace r4 := r4.below hb r4.lt
  replace r5 := r5.below hb r5.lt
  replace hB := hB.trans (hb.mono hB.size)
  clear kr30 kr31 kr40 kr41 kr50 kr51
  have kr30 := r3.cell_at 0
  have kr31 := r3.cell_at 1
  have kr40 := r4.cell_at 0
  have kr41 := r4.cell_at 1
  have kr50 := r5.cell_at 0
  have kr51 := r5.cell_at 1
  simp only [List.getElem?_cons_zero, List.getElem?_cons_succ] at kr30 kr31 kr40 kr41 kr50 kr51
  go_wp2_with fail
  refine (Hm3.out V2 hB).mono ?_
  rintro e V3 ⟨rfl, hb⟩
  replace r3 := r3.below hb r3.lt
  replace r4 := r4.below hb r4.lt
  replace r5 := r5.below hb r5.lt
  replace hB := hB.trans (hb.mono hB.size)
  clear kr30 kr31 kr40 kr41 kr50 kr51
  have kr30 := r3.cell_at 0
  have kr31 := r3.cell_at 1
  have kr40 := r4.cell_at 0
  have kr41 := r4.cell_at 1
  have kr50 := r5.cell_at 0
  have kr51 := r5.cell_at 1
  simp only [List.getElem?_cons_zero, List.getElem?_cons_succ] at kr30 kr31 kr40 kr41 kr50 kr51
  go_wp2_with fail
  refine (law_awake V3).mono ?_
  rintro e V9 ⟨rfl, hb⟩
  go_wp2_with fail
  go_ret
  exact ⟨rfl, hB.trans (hb.mono hB.size)⟩

end Go.Proofs.YtbffpkmfhkphdaaDoor
