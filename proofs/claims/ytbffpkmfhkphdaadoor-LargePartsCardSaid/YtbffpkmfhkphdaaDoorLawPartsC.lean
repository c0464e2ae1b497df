/- The walk of the law LargeParts: it answers true. -/
import Derived.Test.YtbffpkmfhkphdaaDoorAwakeC
import Derived.Test.YtbffpkmfhkphdaaDoorGRefA
namespace Go.Proofs.YtbffpkmfhkphdaaDoor
open Go Go.RowKit Limb

theorem is_no2 (w : World) : Calls Tryd.prog 11 #[.bool false, .agg #[.bool false, .slice none 0 0], .int .i64 1, .agg #[.bool false, .slice none 0 0]] w fun e w' => e = .returned (.bool true) ∧ Below w.heap.size w w' := is_no w false none 0 0

theorem Row.cells {w : World} {g : Nat} {t : TypeId} {u v : Value} (h : Row w g t [u, v]) : w.cell? ⟨g, 0, none⟩ = some u ∧ w.cell? ⟨g, 1, none⟩ = some v := ⟨h.cell_at 0, h.cell_at 1⟩

/-- The contracts that the law asks of two integers that came in, at every world since. -/
theorem since_quo {W X : World} {b1 b2 : Bool} {a1 a2 : Option Addr} {l1 l2 : List Nat} {n1 n2 c1 c2 : Nat} (h1 : Came W b1 a1 n1 l1) (h2 : Came W b2 a2 n2 l2) (h : Below W.heap.size W X) :
    Calls Tryd.prog 7 #[.agg #[.bool b1, .slice a1 n1 c1], .agg #[.bool b2, .slice a2 n2 c2]] X fun e X' => DivAnswer (mayB b1 l1 && mayB b2 l2) false X X' e (signed b1 (val l1)) (signed b2 (val l2)) :=
  large_quo X b1 b2 a1 a2 l1 l2 n1 n2 c1 c2 (h1.1.below h) (h2.1.below h) h1.2.1 h2.2.1 h1.2.2.1 h2.2.2.1 h1.2.2.2 h2.2.2.2
theorem since_div {W X : World} {b1 b2 : Bool} {a1 a2 : Option Addr} {l1 l2 : List Nat} {n1 n2 c1 c2 : Nat} (h1 : Came W b1 a1 n1 l1) (h2 : Came W b2 a2 n2 l2) (h : Below W.heap.size W X) :
    Calls Tryd.prog 8 #[.agg #[.bool b1, .slice a1 n1 c1], .agg #[.bool b2, .slice a2 n2 c2]] X fun e X' => DivAnswer (mayB b1 l1 && mayB b2 l2) true X X' e (signed b1 (val l1)) (signed b2 (val l2)) :=
  large_div X b1 b2 a1 a2 l1 l2 n1 n2 c1 c2 (h1.1.below h) (h2.1.below h) h1.2.1 h2.2.1 h1.2.2.1 h2.2.2.1 h1.2.2.2 h2.2.2.2
theorem since_may {W X : World} {b : Bool} {a : Option Addr} {l : List Nat} {n c : Nat} (h1 : Came W b a n l) (h : Below W.heap.size W X) :
    Calls Tryd.prog 10 #[.agg #[.bool b, .slice a n c]] X fun e X' => e = .returned (.bool (mayB b l)) ∧ Below X.heap.size X X' :=
  ref_May X b a l n c (h1.1.below h) h1.2.1 h1.2.2.1 h1.2.2.2

set_option maxHeartbeats 4000000 in
set_option maxRecDepth 1000000 in
theorem parts_no1 (w : World) (b1 b2 : Bool) (a1 a2 : Option Addr) (l1 l2 : List Nat) (n1 n2 c1 c2 : Nat) (h1 : Came w b1 a1 n1 l1) (h2 : Came w b2 a2 n2 l2) (hm : mayB b1 l1 = false) :
    Calls Tryd.prog 3 #[.agg #[.bool b1, .slice a1 n1 c1], .agg #[.bool b2, .slice a2 n2 c2]] w fun e w' => e = .returned (.bool true) ∧ Below w.heap.size w w' := by
  obtain ⟨W, hWe, r2, r3, hB, hsz⟩ := rows2 w 24 (.bool b1) (.slice a1 n1 c1) (.bool b2) (.slice a2 n2 c2)
  have HWe := Lib.hid hWe; clear hWe
  have hWw := hB
  have hq := fun X (h : Below w.heap.size w X) => since_quo (c1 := c1) (c2 := c2) (W := w) h1 h2 h
  have hd := fun X (h : Below w.heap.size w X) => since_div (c1 := c1) (c2 := c2) (W := w) h1 h2 h
  have hm1 := fun X (h : Below w.heap.size w X) => since_may (c := c1) (W := w) h1 h
  have hm2 := fun X (h : Below w.heap.size w X) => since_may (c := c2) (W := w) h2 h
  simp only [hm, Bool.false_and] at hq hd hm1
  have Hq := Lib.hid hq; clear hq
  have Hd := Lib.hid hd; clear hd
  have Hm1 := Lib.hid hm1; clear hm1
  have Hm2 := Lib.hid hm2; clear hm2
  clear h1 h2 hm
  go_enter Tryd.func3, Tryd.ntmps3
  obtain ⟨kr20, kr21⟩ := r2.cells
  obtain ⟨kr30, kr31⟩ := r3.cells
  go_wp2_with fail
  rw [← HWe.out]
  refine ((Hq.out W hB).mono fun e X' h => h.bad).mono ?_
  rintro e V ⟨rfl, hb⟩
  replace r2 := r2.below hb r2.lt
  replace r3 := r3.below hb r3.lt
  replace hB := hB.trans (hb.mono hB.size)
  clear kr20 kr21 kr30 kr31
  obtain ⟨kr20, kr21⟩ := r2.cells
  obtain ⟨kr30, kr31⟩ := r3.cells
  obtain ⟨V1, hV1, r5, r6, hbV1, hzV1⟩ := rows2 V 24 (.bool false) (.slice none 0 0) (.bool false) (.slice none 0 0)
  replace r2 := r2.below hbV1 r2.lt
  replace r3 := r3.below hbV1 r3.lt
  replace hB := hB.trans (hbV1.mono hB.size)
  clear kr20 kr21 kr30 kr31
  obtain ⟨kr20, kr21⟩ := r2.cells
  obtain ⟨kr30, kr31⟩ := r3.cells
  obtain ⟨kr50, kr51⟩ := r5.cells
  obtain ⟨kr60, kr61⟩ := r6.cells
  rw [hV1] at kr20 kr21 kr30 kr31 kr50 kr51 kr60 kr61
  have HV1 := Lib.hid hV1; clear hV1
  go_wp2_with fail
  rw [← HV1.out]
  refine ((Hd.out V1 hB).mono fun e X' h => h.bad).mono ?_
  rintro e V2 ⟨rfl, hb⟩
  replace r2 := r2.below hb r2.lt
  replace r3 := r3.below hb r3.lt
  replace r5 := r5.below hb r5.lt
  replace r6 := r6.below hb r6.lt
  replace hB := hB.trans (hb.mono hB.size)
  clear kr20 kr21 kr30 kr31 kr50 kr51 kr60 kr61
  obtain ⟨kr20, kr21⟩ := r2.cells
  obtain ⟨kr30, kr31⟩ := r3.cells
  obtain ⟨kr50, kr51⟩ := r5.cells
  obtain ⟨kr60, kr61⟩ := r6.cells
  obtain ⟨V3, hV3, r8, r9, hbV3, hzV3⟩ := rows2 V2 24 (.bool false) (.slice none 0 0) (.bool false) (.slice none 0 0)
  replace r2 := r2.below hbV3 r2.lt
  replace r3 := r3.below hbV3 r3.lt
  replace r5 := r5.below hbV3 r5.lt
  replace r6 := r6.below hbV3 r6.lt
  replace hB := hB.trans (hbV3.mono hB.size)
  clear kr20 kr21 kr30 kr31 kr50 kr51 kr60 kr61
  obtain ⟨kr20, kr21⟩ := r2.cells
  obtain ⟨kr30, kr31⟩ := r3.cells
  obtain ⟨kr50, kr51⟩ := r5.cells
  obtain ⟨kr60, kr61⟩ := r6.cells
  obtain ⟨kr80, kr81⟩ := r8.cells
  obtain ⟨kr90, kr91⟩ := r9.cells
  rw [hV3] at kr20 kr21 kr30 kr31 kr50 kr51 kr60 kr61 kr80 kr81 kr90 kr91
  have HV3 := Lib.hid hV3; clear hV3
  go_wp2_with fail
  rw [← HV3.out]
  refine (law_awake V3).mono ?_
  rintro e V4 ⟨rfl, hb⟩
  replace r2 := r2.below hb r2.lt
  replace r3 := r3.below hb r3.lt
  replace r5 := r5.below hb r5.lt
  replace r6 := r6.below hb r6.lt
  replace r8 := r8.below hb r8.lt
  replace r9 := r9.below hb r9.lt
  replace hB := hB.trans (hb.mono hB.size)
  clear kr20 kr21 kr30 kr31 kr50 kr51 kr60 kr61 kr80 kr81 kr90 kr91
  obtain ⟨kr20, kr21⟩ := r2.cells
  obtain ⟨kr30, kr31⟩ := r3.cells
  obtain ⟨kr50, kr51⟩ := r5.cells
  obtain ⟨kr60, kr61⟩ := r6.cells
  obtain ⟨kr80, kr81⟩ := r8.cells
  obtain ⟨kr90, kr91⟩ := r9.cells
  go_wp2_with fail
  refine (Hm1.out V4 hB).mono ?_
  rintro e V5 ⟨rfl, hb⟩
  replace r2 := r2.below hb r2.lt
  replace r3 := r3.below hb r3.lt
  replace r5 := r5.below hb r5.lt
  replace r6 := r6.below hb r6.lt
  replace r8 := r8.below hb r8.lt
  replace r9 := r9.below hb r9.lt
  replace hB := hB.trans (hb.mono hB.size)
  clear kr20 kr21 kr30 kr31 kr50 kr51 kr60 kr61 kr80 kr81 kr90 kr91
  obtain ⟨kr20, kr21⟩ := r2.cells
  obtain ⟨kr30, kr31⟩ := r3.cells
  obtain ⟨kr50, kr51⟩ := r5.cells
  obtain ⟨kr60, kr61⟩ := r6.cells
  obtain ⟨kr80, kr81⟩ := r8.cells
  obtain ⟨kr90, kr91⟩ := r9.cells
  go_wp2_with fail
  refine (is_no2 V5).mono ?_
  rintro e U0 ⟨rfl, hb⟩
  replace r2 := r2.below hb r2.lt
  replace r3 := r3.below hb r3.lt
  replace r5 := r5.below hb r5.lt
  replace r6 := r6.below hb r6.lt
  replace r8 := r8.below hb r8.lt
  replace r9 := r9.below hb r9.lt
  replace hB := hB.trans (hb.mono hB.size)
  clear kr20 kr21 kr30 kr31 kr50 kr51 kr60 kr61 kr80 kr81 kr90 kr91
  obtain ⟨kr20, kr21⟩ := r2.cells
  obtain ⟨kr30, kr31⟩ := r3.cells
  obtain ⟨kr50, kr51⟩ := r5.cells
  obtain ⟨kr60, kr61⟩ := r6.cells
  obtain ⟨kr80, kr81⟩ := r8.cells
  obtain ⟨kr90, kr91⟩ := r9.cells
  go_wp2_with fail
  refine (is_no2 U0).mono ?_
  rintro e U1 ⟨rfl, hb⟩
  replace r2 := r2.below hb r2.lt
  replace r3 := r3.below hb r3.lt
  replace r5 := r5.below hb r5.lt
  replace r6 := r6.below hb r6.lt
  replace r8 := r8.below hb r8.lt
  replace r9 := r9.below hb r9.lt
  replace hB := hB.trans (hb.mono hB.size)
  clear kr20 kr21 kr30 kr31 kr50 kr51 kr60 kr61 kr80 kr81 kr90 kr91
  obtain ⟨kr20, kr21⟩ := r2.cells
  obtain ⟨kr30, kr31⟩ := r3.cells
  obtain ⟨kr50, kr51⟩ := r5.cells
  obtain ⟨kr60, kr61⟩ := r6.cells
  obtain ⟨kr80, kr81⟩ := r8.cells
  obtain ⟨kr90, kr91⟩ := r9.cells
  go_wp2_with fail
  refine (is_no2 U1).mono ?_
  rintro e U2 ⟨rfl, hb⟩
  replace r2 := r2.below hb r2.lt
  replace r3 := r3.below hb r3.lt
  replace r5 := r5.below hb r5.lt
  replace r6 := r6.below hb r6.lt
  replace r8 := r8.below hb r8.lt
  replace r9 := r9.below hb r9.lt
  replace hB := hB.trans (hb.mono hB.size)
  clear kr20 kr21 kr30 kr31 kr50 kr51 kr60 kr61 kr80 kr81 kr90 kr91
  obtain ⟨kr20, kr21⟩ := r2.cells
  obtain ⟨kr30, kr31⟩ := r3.cells
  obtain ⟨kr50, kr51⟩ := r5.cells
  obtain ⟨kr60, kr61⟩ := r6.cells
  obtain ⟨kr80, kr81⟩ := r8.cells
  obtain ⟨kr90, kr91⟩ := r9.cells
  go_wp2_with fail
  refine (is_no2 U2).mono ?_
  rintro e U3 ⟨rfl, hb⟩
  replace r2 := r2.below hb r2.lt
  replace r3 := r3.below hb r3.lt
  replace r5 := r5.below hb r5.lt
  replace r6 := r6.below hb r6.lt
  replace r8 := r8.below hb r8.lt
  replace r9 := r9.below hb r9.lt
  replace hB := hB.trans (hb.mono hB.size)
  clear kr20 kr21 kr30 kr31 kr50 kr51 kr60 kr61 kr80 kr81 kr90 kr91
  obtain ⟨kr20, kr21⟩ := r2.cells
  obtain ⟨kr30, kr31⟩ := r3.cells
  obtain ⟨kr50, kr51⟩ := r5.cells
  obtain ⟨kr60, kr61⟩ := r6.cells
  obtain ⟨kr80, kr81⟩ := r8.cells
  obtain ⟨kr90, kr91⟩ := r9.cells
  go_wp2_with fail
  go_ret
  exact ⟨rfl, hB⟩

set_option maxHeartbeats 4000000 in
set_option maxRecDepth 1000000 in
theorem parts_no2 (w : World) (b1 b2 : Bool) (a1 a2 : Option Addr) (l1 l2 : List Nat) (n1 n2 c1 c2 : Nat) (h1 : Came w b1 a1 n1 l1) (h2 : Came w b2 a2 n2 l2) (hm : mayB b1 l1 = true) (hm' : mayB b2 l2 = false) :
    Calls Tryd.prog 3 #[.agg #[.bool b1, .slice a1 n1 c1], .agg #[.bool b2, .slice a2 n2 c2]] w fun e w' => e = .returned (.bool true) ∧ Below w.heap.size w w' := by
  obtain ⟨W, hWe, r2, r3, hB, hsz⟩ := rows2 w 24 (.bool b1) (.slice a1 n1 c1) (.bool b2) (.slice a2 n2 c2)
  have HWe := Lib.hid hWe; clear hWe
  have hWw := hB
  have hq := fun X (h : Below w.heap.size w X) => since_quo (c1 := c1) (c2 := c2) (W := w) h1 h2 h
  have hd := fun X (h : Below w.heap.size w X) => since_div (c1 := c1) (c2 := c2) (W := w) h1 h2 h
  have hm1 := fun X (h : Below w.heap.size w X) => since_may (c := c1) (W := w) h1 h
  have hm2 := fun X (h : Below w.heap.size w X) => since_may (c := c2) (W := w) h2 h
  simp only [hm, hm', Bool.and_false] at hq hd hm1 hm2
  have Hq := Lib.hid hq; clear hq
  have Hd := Lib.hid hd; clear hd
  have Hm1 := Lib.hid hm1; clear hm1
  have Hm2 := Lib.hid hm2; clear hm2
  clear h1 h2 hm hm'
  go_enter Tryd.func3, Tryd.ntmps3
  obtain ⟨kr20, kr21⟩ := r2.cells
  obtain ⟨kr30, kr31⟩ := r3.cells
  go_wp2_with fail
  rw [← HWe.out]
  refine ((Hq.out W hB).mono fun e X' h => h.bad).mono ?_
  rintro e V ⟨rfl, hb⟩
  replace r2 := r2.below hb r2.lt
  replace r3 := r3.below hb r3.lt
  replace hB := hB.trans (hb.mono hB.size)
  clear kr20 kr21 kr30 kr31
  obtain ⟨kr20, kr21⟩ := r2.cells
  obtain ⟨kr30, kr31⟩ := r3.cells
  obtain ⟨V1, hV1, r5, r6, hbV1, hzV1⟩ := rows2 V 24 (.bool false) (.slice none 0 0) (.bool false) (.slice none 0 0)
  replace r2 := r2.below hbV1 r2.lt
  replace r3 := r3.below hbV1 r3.lt
  replace hB := hB.trans (hbV1.mono hB.size)
  clear kr20 kr21 kr30 kr31
  obtain ⟨kr20, kr21⟩ := r2.cells
  obtain ⟨kr30, kr31⟩ := r3.cells
  obtain ⟨kr50, kr51⟩ := r5.cells
  obtain ⟨kr60, kr61⟩ := r6.cells
  rw [hV1] at kr20 kr21 kr30 kr31 kr50 kr51 kr60 kr61
  have HV1 := Lib.hid hV1; clear hV1
  go_wp2_with fail
  rw [← HV1.out]
  refine ((Hd.out V1 hB).mono fun e X' h => h.bad).mono ?_
  rintro e V2 ⟨rfl, hb⟩
  replace r2 := r2.below hb r2.lt
  replace r3 := r3.below hb r3.lt
  replace r5 := r5.below hb r5.lt
  replace r6 := r6.below hb r6.lt
  replace hB := hB.trans (hb.mono hB.size)
  clear kr20 kr21 kr30 kr31 kr50 kr51 kr60 kr61
  obtain ⟨kr20, kr21⟩ := r2.cells
  obtain ⟨kr30, kr31⟩ := r3.cells
  obtain ⟨kr50, kr51⟩ := r5.cells
  obtain ⟨kr60, kr61⟩ := r6.cells
  obtain ⟨V3, hV3, r8, r9, hbV3, hzV3⟩ := rows2 V2 24 (.bool false) (.slice none 0 0) (.bool false) (.slice none 0 0)
  replace r2 := r2.below hbV3 r2.lt
  replace r3 := r3.below hbV3 r3.lt
  replace r5 := r5.below hbV3 r5.lt
  replace r6 := r6.below hbV3 r6.lt
  replace hB := hB.trans (hbV3.mono hB.size)
  clear kr20 kr21 kr30 kr31 kr50 kr51 kr60 kr61
  obtain ⟨kr20, kr21⟩ := r2.cells
  obtain ⟨kr30, kr31⟩ := r3.cells
  obtain ⟨kr50, kr51⟩ := r5.cells
  obtain ⟨kr60, kr61⟩ := r6.cells
  obtain ⟨kr80, kr81⟩ := r8.cells
  obtain ⟨kr90, kr91⟩ := r9.cells
  rw [hV3] at kr20 kr21 kr30 kr31 kr50 kr51 kr60 kr61 kr80 kr81 kr90 kr91
  have HV3 := Lib.hid hV3; clear hV3
  go_wp2_with fail
  rw [← HV3.out]
  refine (law_awake V3).mono ?_
  rintro e V4 ⟨rfl, hb⟩
  replace r2 := r2.below hb r2.lt
  replace r3 := r3.below hb r3.lt
  replace r5 := r5.below hb r5.lt
  replace r6 := r6.below hb r6.lt
  replace r8 := r8.below hb r8.lt
  replace r9 := r9.below hb r9.lt
  replace hB := hB.trans (hb.mono hB.size)
  clear kr20 kr21 kr30 kr31 kr50 kr51 kr60 kr61 kr80 kr81 kr90 kr91
  obtain ⟨kr20, kr21⟩ := r2.cells
  obtain ⟨kr30, kr31⟩ := r3.cells
  obtain ⟨kr50, kr51⟩ := r5.cells
  obtain ⟨kr60, kr61⟩ := r6.cells
  obtain ⟨kr80, kr81⟩ := r8.cells
  obtain ⟨kr90, kr91⟩ := r9.cells
  go_wp2_with fail
  refine (Hm1.out V4 hB).mono ?_
  rintro e V5 ⟨rfl, hb⟩
  replace r2 := r2.below hb r2.lt
  replace r3 := r3.below hb r3.lt
  replace r5 := r5.below hb r5.lt
  replace r6 := r6.below hb r6.lt
  replace r8 := r8.below hb r8.lt
  replace r9 := r9.below hb r9.lt
  replace hB := hB.trans (hb.mono hB.size)
  clear kr20 kr21 kr30 kr31 kr50 kr51 kr60 kr61 kr80 kr81 kr90 kr91
  obtain ⟨kr20, kr21⟩ := r2.cells
  obtain ⟨kr30, kr31⟩ := r3.cells
  obtain ⟨kr50, kr51⟩ := r5.cells
  obtain ⟨kr60, kr61⟩ := r6.cells
  obtain ⟨kr80, kr81⟩ := r8.cells
  obtain ⟨kr90, kr91⟩ := r9.cells
  go_wp2_with fail
  refine (Hm2.out V5 hB).mono ?_
  rintro e V6 ⟨rfl, hb⟩
  replace r2 := r2.below hb r2.lt
  replace r3 := r3.below hb r3.lt
  replace r5 := r5.below hb r5.lt
  replace r6 := r6.below hb r6.lt
  replace r8 := r8.below hb r8.lt
  replace r9 := r9.below hb r9.lt
  replace hB := hB.trans (hb.mono hB.size)
  clear kr20 kr21 kr30 kr31 kr50 kr51 kr60 kr61 kr80 kr81 kr90 kr91
  obtain ⟨kr20, kr21⟩ := r2.cells
  obtain ⟨kr30, kr31⟩ := r3.cells
  obtain ⟨kr50, kr51⟩ := r5.cells
  obtain ⟨kr60, kr61⟩ := r6.cells
  obtain ⟨kr80, kr81⟩ := r8.cells
  obtain ⟨kr90, kr91⟩ := r9.cells
  go_wp2_with fail
  refine (is_no2 V6).mono ?_
  rintro e U0 ⟨rfl, hb⟩
  replace r2 := r2.below hb r2.lt
  replace r3 := r3.below hb r3.lt
  replace r5 := r5.below hb r5.lt
  replace r6 := r6.below hb r6.lt
  replace r8 := r8.below hb r8.lt
  replace r9 := r9.below hb r9.lt
  replace hB := hB.trans (hb.mono hB.size)
  clear kr20 kr21 kr30 kr31 kr50 kr51 kr60 kr61 kr80 kr81 kr90 kr91
  obtain ⟨kr20, kr21⟩ := r2.cells
  obtain ⟨kr30, kr31⟩ := r3.cells
  obtain ⟨kr50, kr51⟩ := r5.cells
  obtain ⟨kr60, kr61⟩ := r6.cells
  obtain ⟨kr80, kr81⟩ := r8.cells
  obtain ⟨kr90, kr91⟩ := r9.cells
  go_wp2_with fail
  refine (is_no2 U0).mono ?_
  rintro e U1 ⟨rfl, hb⟩
  replace r2 := r2.below hb r2.lt
  replace r3 := r3.below hb r3.lt
  replace r5 := r5.below hb r5.lt
  replace r6 := r6.below hb r6.lt
  replace r8 := r8.below hb r8.lt
  replace r9 := r9.below hb r9.lt
  replace hB := hB.trans (hb.mono hB.size)
  clear kr20 kr21 kr30 kr31 kr50 kr51 kr60 kr61 kr80 kr81 kr90 kr91
  obtain ⟨kr20, kr21⟩ := r2.cells
  obtain ⟨kr30, kr31⟩ := r3.cells
  obtain ⟨kr50, kr51⟩ := r5.cells
  obtain ⟨kr60, kr61⟩ := r6.cells
  obtain ⟨kr80, kr81⟩ := r8.cells
  obtain ⟨kr90, kr91⟩ := r9.cells
  go_wp2_with fail
  refine (is_no2 U1).mono ?_
  rintro e U2 ⟨rfl, hb⟩
  replace r2 := r2.below hb r2.lt
  replace r3 := r3.below hb r3.lt
  replace r5 := r5.below hb r5.lt
  replace r6 := r6.below hb r6.lt
  replace r8 := r8.below hb r8.lt
  replace r9 := r9.below hb r9.lt
  replace hB := hB.trans (hb.mono hB.size)
  clear kr20 kr21 kr30 kr31 kr50 kr51 kr60 kr61 kr80 kr81 kr90 kr91
  obtain ⟨kr20, kr21⟩ := r2.cells
  obtain ⟨kr30, kr31⟩ := r3.cells
  obtain ⟨kr50, kr51⟩ := r5.cells
  obtain ⟨kr60, kr61⟩ := r6.cells
  obtain ⟨kr80, kr81⟩ := r8.cells
  obtain ⟨kr90, kr91⟩ := r9.cells
  go_wp2_with fail
  refine (is_no2 U2).mono ?_
  rintro e U3 ⟨rfl, hb⟩
  replace r2 := r2.below hb r2.lt
  replace r3 := r3.below hb r3.lt
  replace r5 := r5.below hb r5.lt
  replace r6 := r6.below hb r6.lt
  replace r8 := r8.below hb r8.lt
  replace r9 := r9.below hb r9.lt
  replace hB := hB.trans (hb.mono hB.size)
  clear kr20 kr21 kr30 kr31 kr50 kr51 kr60 kr61 kr80 kr81 kr90 kr91
  obtain ⟨kr20, kr21⟩ := r2.cells
  obtain ⟨kr30, kr31⟩ := r3.cells
  obtain ⟨kr50, kr51⟩ := r5.cells
  obtain ⟨kr60, kr61⟩ := r6.cells
  obtain ⟨kr80, kr81⟩ := r8.cells
  obtain ⟨kr90, kr91⟩ := r9.cells
  go_wp2_with fail
  go_ret
  exact ⟨rfl, hB⟩

set_option maxHeartbeats 4000000 in
set_option maxRecDepth 1000000 in
theorem parts_zero (w : World) (b1 b2 : Bool) (a1 a2 : Option Addr) (l1 l2 : List Nat) (n1 n2 c1 c2 : Nat) (h1 : Came w b1 a1 n1 l1) (h2 : Came w b2 a2 n2 l2) (hm : mayB b1 l1 = true) (hm' : mayB b2 l2 = true) (hn : n2 = 0) :
    Calls Tryd.prog 3 #[.agg #[.bool b1, .slice a1 n1 c1], .agg #[.bool b2, .slice a2 n2 c2]] w fun e w' => e = .returned (.bool true) ∧ Below w.heap.size w w' := by
  obtain ⟨W, hWe, r2, r3, hB, hsz⟩ := rows2 w 24 (.bool b1) (.slice a1 n1 c1) (.bool b2) (.slice a2 n2 c2)
  have HWe := Lib.hid hWe; clear hWe
  have hWw := hB
  have hq := fun X (h : Below w.heap.size w X) => since_quo (c1 := c1) (c2 := c2) (W := w) h1 h2 h
  have hd := fun X (h : Below w.heap.size w X) => since_div (c1 := c1) (c2 := c2) (W := w) h1 h2 h
  have hm1 := fun X (h : Below w.heap.size w X) => since_may (c := c1) (W := w) h1 h
  have hm2 := fun X (h : Below w.heap.size w X) => since_may (c := c2) (W := w) h2 h
  have hz : signed b2 (val l2) = 0 := by rw [List.eq_nil_of_length_eq_zero (h2.2.2.1.symm.trans hn)]; unfold signed; cases b2 <;> rfl
  simp only [hm, hm', hz, Bool.and_true] at hq hd hm1 hm2
  have Hq := Lib.hid hq; clear hq
  have Hd := Lib.hid hd; clear hd
  have Hm1 := Lib.hid hm1; clear hm1
  have Hm2 := Lib.hid hm2; clear hm2
  clear h1 h2 hm hm' hz
  subst hn
  go_enter Tryd.func3, Tryd.ntmps3
  obtain ⟨kr20, kr21⟩ := r2.cells
  obtain ⟨kr30, kr31⟩ := r3.cells
  go_wp2_with fail
  rw [← HWe.out]
  refine ((Hq.out W hB).mono fun e X' h => h.zero rfl).mono ?_
  rintro e V ⟨rfl, hb⟩
  replace r2 := r2.below hb r2.lt
  replace r3 := r3.below hb r3.lt
  replace hB := hB.trans (hb.mono hB.size)
  clear kr20 kr21 kr30 kr31
  obtain ⟨kr20, kr21⟩ := r2.cells
  obtain ⟨kr30, kr31⟩ := r3.cells
  obtain ⟨V1, hV1, r5, r6, hbV1, hzV1⟩ := rows2 V 24 (.bool false) (.slice none 0 0) (.bool false) (.slice none 0 0)
  replace r2 := r2.below hbV1 r2.lt
  replace r3 := r3.below hbV1 r3.lt
  replace hB := hB.trans (hbV1.mono hB.size)
  clear kr20 kr21 kr30 kr31
  obtain ⟨kr20, kr21⟩ := r2.cells
  obtain ⟨kr30, kr31⟩ := r3.cells
  obtain ⟨kr50, kr51⟩ := r5.cells
  obtain ⟨kr60, kr61⟩ := r6.cells
  rw [hV1] at kr20 kr21 kr30 kr31 kr50 kr51 kr60 kr61
  have HV1 := Lib.hid hV1; clear hV1
  go_wp2_with fail
  rw [← HV1.out]
  refine ((Hd.out V1 hB).mono fun e X' h => h.zero rfl).mono ?_
  rintro e V2 ⟨rfl, hb⟩
  replace r2 := r2.below hb r2.lt
  replace r3 := r3.below hb r3.lt
  replace r5 := r5.below hb r5.lt
  replace r6 := r6.below hb r6.lt
  replace hB := hB.trans (hb.mono hB.size)
  clear kr20 kr21 kr30 kr31 kr50 kr51 kr60 kr61
  obtain ⟨kr20, kr21⟩ := r2.cells
  obtain ⟨kr30, kr31⟩ := r3.cells
  obtain ⟨kr50, kr51⟩ := r5.cells
  obtain ⟨kr60, kr61⟩ := r6.cells
  obtain ⟨V3, hV3, r8, r9, hbV3, hzV3⟩ := rows2 V2 24 (.bool false) (.slice none 0 0) (.bool false) (.slice none 0 0)
  replace r2 := r2.below hbV3 r2.lt
  replace r3 := r3.below hbV3 r3.lt
  replace r5 := r5.below hbV3 r5.lt
  replace r6 := r6.below hbV3 r6.lt
  replace hB := hB.trans (hbV3.mono hB.size)
  clear kr20 kr21 kr30 kr31 kr50 kr51 kr60 kr61
  obtain ⟨kr20, kr21⟩ := r2.cells
  obtain ⟨kr30, kr31⟩ := r3.cells
  obtain ⟨kr50, kr51⟩ := r5.cells
  obtain ⟨kr60, kr61⟩ := r6.cells
  obtain ⟨kr80, kr81⟩ := r8.cells
  obtain ⟨kr90, kr91⟩ := r9.cells
  rw [hV3] at kr20 kr21 kr30 kr31 kr50 kr51 kr60 kr61 kr80 kr81 kr90 kr91
  have HV3 := Lib.hid hV3; clear hV3
  go_wp2_with fail
  rw [← HV3.out]
  refine (law_awake V3).mono ?_
  rintro e V4 ⟨rfl, hb⟩
  replace r2 := r2.below hb r2.lt
  replace r3 := r3.below hb r3.lt
  replace r5 := r5.below hb r5.lt
  replace r6 := r6.below hb r6.lt
  replace r8 := r8.below hb r8.lt
  replace r9 := r9.below hb r9.lt
  replace hB := hB.trans (hb.mono hB.size)
  clear kr20 kr21 kr30 kr31 kr50 kr51 kr60 kr61 kr80 kr81 kr90 kr91
  obtain ⟨kr20, kr21⟩ := r2.cells
  obtain ⟨kr30, kr31⟩ := r3.cells
  obtain ⟨kr50, kr51⟩ := r5.cells
  obtain ⟨kr60, kr61⟩ := r6.cells
  obtain ⟨kr80, kr81⟩ := r8.cells
  obtain ⟨kr90, kr91⟩ := r9.cells
  go_wp2_with fail
  refine (Hm1.out V4 hB).mono ?_
  rintro e V5 ⟨rfl, hb⟩
  replace r2 := r2.below hb r2.lt
  replace r3 := r3.below hb r3.lt
  replace r5 := r5.below hb r5.lt
  replace r6 := r6.below hb r6.lt
  replace r8 := r8.below hb r8.lt
  replace r9 := r9.below hb r9.lt
  replace hB := hB.trans (hb.mono hB.size)
  clear kr20 kr21 kr30 kr31 kr50 kr51 kr60 kr61 kr80 kr81 kr90 kr91
  obtain ⟨kr20, kr21⟩ := r2.cells
  obtain ⟨kr30, kr31⟩ := r3.cells
  obtain ⟨kr50, kr51⟩ := r5.cells
  obtain ⟨kr60, kr61⟩ := r6.cells
  obtain ⟨kr80, kr81⟩ := r8.cells
  obtain ⟨kr90, kr91⟩ := r9.cells
  go_wp2_with fail
  refine (Hm2.out V5 hB).mono ?_
  rintro e V6 ⟨rfl, hb⟩
  replace r2 := r2.below hb r2.lt
  replace r3 := r3.below hb r3.lt
  replace r5 := r5.below hb r5.lt
  replace r6 := r6.below hb r6.lt
  replace r8 := r8.below hb r8.lt
  replace r9 := r9.below hb r9.lt
  replace hB := hB.trans (hb.mono hB.size)
  clear kr20 kr21 kr30 kr31 kr50 kr51 kr60 kr61 kr80 kr81 kr90 kr91
  obtain ⟨kr20, kr21⟩ := r2.cells
  obtain ⟨kr30, kr31⟩ := r3.cells
  obtain ⟨kr50, kr51⟩ := r5.cells
  obtain ⟨kr60, kr61⟩ := r6.cells
  obtain ⟨kr80, kr81⟩ := r8.cells
  obtain ⟨kr90, kr91⟩ := r9.cells
  go_wp2_with fail
  refine (same_nil V6).mono ?_
  rintro e U0 ⟨rfl, hb⟩
  replace r2 := r2.below hb r2.lt
  replace r3 := r3.below hb r3.lt
  replace r5 := r5.below hb r5.lt
  replace r6 := r6.below hb r6.lt
  replace r8 := r8.below hb r8.lt
  replace r9 := r9.below hb r9.lt
  replace hB := hB.trans (hb.mono hB.size)
  clear kr20 kr21 kr30 kr31 kr50 kr51 kr60 kr61 kr80 kr81 kr90 kr91
  obtain ⟨kr20, kr21⟩ := r2.cells
  obtain ⟨kr30, kr31⟩ := r3.cells
  obtain ⟨kr50, kr51⟩ := r5.cells
  obtain ⟨kr60, kr61⟩ := r6.cells
  obtain ⟨kr80, kr81⟩ := r8.cells
  obtain ⟨kr90, kr91⟩ := r9.cells
  go_wp2_with fail
  refine (same_nil U0).mono ?_
  rintro e U1 ⟨rfl, hb⟩
  replace r2 := r2.below hb r2.lt
  replace r3 := r3.below hb r3.lt
  replace r5 := r5.below hb r5.lt
  replace r6 := r6.below hb r6.lt
  replace r8 := r8.below hb r8.lt
  replace r9 := r9.below hb r9.lt
  replace hB := hB.trans (hb.mono hB.size)
  clear kr20 kr21 kr30 kr31 kr50 kr51 kr60 kr61 kr80 kr81 kr90 kr91
  obtain ⟨kr20, kr21⟩ := r2.cells
  obtain ⟨kr30, kr31⟩ := r3.cells
  obtain ⟨kr50, kr51⟩ := r5.cells
  obtain ⟨kr60, kr61⟩ := r6.cells
  obtain ⟨kr80, kr81⟩ := r8.cells
  obtain ⟨kr90, kr91⟩ := r9.cells
  go_wp2_with fail
  refine (same_nil U1).mono ?_
  rintro e U2 ⟨rfl, hb⟩
  replace r2 := r2.below hb r2.lt
  replace r3 := r3.below hb r3.lt
  replace r5 := r5.below hb r5.lt
  replace r6 := r6.below hb r6.lt
  replace r8 := r8.below hb r8.lt
  replace r9 := r9.below hb r9.lt
  replace hB := hB.trans (hb.mono hB.size)
  clear kr20 kr21 kr30 kr31 kr50 kr51 kr60 kr61 kr80 kr81 kr90 kr91
  obtain ⟨kr20, kr21⟩ := r2.cells
  obtain ⟨kr30, kr31⟩ := r3.cells
  obtain ⟨kr50, kr51⟩ := r5.cells
  obtain ⟨kr60, kr61⟩ := r6.cells
  obtain ⟨kr80, kr81⟩ := r8.cells
  obtain ⟨kr90, kr91⟩ := r9.cells
  go_wp2_with fail
  refine (same_nil U2).mono ?_
  rintro e U3 ⟨rfl, hb⟩
  replace r2 := r2.below hb r2.lt
  replace r3 := r3.below hb r3.lt
  replace r5 := r5.below hb r5.lt
  replace r6 := r6.below hb r6.lt
  replace r8 := r8.below hb r8.lt
  replace r9 := r9.below hb r9.lt
  replace hB := hB.trans (hb.mono hB.size)
  clear kr20 kr21 kr30 kr31 kr50 kr51 kr60 kr61 kr80 kr81 kr90 kr91
  obtain ⟨kr20, kr21⟩ := r2.cells
  obtain ⟨kr30, kr31⟩ := r3.cells
  obtain ⟨kr50, kr51⟩ := r5.cells
  obtain ⟨kr60, kr61⟩ := r6.cells
  obtain ⟨kr80, kr81⟩ := r8.cells
  obtain ⟨kr90, kr91⟩ := r9.cells
  go_wp2_with fail
  go_ret
  exact ⟨rfl, hB⟩

set_option maxHeartbeats 4000000 in
set_option maxRecDepth 1000000 in
theorem parts_main (w : World) (b1 b2 : Bool) (a1 a2 : Option Addr) (l1 l2 : List Nat) (n1 n2 c1 c2 : Nat) (h1 : Came w b1 a1 n1 l1) (h2 : Came w b2 a2 n2 l2) (hm : mayB b1 l1 = true) (hm' : mayB b2 l2 = true) (hn : n2 ≠ 0) (hc1 : n1 ≤ c1) (hc2 : n2 ≤ c2) :
    Calls Tryd.prog 3 #[.agg #[.bool b1, .slice a1 n1 c1], .agg #[.bool b2, .slice a2 n2 c2]] w fun e w' => e = .returned (.bool true) ∧ Below w.heap.size w w' := by
  obtain ⟨W, hWe, r2, r3, hB, hsz⟩ := rows2 w 24 (.bool b1) (.slice a1 n1 c1) (.bool b2) (.slice a2 n2 c2)
  have HWe := Lib.hid hWe; clear hWe
  have hWw := hB
  have hq := fun X (h : Below w.heap.size w X) => since_quo (c1 := c1) (c2 := c2) (W := w) h1 h2 h
  have hd := fun X (h : Below w.heap.size w X) => since_div (c1 := c1) (c2 := c2) (W := w) h1 h2 h
  have hm1 := fun X (h : Below w.heap.size w X) => since_may (c := c1) (W := w) h1 h
  have hm2 := fun X (h : Below w.heap.size w X) => since_may (c := c2) (W := w) h2 h
  have hx := h1.api hm hc1
  have hy := h2.api hm' hc2
  have lx := h1.len hm
  have ly := h2.len hm'
  have hz : signed b2 (val l2) ≠ 0 := by
    obtain ⟨e1, e2, e3⟩ := mayB_int h2.2.1 hm'
    intro e; rw [e] at e1; exact hn (by rw [h2.2.2.1, e1]; rfl)
  simp only [hm, hm', Bool.and_true] at hq hd hm1 hm2
  obtain ⟨x, hxv⟩ : ∃ x, x = signed b1 (val l1) := ⟨_, rfl⟩
  obtain ⟨y, hyv⟩ : ∃ y, y = signed b2 (val l2) := ⟨_, rfl⟩
  rw [← hxv] at hq hd hx lx
  rw [← hyv] at hq hd hy ly hz
  have hrq := fun X (h : Below w.heap.size w X) => ref_quo X _ _ x y (hx.below h) (hy.below h) (by omega) (by omega) hz
  have hrd := fun X (h : Below w.heap.size w X) => ref_div X _ _ x y (hx.below h) (hy.below h) (by omega) (by omega) hz
  have lq : (rep (x.fdiv y).natAbs).length ≤ 1024 := Nat.le_trans (rep_mono (dquo_abs true x hz)) lx
  have lq' : (rep (x.tdiv y).natAbs).length ≤ 1024 := Nat.le_trans (rep_mono (dquo_abs false x hz)) lx
  have lr : (rep (x.fmod y).natAbs).length ≤ 1024 := Nat.le_trans (rep_mono (Nat.le_of_lt (drem_abs true x hz))) ly
  have lr' : (rep (x.tmod y).natAbs).length ≤ 1024 := Nat.le_trans (rep_mono (Nat.le_of_lt (drem_abs false x hz))) ly
  have hn2 : ((n2 : Int) == 0) = false := by rw [beq_eq_false_iff_ne]; omega
  have Hz := Lib.hid hz
  have Hq := Lib.hid hq; clear hq
  have Hd := Lib.hid hd; clear hd
  have Hm1 := Lib.hid hm1; clear hm1
  have Hm2 := Lib.hid hm2; clear hm2
  have Hrq := Lib.hid hrq; clear hrq
  have Hrd := Lib.hid hrd; clear hrd
  clear h1 h2 hm hm' hz hn hxv hyv hx hy lx ly
  go_enter Tryd.func3, Tryd.ntmps3
  obtain ⟨kr20, kr21⟩ := r2.cells
  obtain ⟨kr30, kr31⟩ := r3.cells
  go_wp2_with fail
  rw [← HWe.out]
  refine ((Hq.out W hB).mono fun e X' h => h.ok Hz.out).mono ?_
  rintro e V ⟨bq, aq, nq, cq, br, ar, nr, cr, rfl, Hans, hb⟩
  replace r2 := r2.below hb r2.lt
  replace r3 := r3.below hb r3.lt
  replace hB := hB.trans (hb.mono hB.size)
  clear kr20 kr21 kr30 kr31
  obtain ⟨kr20, kr21⟩ := r2.cells
  obtain ⟨kr30, kr31⟩ := r3.cells
  have Aq : ApiV V _ (x.tdiv y) := Hans.out.1
  have Ar : ApiV V _ (x.tmod y) := Hans.out.2
  clear Hans
  obtain ⟨V1, hV1, r5, r6, hbV1, hzV1⟩ := rows2 V 24 (.bool bq) (.slice aq nq cq) (.bool br) (.slice ar nr cr)
  replace r2 := r2.below hbV1 r2.lt
  replace r3 := r3.below hbV1 r3.lt
  replace Aq := Aq.below hbV1
  replace Ar := Ar.below hbV1
  replace hB := hB.trans (hbV1.mono hB.size)
  clear kr20 kr21 kr30 kr31
  obtain ⟨kr20, kr21⟩ := r2.cells
  obtain ⟨kr30, kr31⟩ := r3.cells
  obtain ⟨kr50, kr51⟩ := r5.cells
  obtain ⟨kr60, kr61⟩ := r6.cells
  rw [hV1] at kr20 kr21 kr30 kr31 kr50 kr51 kr60 kr61
  have HV1 := Lib.hid hV1; clear hV1
  go_wp2_with fail
  rw [← HV1.out]
  refine ((Hd.out V1 hB).mono fun e X' h => h.ok Hz.out).mono ?_
  rintro e V2 ⟨bd, ad, nd, cd, bm, am, nm, cm, rfl, Hans, hb⟩
  replace r2 := r2.below hb r2.lt
  replace r3 := r3.below hb r3.lt
  replace r5 := r5.below hb r5.lt
  replace r6 := r6.below hb r6.lt
  replace Aq := Aq.below hb
  replace Ar := Ar.below hb
  replace hB := hB.trans (hb.mono hB.size)
  clear kr20 kr21 kr30 kr31 kr50 kr51 kr60 kr61
  obtain ⟨kr20, kr21⟩ := r2.cells
  obtain ⟨kr30, kr31⟩ := r3.cells
  obtain ⟨kr50, kr51⟩ := r5.cells
  obtain ⟨kr60, kr61⟩ := r6.cells
  have Ad : ApiV V2 _ (x.fdiv y) := Hans.out.1
  have Am : ApiV V2 _ (x.fmod y) := Hans.out.2
  clear Hans
  obtain ⟨V3, hV3, r8, r9, hbV3, hzV3⟩ := rows2 V2 24 (.bool bd) (.slice ad nd cd) (.bool bm) (.slice am nm cm)
  replace r2 := r2.below hbV3 r2.lt
  replace r3 := r3.below hbV3 r3.lt
  replace r5 := r5.below hbV3 r5.lt
  replace r6 := r6.below hbV3 r6.lt
  replace Aq := Aq.below hbV3
  replace Ar := Ar.below hbV3
  replace Ad := Ad.below hbV3
  replace Am := Am.below hbV3
  replace hB := hB.trans (hbV3.mono hB.size)
  clear kr20 kr21 kr30 kr31 kr50 kr51 kr60 kr61
  obtain ⟨kr20, kr21⟩ := r2.cells
  obtain ⟨kr30, kr31⟩ := r3.cells
  obtain ⟨kr50, kr51⟩ := r5.cells
  obtain ⟨kr60, kr61⟩ := r6.cells
  obtain ⟨kr80, kr81⟩ := r8.cells
  obtain ⟨kr90, kr91⟩ := r9.cells
  rw [hV3] at kr20 kr21 kr30 kr31 kr50 kr51 kr60 kr61 kr80 kr81 kr90 kr91
  have HV3 := Lib.hid hV3; clear hV3
  go_wp2_with fail
  rw [← HV3.out]
  refine (law_awake V3).mono ?_
  rintro e V4 ⟨rfl, hb⟩
  replace r2 := r2.below hb r2.lt
  replace r3 := r3.below hb r3.lt
  replace r5 := r5.below hb r5.lt
  replace r6 := r6.below hb r6.lt
  replace r8 := r8.below hb r8.lt
  replace r9 := r9.below hb r9.lt
  replace Aq := Aq.below hb
  replace Ar := Ar.below hb
  replace Ad := Ad.below hb
  replace Am := Am.below hb
  replace hB := hB.trans (hb.mono hB.size)
  clear kr20 kr21 kr30 kr31 kr50 kr51 kr60 kr61 kr80 kr81 kr90 kr91
  obtain ⟨kr20, kr21⟩ := r2.cells
  obtain ⟨kr30, kr31⟩ := r3.cells
  obtain ⟨kr50, kr51⟩ := r5.cells
  obtain ⟨kr60, kr61⟩ := r6.cells
  obtain ⟨kr80, kr81⟩ := r8.cells
  obtain ⟨kr90, kr91⟩ := r9.cells
  go_wp2_with fail
  refine (Hm1.out V4 hB).mono ?_
  rintro e V5 ⟨rfl, hb⟩
  replace r2 := r2.below hb r2.lt
  replace r3 := r3.below hb r3.lt
  replace r5 := r5.below hb r5.lt
  replace r6 := r6.below hb r6.lt
  replace r8 := r8.below hb r8.lt
  replace r9 := r9.below hb r9.lt
  replace Aq := Aq.below hb
  replace Ar := Ar.below hb
  replace Ad := Ad.below hb
  replace Am := Am.below hb
  replace hB := hB.trans (hb.mono hB.size)
  clear kr20 kr21 kr30 kr31 kr50 kr51 kr60 kr61 kr80 kr81 kr90 kr91
  obtain ⟨kr20, kr21⟩ := r2.cells
  obtain ⟨kr30, kr31⟩ := r3.cells
  obtain ⟨kr50, kr51⟩ := r5.cells
  obtain ⟨kr60, kr61⟩ := r6.cells
  obtain ⟨kr80, kr81⟩ := r8.cells
  obtain ⟨kr90, kr91⟩ := r9.cells
  go_wp2_with fail
  refine (Hm2.out V5 hB).mono ?_
  rintro e V6 ⟨rfl, hb⟩
  replace r2 := r2.below hb r2.lt
  replace r3 := r3.below hb r3.lt
  replace r5 := r5.below hb r5.lt
  replace r6 := r6.below hb r6.lt
  replace r8 := r8.below hb r8.lt
  replace r9 := r9.below hb r9.lt
  replace Aq := Aq.below hb
  replace Ar := Ar.below hb
  replace Ad := Ad.below hb
  replace Am := Am.below hb
  replace hB := hB.trans (hb.mono hB.size)
  clear kr20 kr21 kr30 kr31 kr50 kr51 kr60 kr61 kr80 kr81 kr90 kr91
  obtain ⟨kr20, kr21⟩ := r2.cells
  obtain ⟨kr30, kr31⟩ := r3.cells
  obtain ⟨kr50, kr51⟩ := r5.cells
  obtain ⟨kr60, kr61⟩ := r6.cells
  obtain ⟨kr80, kr81⟩ := r8.cells
  obtain ⟨kr90, kr91⟩ := r9.cells
  go_wp2_with fail
  refine (Hrq.out V6 hB).mono ?_
  rintro e V7 ⟨bs, as', ns, cs, bt, at', nt, ct, rfl, As, At', hb⟩
  replace r2 := r2.below hb r2.lt
  replace r3 := r3.below hb r3.lt
  replace r5 := r5.below hb r5.lt
  replace r6 := r6.below hb r6.lt
  replace r8 := r8.below hb r8.lt
  replace r9 := r9.below hb r9.lt
  replace Aq := Aq.below hb
  replace Ar := Ar.below hb
  replace Ad := Ad.below hb
  replace Am := Am.below hb
  replace hB := hB.trans (hb.mono hB.size)
  clear kr20 kr21 kr30 kr31 kr50 kr51 kr60 kr61 kr80 kr81 kr90 kr91
  obtain ⟨kr20, kr21⟩ := r2.cells
  obtain ⟨kr30, kr31⟩ := r3.cells
  obtain ⟨kr50, kr51⟩ := r5.cells
  obtain ⟨kr60, kr61⟩ := r6.cells
  obtain ⟨kr80, kr81⟩ := r8.cells
  obtain ⟨kr90, kr91⟩ := r9.cells
  obtain rfl : bs = bq := As.parts.1.trans Aq.parts.1.symm
  obtain rfl : ns = nq := As.parts.2.1.trans Aq.parts.2.1.symm
  obtain rfl : bt = br := At'.parts.1.trans Ar.parts.1.symm
  obtain rfl : nt = nr := At'.parts.2.1.trans Ar.parts.2.1.symm
  obtain ⟨V8, hV8, r11, r12, hbV8, hzV8⟩ := rows2 V7 24 (.bool bs) (.slice as' ns cs) (.bool bt) (.slice at' nt ct)
  replace r2 := r2.below hbV8 r2.lt
  replace r3 := r3.below hbV8 r3.lt
  replace r5 := r5.below hbV8 r5.lt
  replace r6 := r6.below hbV8 r6.lt
  replace r8 := r8.below hbV8 r8.lt
  replace r9 := r9.below hbV8 r9.lt
  replace Aq := Aq.below hbV8
  replace Ar := Ar.below hbV8
  replace Ad := Ad.below hbV8
  replace Am := Am.below hbV8
  replace As := As.below hbV8
  replace At' := At'.below hbV8
  replace hB := hB.trans (hbV8.mono hB.size)
  clear kr20 kr21 kr30 kr31 kr50 kr51 kr60 kr61 kr80 kr81 kr90 kr91
  obtain ⟨kr20, kr21⟩ := r2.cells
  obtain ⟨kr30, kr31⟩ := r3.cells
  obtain ⟨kr50, kr51⟩ := r5.cells
  obtain ⟨kr60, kr61⟩ := r6.cells
  obtain ⟨kr80, kr81⟩ := r8.cells
  obtain ⟨kr90, kr91⟩ := r9.cells
  obtain ⟨kr110, kr111⟩ := r11.cells
  obtain ⟨kr120, kr121⟩ := r12.cells
  rw [hV8] at kr20 kr21 kr30 kr31 kr50 kr51 kr60 kr61 kr80 kr81 kr90 kr91 kr110 kr111 kr120 kr121
  have HV8 := Lib.hid hV8; clear hV8
  go_wp2_with fail
  rw [← HV8.out]
  refine (Hrd.out V8 hB).mono ?_
  rintro e V9 ⟨bu, au, nu, cu, bv, av, nv, cv, rfl, Au, Av, hb⟩
  replace r2 := r2.below hb r2.lt
  replace r3 := r3.below hb r3.lt
  replace r5 := r5.below hb r5.lt
  replace r6 := r6.below hb r6.lt
  replace r8 := r8.below hb r8.lt
  replace r9 := r9.below hb r9.lt
  replace r11 := r11.below hb r11.lt
  replace r12 := r12.below hb r12.lt
  replace Aq := Aq.below hb
  replace Ar := Ar.below hb
  replace Ad := Ad.below hb
  replace Am := Am.below hb
  replace As := As.below hb
  replace At' := At'.below hb
  replace hB := hB.trans (hb.mono hB.size)
  clear kr20 kr21 kr30 kr31 kr50 kr51 kr60 kr61 kr80 kr81 kr90 kr91 kr110 kr111 kr120 kr121
  obtain ⟨kr20, kr21⟩ := r2.cells
  obtain ⟨kr30, kr31⟩ := r3.cells
  obtain ⟨kr50, kr51⟩ := r5.cells
  obtain ⟨kr60, kr61⟩ := r6.cells
  obtain ⟨kr80, kr81⟩ := r8.cells
  obtain ⟨kr90, kr91⟩ := r9.cells
  obtain ⟨kr110, kr111⟩ := r11.cells
  obtain ⟨kr120, kr121⟩ := r12.cells
  obtain rfl : bu = bd := Au.parts.1.trans Ad.parts.1.symm
  obtain rfl : nu = nd := Au.parts.2.1.trans Ad.parts.2.1.symm
  obtain rfl : bv = bm := Av.parts.1.trans Am.parts.1.symm
  obtain rfl : nv = nm := Av.parts.2.1.trans Am.parts.2.1.symm
  obtain ⟨V10, hV10, r13, r14, hbV10, hzV10⟩ := rows2 V9 24 (.bool bu) (.slice au nu cu) (.bool bv) (.slice av nv cv)
  replace r2 := r2.below hbV10 r2.lt
  replace r3 := r3.below hbV10 r3.lt
  replace r5 := r5.below hbV10 r5.lt
  replace r6 := r6.below hbV10 r6.lt
  replace r8 := r8.below hbV10 r8.lt
  replace r9 := r9.below hbV10 r9.lt
  replace r11 := r11.below hbV10 r11.lt
  replace r12 := r12.below hbV10 r12.lt
  replace Aq := Aq.below hbV10
  replace Ar := Ar.below hbV10
  replace Ad := Ad.below hbV10
  replace Am := Am.below hbV10
  replace As := As.below hbV10
  replace At' := At'.below hbV10
  replace Au := Au.below hbV10
  replace Av := Av.below hbV10
  replace hB := hB.trans (hbV10.mono hB.size)
  clear kr20 kr21 kr30 kr31 kr50 kr51 kr60 kr61 kr80 kr81 kr90 kr91 kr110 kr111 kr120 kr121
  obtain ⟨kr20, kr21⟩ := r2.cells
  obtain ⟨kr30, kr31⟩ := r3.cells
  obtain ⟨kr50, kr51⟩ := r5.cells
  obtain ⟨kr60, kr61⟩ := r6.cells
  obtain ⟨kr80, kr81⟩ := r8.cells
  obtain ⟨kr90, kr91⟩ := r9.cells
  obtain ⟨kr110, kr111⟩ := r11.cells
  obtain ⟨kr120, kr121⟩ := r12.cells
  obtain ⟨kr130, kr131⟩ := r13.cells
  obtain ⟨kr140, kr141⟩ := r14.cells
  rw [hV10] at kr20 kr21 kr30 kr31 kr50 kr51 kr60 kr61 kr80 kr81 kr90 kr91 kr110 kr111 kr120 kr121 kr130 kr131 kr140 kr141
  have HV10 := Lib.hid hV10; clear hV10
  have hnu : nu ≤ 1024 := by rw [Au.parts.2.1]; exact lq
  go_wp2_with fail
  rw [← HV10.out]
  refine (law_same V10 _ _ _ _ _ _ _ Aq.parts.2.2.2 As.parts.2.2.2 Aq.parts.2.1 (by rw [Aq.parts.2.1]; omega)).mono ?_
  rintro e U0 ⟨rfl, hb⟩
  replace r2 := r2.below hb r2.lt
  replace r3 := r3.below hb r3.lt
  replace r5 := r5.below hb r5.lt
  replace r6 := r6.below hb r6.lt
  replace r8 := r8.below hb r8.lt
  replace r9 := r9.below hb r9.lt
  replace r11 := r11.below hb r11.lt
  replace r12 := r12.below hb r12.lt
  replace r13 := r13.below hb r13.lt
  replace r14 := r14.below hb r14.lt
  replace Aq := Aq.below hb
  replace Ar := Ar.below hb
  replace Ad := Ad.below hb
  replace Am := Am.below hb
  replace As := As.below hb
  replace At' := At'.below hb
  replace Au := Au.below hb
  replace Av := Av.below hb
  replace hB := hB.trans (hb.mono hB.size)
  clear kr20 kr21 kr30 kr31 kr50 kr51 kr60 kr61 kr80 kr81 kr90 kr91 kr110 kr111 kr120 kr121 kr130 kr131 kr140 kr141
  obtain ⟨kr20, kr21⟩ := r2.cells
  obtain ⟨kr30, kr31⟩ := r3.cells
  obtain ⟨kr50, kr51⟩ := r5.cells
  obtain ⟨kr60, kr61⟩ := r6.cells
  obtain ⟨kr80, kr81⟩ := r8.cells
  obtain ⟨kr90, kr91⟩ := r9.cells
  obtain ⟨kr110, kr111⟩ := r11.cells
  obtain ⟨kr120, kr121⟩ := r12.cells
  obtain ⟨kr130, kr131⟩ := r13.cells
  obtain ⟨kr140, kr141⟩ := r14.cells
  go_wp2_with fail
  refine (law_same U0 _ _ _ _ _ _ _ Ar.parts.2.2.2 At'.parts.2.2.2 Ar.parts.2.1 (by rw [Ar.parts.2.1]; omega)).mono ?_
  rintro e U1 ⟨rfl, hb⟩
  replace r2 := r2.below hb r2.lt
  replace r3 := r3.below hb r3.lt
  replace r5 := r5.below hb r5.lt
  replace r6 := r6.below hb r6.lt
  replace r8 := r8.below hb r8.lt
  replace r9 := r9.below hb r9.lt
  replace r11 := r11.below hb r11.lt
  replace r12 := r12.below hb r12.lt
  replace r13 := r13.below hb r13.lt
  replace r14 := r14.below hb r14.lt
  replace Aq := Aq.below hb
  replace Ar := Ar.below hb
  replace Ad := Ad.below hb
  replace Am := Am.below hb
  replace As := As.below hb
  replace At' := At'.below hb
  replace Au := Au.below hb
  replace Av := Av.below hb
  replace hB := hB.trans (hb.mono hB.size)
  clear kr20 kr21 kr30 kr31 kr50 kr51 kr60 kr61 kr80 kr81 kr90 kr91 kr110 kr111 kr120 kr121 kr130 kr131 kr140 kr141
  obtain ⟨kr20, kr21⟩ := r2.cells
  obtain ⟨kr30, kr31⟩ := r3.cells
  obtain ⟨kr50, kr51⟩ := r5.cells
  obtain ⟨kr60, kr61⟩ := r6.cells
  obtain ⟨kr80, kr81⟩ := r8.cells
  obtain ⟨kr90, kr91⟩ := r9.cells
  obtain ⟨kr110, kr111⟩ := r11.cells
  obtain ⟨kr120, kr121⟩ := r12.cells
  obtain ⟨kr130, kr131⟩ := r13.cells
  obtain ⟨kr140, kr141⟩ := r14.cells
  go_wp2_with fail
  refine (law_same U1 _ _ _ _ _ _ _ Ad.parts.2.2.2 Au.parts.2.2.2 Ad.parts.2.1 (by rw [Ad.parts.2.1]; omega)).mono ?_
  rintro e U2 ⟨rfl, hb⟩
  replace r2 := r2.below hb r2.lt
  replace r3 := r3.below hb r3.lt
  replace r5 := r5.below hb r5.lt
  replace r6 := r6.below hb r6.lt
  replace r8 := r8.below hb r8.lt
  replace r9 := r9.below hb r9.lt
  replace r11 := r11.below hb r11.lt
  replace r12 := r12.below hb r12.lt
  replace r13 := r13.below hb r13.lt
  replace r14 := r14.below hb r14.lt
  replace Aq := Aq.below hb
  replace Ar := Ar.below hb
  replace Ad := Ad.below hb
  replace Am := Am.below hb
  replace As := As.below hb
  replace At' := At'.below hb
  replace Au := Au.below hb
  replace Av := Av.below hb
  replace hB := hB.trans (hb.mono hB.size)
  clear kr20 kr21 kr30 kr31 kr50 kr51 kr60 kr61 kr80 kr81 kr90 kr91 kr110 kr111 kr120 kr121 kr130 kr131 kr140 kr141
  obtain ⟨kr20, kr21⟩ := r2.cells
  obtain ⟨kr30, kr31⟩ := r3.cells
  obtain ⟨kr50, kr51⟩ := r5.cells
  obtain ⟨kr60, kr61⟩ := r6.cells
  obtain ⟨kr80, kr81⟩ := r8.cells
  obtain ⟨kr90, kr91⟩ := r9.cells
  obtain ⟨kr110, kr111⟩ := r11.cells
  obtain ⟨kr120, kr121⟩ := r12.cells
  obtain ⟨kr130, kr131⟩ := r13.cells
  obtain ⟨kr140, kr141⟩ := r14.cells
  go_wp2_with fail
  refine (law_same U2 _ _ _ _ _ _ _ Am.parts.2.2.2 Av.parts.2.2.2 Am.parts.2.1 (by rw [Am.parts.2.1]; omega)).mono ?_
  rintro e U3 ⟨rfl, hb⟩
  replace r2 := r2.below hb r2.lt
  replace r3 := r3.below hb r3.lt
  replace r5 := r5.below hb r5.lt
  replace r6 := r6.below hb r6.lt
  replace r8 := r8.below hb r8.lt
  replace r9 := r9.below hb r9.lt
  replace r11 := r11.below hb r11.lt
  replace r12 := r12.below hb r12.lt
  replace r13 := r13.below hb r13.lt
  replace r14 := r14.below hb r14.lt
  replace Aq := Aq.below hb
  replace Ar := Ar.below hb
  replace Ad := Ad.below hb
  replace Am := Am.below hb
  replace As := As.below hb
  replace At' := At'.below hb
  replace Au := Au.below hb
  replace Av := Av.below hb
  replace hB := hB.trans (hb.mono hB.size)
  clear kr20 kr21 kr30 kr31 kr50 kr51 kr60 kr61 kr80 kr81 kr90 kr91 kr110 kr111 kr120 kr121 kr130 kr131 kr140 kr141
  obtain ⟨kr20, kr21⟩ := r2.cells
  obtain ⟨kr30, kr31⟩ := r3.cells
  obtain ⟨kr50, kr51⟩ := r5.cells
  obtain ⟨kr60, kr61⟩ := r6.cells
  obtain ⟨kr80, kr81⟩ := r8.cells
  obtain ⟨kr90, kr91⟩ := r9.cells
  obtain ⟨kr110, kr111⟩ := r11.cells
  obtain ⟨kr120, kr121⟩ := r12.cells
  obtain ⟨kr130, kr131⟩ := r13.cells
  obtain ⟨kr140, kr141⟩ := r14.cells
  go_wp2_with fail
  go_ret
  exact ⟨rfl, hB⟩

end Go.Proofs.YtbffpkmfhkphdaaDoor
