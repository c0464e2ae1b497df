/- The walk of LargeFermat where nothing is asked: awake's answer. -/
import Derived.Test.YtbffpkmfhkphdaaDoorGAid
namespace Go.Proofs.YtbffpkmfhkphdaaDoor
open Go Go.RowKit Limb

set_option maxHeartbeats 16000000 in
set_option maxRecDepth 1000000 in
theorem fermat_no1 (w : World) (b1 : Bool) (a1 : Option Addr) (l1 : List Nat) (nx c1 : Nat) (which : Int) (h1 : Came w b1 a1 nx l1) (hm1 : mayB b1 l1 = false) :
    Calls Tryd.prog 6 #[.agg #[.bool b1, .slice a1 nx c1], .int .i64 which] w fun e w' => e = .returned (.bool true) ∧ Below w.heap.size w w' := by
  obtain ⟨W, hWe, r2, hB, hszW⟩ := rows1 w 24 (.bool b1) (.slice a1 nx c1)
  have HWe := Lib.hid hWe; clear hWe
  have hm1s := fun X (h : Below w.heap.size w X) => since_may (c := c1) (W := w) h1 h
  rw [hm1] at hm1s
  have Hm1 := Lib.hid hm1s; clear hm1s
  clear h1 hm1
  go_enter Tryd.func6, Tryd.ntmps6
  obtain ⟨kr20, kr21⟩ := r2.cells
  go_wp2_with fail
  rw [← HWe.out]
  refine (Hm1.out W hB).mono ?_
  rintro e V1 ⟨rfl, hb⟩
  replace r2 := r2.below hb r2.lt
  replace hB := hB.trans (hb.mono hB.size)
  clear kr20 kr21
  obtain ⟨kr20, kr21⟩ := r2.cells
  go_wp2_with fail
  refine (law_awake V1).mono ?_
  rintro e V2 ⟨rfl, hb⟩
  replace r2 := r2.below hb r2.lt
  replace hB := hB.trans (hb.mono hB.size)
  clear kr20 kr21
  obtain ⟨kr20, kr21⟩ := r2.cells
  go_wp2_with fail
  go_ret
  exact ⟨rfl, hB⟩

set_option maxHeartbeats 16000000 in
set_option maxRecDepth 1000000 in
theorem fermat_no2 (w : World) (b1 : Bool) (a1 : Option Addr) (l1 : List Nat) (nx c1 : Nat) (which : Int) (h1 : Came w b1 a1 nx l1) (hm1 : mayB b1 l1 = true) (hs : ¬ nx ≤ 300) :
    Calls Tryd.prog 6 #[.agg #[.bool b1, .slice a1 nx c1], .int .i64 which] w fun e w' => e = .returned (.bool true) ∧ Below w.heap.size w w' := by
  obtain ⟨W, hWe, r2, hB, hszW⟩ := rows1 w 24 (.bool b1) (.slice a1 nx c1)
  have HWe := Lib.hid hWe; clear hWe
  have d0 : decide ((300 : Int) < (nx : Int)) = true := by rw [decide_eq_true_eq]; omega
  have d0' : decide (300 < nx) = true := by rw [decide_eq_true_eq]; omega
  have hm1s := fun X (h : Below w.heap.size w X) => since_may (c := c1) (W := w) h1 h
  rw [hm1] at hm1s
  have Hm1 := Lib.hid hm1s; clear hm1s
  clear h1 hm1 hs
  go_enter Tryd.func6, Tryd.ntmps6
  obtain ⟨kr20, kr21⟩ := r2.cells
  go_wp2_with fail
  rw [← HWe.out]
  refine (Hm1.out W hB).mono ?_
  rintro e V1 ⟨rfl, hb⟩
  replace r2 := r2.below hb r2.lt
  replace hB := hB.trans (hb.mono hB.size)
  clear kr20 kr21
  obtain ⟨kr20, kr21⟩ := r2.cells
  go_wp2_with fail
  refine (law_awake V1).mono ?_
  rintro e V2 ⟨rfl, hb⟩
  replace r2 := r2.below hb r2.lt
  replace hB := hB.trans (hb.mono hB.size)
  clear kr20 kr21
  obtain ⟨kr20, kr21⟩ := r2.cells
  go_wp2_with fail
  go_ret
  exact ⟨rfl, hB⟩

end Go.Proofs.YtbffpkmfhkphdaaDoor
