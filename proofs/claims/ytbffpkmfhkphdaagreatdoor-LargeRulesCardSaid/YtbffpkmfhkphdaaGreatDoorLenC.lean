/- Plain arithmetic: how many words sums and products have. -/
import Derived.Test.YtbffpkmfhkphdaaGreatDoorGX00
set_option linter.unusedVariables false
set_option linter.unusedSimpArgs false
namespace Go.Proofs.YtbffpkmfhkphdaaGreatDoor.Limb
theorem len_add {x y m : Nat} (hx : (rep x).length ≤ m) (hy : (rep y).length ≤ m) : (rep (x + y)).length ≤ m + 1 := by
  rw [rep_length_le] at *
  rw [W_succ]; omega
theorem len_mul {x y m n : Nat} (hx : (rep x).length ≤ m) (hy : (rep y).length ≤ n) : (rep (x * y)).length ≤ m + n := by
  rw [rep_length_le] at *
  rw [W_add]
  exact Nat.mul_lt_mul'' hx hy
theorem len_of_le {x y m : Nat} (h : x ≤ y) (hy : (rep y).length ≤ m) : (rep x).length ≤ m := Nat.le_trans (rep_mono h) hy
theorem len_addI {x y : Int} {m : Nat} (hx : (rep x.natAbs).length ≤ m) (hy : (rep y.natAbs).length ≤ m) : (rep (x + y).natAbs).length ≤ m + 1 := len_of_le (by omega) (len_add hx hy)
theorem len_subI {x y : Int} {m : Nat} (hx : (rep x.natAbs).length ≤ m) (hy : (rep y.natAbs).length ≤ m) : (rep (x - y).natAbs).length ≤ m + 1 := len_of_le (by omega) (len_add hx hy)
theorem len_mulI {x y : Int} {m n : Nat} (hx : (rep x.natAbs).length ≤ m) (hy : (rep y.natAbs).length ≤ n) : (rep (x * y).natAbs).length ≤ m + n := by
  rw [Int.natAbs_mul]; exact len_mul hx hy
end Go.Proofs.YtbffpkmfhkphdaaGreatDoor.Limb
