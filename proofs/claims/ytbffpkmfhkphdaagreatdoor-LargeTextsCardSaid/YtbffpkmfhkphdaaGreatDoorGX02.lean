/- Plain arithmetic of shifts. Plain arithmetic: how many words sums and products have. -/
import Derived.Test.YtbffpkmfhkphdaaGreatDoorGX00
set_option linter.unusedVariables false
set_option linter.unusedSimpArgs false
namespace Go.Proofs.YtbffpkmfhkphdaaGreatDoor.Limb
theorem W_div_mod (V k : Nat) : V % W (k + 1) = V % W k + W k * (V / W k % 4294967296) := by
  rw [W_succ, Nat.mul_comm, Nat.mod_mul]
theorem pow_split (s : Nat) : 2 ^ s = 2 ^ (s % 32) * W (s / 32) := by
  rw [W_two, ← Nat.pow_add, show s % 32 + 32 * (s / 32) = s from by omega]
/-- The words of a number, as many as are asked, all that lies beyond lost. -/
theorem shr_low (Y r : Nat) (hr : r ≤ 32) : Y / 2 ^ r % 4294967296 = Y % 18446744073709551616 / 2 ^ r % 4294967296 := by
  have e : 18446744073709551616 = 2 ^ r * (2 ^ (32 - r) * 4294967296) := by
    rw [← Nat.mul_assoc, ← Nat.pow_add, show r + (32 - r) = 32 from by omega]
  rw [e, Nat.mod_mul_right_div_self, Nat.mod_mul_left_mod]
theorem two_words {l : List Nat} (h : Lim l) (j : Nat) : wd l j + wd l (j + 1) * 4294967296 = val l / W j % 18446744073709551616 := by
  rw [wd_val h, wd_val h, W_succ, Nat.mul_comm 4294967296 (W j), ← Nat.div_div_eq_div_mul]
  generalize val l / W j = Y
  omega
theorem shr_word {l : List Nat} (h : Lim l) (d r i : Nat) (hr : r ≤ 32) :
    (wd l (d + i) + wd l (d + i + 1) * 4294967296) / 2 ^ r % 4294967296 = val l / (2 ^ r * W d) / W i % 4294967296 := by
  rw [two_words h, ← shr_low _ _ hr, Nat.div_div_eq_div_mul, Nat.div_div_eq_div_mul, W_add, Nat.mul_comm (W d * W i), Nat.mul_assoc]
end Go.Proofs.YtbffpkmfhkphdaaGreatDoor.Limb

namespace Go.Proofs.YtbffpkmfhkphdaaGreatDoor.Limb
theorem len_add {x y m : Nat} (hx : (rep x).length ≤ m) (hy : (rep y).length ≤ m) : (rep (x + y)).length ≤ m + 1 := by
  rw [rep_length_le] at *
  rw [W_succ]; omega
theorem len_mul {x y m n : Nat} (hx : (rep x).length ≤ m) (hy : (rep y).length ≤ n) : (rep (x * y)).length ≤ m + n := by
  rw [rep_length_le] at *
  rw [W_add]
  exact Nat.mul_lt_mul'' hx hy
theorem len_of_le {x y m : Nat} (h : x ≤ y) (hy : (rep y).length ≤ m) : (rep x).length ≤ m := Nat.le_trans (rep_mono h) hy
theorem len_addI {x y : Int} {m : Nat} (hx : (rep x.natAbs).length ≤ m) (hy : (rep y.natAbs).length ≤ m) : (rep (x + y).natAbs).length ≤ m + 1 := len_of_le (by omega) (len_add hx hy)
theorem len_subI {x y : Int} {m : Nat} (hx : (rep x.natAbs).length ≤ m) (hy : (rep y.natAbs).length ≤ m) : (rep (x - y).natAbs).length ≤ m + 1 := len_of_le (by omega) (len_add hx hy)
theorem len_mulI {x y : Int} {m n : Nat} (hx : (rep x.natAbs).length ≤ m) (hy : (rep y.natAbs).length ≤ n) : (rep (x * y).natAbs).length ≤ m + n := by
  rw [Int.natAbs_mul]; exact len_mul hx hy
end Go.Proofs.YtbffpkmfhkphdaaGreatDoor.Limb
