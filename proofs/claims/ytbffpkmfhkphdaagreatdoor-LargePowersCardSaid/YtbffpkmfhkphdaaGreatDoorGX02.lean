/- Plain arithmetic of one step of a long division (Knuth's D3 to D6), by numbers. Plain arithmetic of shifts. Plain arithmetic: how many words sums and products have. -/
import Derived.Test.YtbffpkmfhkphdaaGreatDoorGX00
set_option linter.unusedVariables false
set_option linter.unusedSimpArgs false
namespace Go.Proofs.YtbffpkmfhkphdaaGreatDoor.Limb

/-- What the guess keeps: q = U / V is at most the guess. T: the two highest words of U, v1: the highest of V. -/
theorem guess_ge {U V T v1 R : Nat} (hR : 0 < R) (hU : U < (T + 1) * R) (hV : v1 * R ≤ V) (hv : 0 < v1) : U / V ≤ T / v1 := by
  have hVp : 0 < V := Nat.lt_of_lt_of_le (Nat.mul_pos hv hR) hV
  rw [Nat.le_div_iff_mul_le hv]
  have h1 : U / V * V ≤ U := Nat.div_mul_le_self _ _
  have h2 : U / V * v1 * R ≤ U := by
    rw [Nat.mul_assoc]; exact Nat.le_trans (Nat.mul_le_mul_left _ hV) h1
  have h3 : U / V * v1 * R < (T + 1) * R := Nat.lt_of_le_of_lt h2 hU
  have := Nat.lt_of_mul_lt_mul_right h3
  omega

/-- The test on the third word: a guess that fails it is too great. -/
theorem guess_high {U V q g v1 v2 r T u2 R : Nat} (hU : U < (T * 4294967296 + u2 + 1) * R) (hV : (v1 * 4294967296 + v2) * R ≤ V)
    (hT : g * v1 + r = T) (ht : r * 4294967296 + u2 < g * v2) (hq : q = U / V) : q < g := by
  rcases Nat.lt_or_ge q g with h | h
  · exact h
  · exfalso
    have h1 : g * V ≤ U := Nat.le_trans (Nat.mul_le_mul_right V h) (by rw [hq]; exact Nat.div_mul_le_self _ _)
    have h2 : g * (v1 * 4294967296 + v2) * R ≤ U := by rw [Nat.mul_assoc]; exact Nat.le_trans (Nat.mul_le_mul_left _ hV) h1
    have h3 := Nat.lt_of_mul_lt_mul_right (Nat.lt_of_le_of_lt h2 hU)
    rw [Nat.mul_add, ← Nat.mul_assoc] at h3
    have : g * v1 * 4294967296 + r * 4294967296 = T * 4294967296 := by rw [← Nat.add_mul, hT]
    omega

/-- A guess that passes the test is at most one too great. -/
theorem guess_near {U V g v1 v2 r T u2 R : Nat} (hU : (T * 4294967296 + u2) * R ≤ U) (hVl : (v1 * 4294967296 + v2) * R ≤ V) (hV : V < (v1 * 4294967296 + v2 + 1) * R)
    (hT : g * v1 + r = T) (ht : g * v2 ≤ r * 4294967296 + u2) (hg : g < 4294967296) (hv : 2147483648 ≤ v1) (hR : 0 < R) : g ≤ U / V + 1 := by
  have hVp : 0 < V := Nat.lt_of_lt_of_le (Nat.mul_pos (by omega) hR) hVl
  have h1 : g * (v1 * 4294967296 + v2) ≤ T * 4294967296 + u2 := by
    rw [Nat.mul_add, ← Nat.mul_assoc]
    have : g * v1 * 4294967296 + r * 4294967296 = T * 4294967296 := by rw [← Nat.add_mul, hT]
    omega
  have h2 : g * ((v1 * 4294967296 + v2) * R) ≤ U := by
    rw [← Nat.mul_assoc]; exact Nat.le_trans (Nat.mul_le_mul_right R h1) hU
  have h3 : g * V ≤ U + g * R := by
    have : g * V ≤ g * ((v1 * 4294967296 + v2 + 1) * R) := Nat.mul_le_mul_left g (Nat.le_of_lt hV)
    have e : g * ((v1 * 4294967296 + v2 + 1) * R) = g * ((v1 * 4294967296 + v2) * R) + g * R := by
      rw [Nat.add_mul _ 1 R, Nat.mul_add, Nat.one_mul]
    omega
  have h4 : g * R ≤ V := by
    refine Nat.le_trans (Nat.mul_le_mul_right R ?_) hVl
    have : 2147483648 * 4294967296 ≤ v1 * 4294967296 := Nat.mul_le_mul_right _ hv
    omega
  cases g with
  | zero => exact Nat.zero_le _
  | succ g =>
    rw [Nat.add_le_add_iff_right, Nat.le_div_iff_mul_le hVp]
    have : (g + 1) * V = g * V + V := by rw [Nat.add_mul, Nat.one_mul]
    omega

/-- The highest word of U is at most the divisor's. -/
theorem top_le {U V u0 lo v1 R : Nat} (hU : u0 * (4294967296 * R) + lo = U) (hlt : U < V * 4294967296) (hV : V < (v1 + 1) * R) : u0 ≤ v1 := by
  have h1 : u0 * (4294967296 * R) ≤ U := by omega
  have h2 : U < (v1 + 1) * R * 4294967296 := Nat.lt_of_lt_of_le hlt (Nat.mul_le_mul_right _ (Nat.le_of_lt hV))
  have h3 : u0 * (4294967296 * R) < (v1 + 1) * (4294967296 * R) := by
    have : (v1 + 1) * R * 4294967296 = (v1 + 1) * (4294967296 * R) := by rw [Nat.mul_assoc, Nat.mul_comm R]
    omega
  have := Nat.lt_of_mul_lt_mul_right h3
  omega

/-- The guess that leaves a rest of a word or more is below a word. -/
theorem guess_small {g v1 r T u0 u1 : Nat} (hT : g * v1 + r = T) (hTd : T = u0 * 4294967296 + u1) (hu : u0 ≤ v1) (h1 : u1 < 4294967296) (hr : 4294967296 ≤ r) : g < 4294967296 := by
  rcases Nat.lt_or_ge g 4294967296 with h | h
  · exact h
  · exfalso
    have h2 : 4294967296 * v1 ≤ g * v1 := Nat.mul_le_mul_right _ h
    have h3 : u0 * 4294967296 ≤ v1 * 4294967296 := Nat.mul_le_mul_right _ hu
    omega

end Go.Proofs.YtbffpkmfhkphdaaGreatDoor.Limb

namespace Go.Proofs.YtbffpkmfhkphdaaGreatDoor.Limb
theorem W_div_mod (V k : Nat) : V % W (k + 1) = V % W k + W k * (V / W k % 4294967296) := by
  rw [W_succ, Nat.mul_comm, Nat.mod_mul]
theorem pow_split (s : Nat) : 2 ^ s = 2 ^ (s % 32) * W (s / 32) := by
  rw [W_two, ← Nat.pow_add, show s % 32 + 32 * (s / 32) = s from by omega]
/-- The words of a number, as many as are asked, all that lies beyond lost. -/
theorem shr_low (Y r : Nat) (hr : r ≤ 32) : Y / 2 ^ r % 4294967296 = Y % 18446744073709551616 / 2 ^ r % 4294967296 := by
  have e : 18446744073709551616 = 2 ^ r * (2 ^ (32 - r) * 4294967296) := by
    rw [← Nat.mul_assoc, ← Nat.pow_add, show r + (32 - r) = 32 from by omega]
  rw [e, Nat.mod_mul_right_div_self, Nat.mod_mul_left_mod]
theorem two_words {l : List Nat} (h : Lim l) (j : Nat) : wd l j + wd l (j + 1) * 4294967296 = val l / W j % 18446744073709551616 := by
  rw [wd_val h, wd_val h, W_succ, Nat.mul_comm 4294967296 (W j), ← Nat.div_div_eq_div_mul]
  generalize val l / W j = Y
  omega
theorem shr_word {l : List Nat} (h : Lim l) (d r i : Nat) (hr : r ≤ 32) :
    (wd l (d + i) + wd l (d + i + 1) * 4294967296) / 2 ^ r % 4294967296 = val l / (2 ^ r * W d) / W i % 4294967296 := by
  rw [two_words h, ← shr_low _ _ hr, Nat.div_div_eq_div_mul, Nat.div_div_eq_div_mul, W_add, Nat.mul_comm (W d * W i), Nat.mul_assoc]
end Go.Proofs.YtbffpkmfhkphdaaGreatDoor.Limb

namespace Go.Proofs.YtbffpkmfhkphdaaGreatDoor.Limb
theorem len_add {x y m : Nat} (hx : (rep x).length ≤ m) (hy : (rep y).length ≤ m) : (rep (x + y)).length ≤ m + 1 := by
  rw [rep_length_le] at *
  rw [W_succ]; omega
theorem len_mul {x y m n : Nat} (hx : (rep x).length ≤ m) (hy : (rep y).length ≤ n) : (rep (x * y)).length ≤ m + n := by
  rw [rep_length_le] at *
  rw [W_add]
  exact Nat.mul_lt_mul'' hx hy
theorem len_of_le {x y m : Nat} (h : x ≤ y) (hy : (rep y).length ≤ m) : (rep x).length ≤ m := Nat.le_trans (rep_mono h) hy
theorem len_addI {x y : Int} {m : Nat} (hx : (rep x.natAbs).length ≤ m) (hy : (rep y.natAbs).length ≤ m) : (rep (x + y).natAbs).length ≤ m + 1 := len_of_le (by omega) (len_add hx hy)
theorem len_subI {x y : Int} {m : Nat} (hx : (rep x.natAbs).length ≤ m) (hy : (rep y.natAbs).length ≤ m) : (rep (x - y).natAbs).length ≤ m + 1 := len_of_le (by omega) (len_add hx hy)
theorem len_mulI {x y : Int} {m n : Nat} (hx : (rep x.natAbs).length ≤ m) (hy : (rep y.natAbs).length ≤ n) : (rep (x * y).natAbs).length ≤ m + n := by
  rw [Int.natAbs_mul]; exact len_mul hx hy
end Go.Proofs.YtbffpkmfhkphdaaGreatDoor.Limb
