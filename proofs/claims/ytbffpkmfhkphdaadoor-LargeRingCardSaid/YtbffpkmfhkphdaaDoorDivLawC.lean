/- Plain arithmetic: the quotients and remainders, by truncation and by the floor. -/
import Derived.Test.YtbffpkmfhkphdaaDoorAtC
namespace Go.Proofs.YtbffpkmfhkphdaaDoor
open Limb

/-- The quotient and the remainder: by the floor, or truncated. -/
def dquo (floor : Bool) (x y : Int) : Int := if floor = true then x.fdiv y else x.tdiv y
def drem (floor : Bool) (x y : Int) : Int := if floor = true then x.fmod y else x.tmod y

theorem sgnI_eq {a b : Int} : (sgnI a = sgnI b) ↔ ((a < 0 ↔ b < 0) ∧ (a = 0 ↔ b = 0)) := by
  unfold sgnI
  constructor
  · intro h; split at h <;> split at h <;> (try split at h) <;> (try split at h) <;> omega
  · rintro ⟨h1, h2⟩
    by_cases ha : a < 0
    · rw [if_pos ha, if_pos (h1.mp ha)]
    · rw [if_neg ha, if_neg (fun h => ha (h1.mpr h))]
      by_cases h0 : a = 0
      · rw [if_pos h0, if_pos (h2.mp h0)]
      · rw [if_neg h0, if_neg (fun h => h0 (h2.mpr h))]
theorem sgnI_zero {a : Int} : sgnI a = 0 ↔ a = 0 := by
  unfold sgnI; split <;> (try split) <;> omega

theorem tmod_bound (x : Int) {y : Int} (hy : y ≠ 0) : (x.tmod y).natAbs < y.natAbs := by
  rw [tmod_abs]; exact Nat.mod_lt _ (by omega)

theorem floor_fix {x y : Int} (hy : y ≠ 0) : (sgnI (x.tmod y) ≠ 0 → sgnI (x.tmod y) ≠ sgnI y → x.fdiv y = x.tdiv y - 1 ∧ x.fmod y = x.tmod y + y) ∧
    ((sgnI (x.tmod y) = 0 ∨ sgnI (x.tmod y) = sgnI y) → x.fdiv y = x.tdiv y ∧ x.fmod y = x.tmod y) := by
  have e := Int.mul_tdiv_add_tmod x y
  have hb := tmod_bound x hy
  generalize x.tdiv y = q at e hb ⊢
  generalize x.tmod y = r at e hb ⊢
  have e2 : y * (q - 1) = y * q - y := by rw [Int.mul_sub, Int.mul_one]
  rw [Ne, Ne, sgnI_zero, sgnI_eq]
  constructor
  · intro h1 h2
    by_cases hp : 0 < y
    · exact (Int.fdiv_fmod_unique hp).mpr ⟨by omega, by omega, by omega⟩
    · exact (Int.fdiv_fmod_unique' (by omega)).mpr ⟨by omega, by omega, by omega⟩
  · intro h
    by_cases hp : 0 < y
    · exact (Int.fdiv_fmod_unique hp).mpr ⟨by omega, by omega, by omega⟩
    · exact (Int.fdiv_fmod_unique' (by omega)).mpr ⟨by omega, by omega, by omega⟩

theorem dquo_abs (f : Bool) (x : Int) {y : Int} (hy : y ≠ 0) : (dquo f x y).natAbs ≤ x.natAbs := by
  have e := Int.mul_tdiv_add_tmod x y
  have ha : (x.tdiv y).natAbs = x.natAbs / y.natAbs := tdiv_abs x y
  have hle : x.natAbs / y.natAbs ≤ x.natAbs := Nat.div_le_self _ _
  unfold dquo
  cases f
  · rw [if_neg (by decide)]; omega
  · rw [if_pos rfl]
    by_cases h : sgnI (x.tmod y) = 0 ∨ sgnI (x.tmod y) = sgnI y
    · rw [((floor_fix hy).2 h).1]; omega
    · simp only [not_or] at h
      rw [((floor_fix hy).1 h.1 h.2).1]
      have h0 : x.tmod y ≠ 0 := fun e => h.1 (sgnI_zero.mpr e)
      have hb := tmod_bound x hy
      have hy2 : 2 ≤ y.natAbs := by omega
      have hx : x ≠ 0 := by rintro rfl; simp at h0
      have hd : 2 * (x.natAbs / y.natAbs) ≤ x.natAbs := by
        have := Nat.div_mul_le_self x.natAbs y.natAbs
        have h3 : x.natAbs / y.natAbs * 2 ≤ x.natAbs / y.natAbs * y.natAbs := Nat.mul_le_mul_left _ hy2
        omega
      omega
theorem drem_abs (f : Bool) (x : Int) {y : Int} (hy : y ≠ 0) : (drem f x y).natAbs < y.natAbs := by
  have hb := tmod_bound x hy
  unfold drem
  cases f
  · rw [if_neg (by decide)]; exact hb
  · rw [if_pos rfl]
    by_cases hp : 0 < y
    · have h1 := Int.fmod_nonneg_of_pos x hp
      have h2 := Int.fmod_lt_of_pos x hp
      omega
    · have e := (Int.fdiv_fmod_unique' (a := x) (b := y) (r := x.fmod y) (q := x.fdiv y) (by omega)).mp ⟨rfl, rfl⟩
      omega
end Go.Proofs.YtbffpkmfhkphdaaDoor
