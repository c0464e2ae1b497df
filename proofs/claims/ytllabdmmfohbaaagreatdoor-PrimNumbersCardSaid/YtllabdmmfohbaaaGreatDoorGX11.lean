/- Moves in a region that draws its order; new variables. PrimNumbers: the plain law: quotients, remainders, shifts of small integers. -/
import Derived.Test.YtllabdmmfohbaaaGreatDoorGX01
import Derived.Test.YtllabdmmfohbaaaGreatDoorGX10
import Derived.Test.YtllabdmmfohbaaaGreatDoorGX09
import Derived.Test.YtllabdmmfohbaaaGreatDoorGX08
import Derived.Test.YtllabdmmfohbaaaGreatDoorGX04
set_option linter.unusedVariables false
set_option linter.unusedSimpArgs false
namespace Go.Proofs.YtllabdmmfohbaaaGreatDoor
open Go Go.RowKit Limb
theorem wpOp_plain {P : Program} {ops : Array Oper} {Q : Exit → Act → World → Prop} {i : Nat} {o : Oper} {K : Act → World → Prop} {a : Act} {w : World} (hi : ops[i]? = some o) (hg : o.guard = none) (h : o.wp P a w K Q) : wpOp P ops Q i K a w := by
  unfold wpOp; rw [hi]; simp only [Region.wanted, hg, if_true]; exact .inl h
section
variable {P : Program} {md : Region.Mode} {ops : Array Oper} {Q : Exit → Act → World → Prop} {S : World → Prop}
end
end Go.Proofs.YtllabdmmfohbaaaGreatDoor
namespace Go.Proofs.YtllabdmmfohbaaaGreatDoor
open Go Go.RowKit Limb
def Sm (x : Int) : Prop := -1073741824 ≤ x ∧ x ≤ 1073741823
theorem Sm.mul {x y : Int} (hx : Sm x) (hy : Sm y) : -1152921504606846976 ≤ x * y ∧ x * y ≤ 1152921504606846976 := by
  obtain ⟨a, b⟩ := hx
  obtain ⟨c, d⟩ := hy
  have h1 : x.natAbs ≤ 1073741824 := by omega
  have h2 : y.natAbs ≤ 1073741824 := by omega
  have h3 : (x * y).natAbs ≤ 1073741824 * 1073741824 := by rw [Int.natAbs_mul]; exact Nat.mul_le_mul h1 h2
  omega
theorem isSm_iff {x : Int} : isSm x = true ↔ Sm x := by unfold isSm Sm; simp
def floorQ (x y : Int) : Int := if x.tmod y ≠ 0 ∧ ¬ (x < 0 ↔ y < 0) then x.tdiv y - 1 else x.tdiv y
theorem tdiv_small {x y : Int} (hx : Sm x) : -1073741824 ≤ x.tdiv y ∧ x.tdiv y ≤ 1073741824 := by
  obtain ⟨a, b⟩ := hx
  have h1 : (x.tdiv y).natAbs ≤ x.natAbs := by rw [Int.natAbs_tdiv]; exact Nat.div_le_self _ _
  omega
theorem tmod_small {x y : Int} (hx : Sm x) : -1073741824 ≤ x.tmod y ∧ x.tmod y ≤ 1073741824 := by
  obtain ⟨a, b⟩ := hx
  have h1 : (x.tmod y).natAbs ≤ x.natAbs := by rw [Int.natAbs_tmod]; exact Nat.mod_le _ _
  omega
theorem floor_small {x y : Int} (hx : Sm x) : -1073741825 ≤ floorQ x y ∧ floorQ x y ≤ 1073741824 := by
  have := tdiv_small (y := y) hx
  unfold floorQ
  split <;> omega
theorem floor_mul {x y : Int} (hx : Sm x) (hy : Sm y) : -1152921506000000000 ≤ floorQ x y * y ∧ floorQ x y * y ≤ 1152921506000000000 := by
  have h0 := floor_small (y := y) hx
  obtain ⟨c, d⟩ := hy
  have h1 : (floorQ x y).natAbs ≤ 1073741825 := by omega
  have h2 : y.natAbs ≤ 1073741824 := by omega
  have h3 : (floorQ x y * y).natAbs ≤ 1073741825 * 1073741824 := by rw [Int.natAbs_mul]; exact Nat.mul_le_mul h1 h2
  omega
theorem quot_law {a b : Int} (ha : Sm a) (hb : Sm b) (h0 : b ≠ 0) :
    a.tdiv b * b + a.tmod b = a ∧ Sm (a.tmod b) ∧ (a.tmod b ≠ 0 → (a.tmod b < 0 ↔ a < 0)) ∧ (Sm (a.tdiv b) ∨ (a = -1073741824 ∧ b = -1)) ∧ (a.tmod b).natAbs < b.natAbs := by
  have e : a.tdiv b * b + a.tmod b = a := by rw [Int.mul_comm]; exact Int.mul_tdiv_add_tmod a b
  have h1 : (a.tmod b).natAbs < b.natAbs := by rw [Int.natAbs_tmod]; exact Nat.mod_lt _ (by omega)
  have h2 : 0 ≤ a → 0 ≤ a.tmod b := fun h => Int.tmod_nonneg b h
  have h3 : a ≤ 0 → a.tmod b ≤ 0 := fun h => by
    have := Int.tmod_nonneg b (show 0 ≤ -a by omega)
    rw [Int.neg_tmod] at this
    omega
  have hs := tdiv_small (y := b) ha
  obtain ⟨a1, a2⟩ := ha
  obtain ⟨b1, b2⟩ := hb
  refine ⟨e, ⟨by omega, by omega⟩, fun hne => ⟨fun h => by omega, fun h => by omega⟩, ?_, h1⟩
  by_cases hq : a.tdiv b = 1073741824
  · right
    have hq2 : (a.tdiv b).natAbs = 1073741824 := by omega
    rw [Int.natAbs_tdiv] at hq2
    replace hq2 : a.natAbs / b.natAbs = 1073741824 := hq2
    have h4 : a.natAbs = 1073741824 := by
      have := Nat.div_le_self a.natAbs b.natAbs
      rw [hq2] at this
      omega
    have h5 : b.natAbs = 1 := by
      rw [h4] at hq2
      have h6 : b.natAbs ≠ 0 := by omega
      have h7 : ¬ 2 ≤ b.natAbs := fun h => by
        have := Nat.div_le_div_left h (show 0 < 2 by decide) (a := 1073741824)
        rw [hq2] at this
        exact absurd this (by decide)
      omega
    have h8 : a = -1073741824 := by omega
    subst h8
    refine ⟨rfl, ?_⟩
    have h9 : b = 1 ∨ b = -1 := by omega
    rcases h9 with rfl | rfl
    · exact absurd hq (by decide)
    · rfl
  · left; exact ⟨by omega, by omega⟩
theorem floor_law {a b : Int} (ha : Sm a) (hb : Sm b) (h0 : b ≠ 0) :
    Sm (a - floorQ a b * b) ∧ (a - floorQ a b * b ≠ 0 → (a - floorQ a b * b < 0 ↔ b < 0)) ∧ (0 < b → a - floorQ a b * b < b) ∧ (b < 0 → b < a - floorQ a b * b) ∧ (Sm (floorQ a b) ∨ (a = -1073741824 ∧ b = -1)) := by
  obtain ⟨e, h1, h2, h3, h4⟩ := quot_law ha hb h0
  have hs := tdiv_small (y := b) ha
  have key : a - floorQ a b * b = if a.tmod b ≠ 0 ∧ ¬ (a < 0 ↔ b < 0) then a.tmod b + b else a.tmod b := by
    unfold floorQ
    split
    · rw [Int.sub_mul]; omega
    · omega
  have hq : Sm (floorQ a b) ∨ (a = -1073741824 ∧ b = -1) := by
    rcases h3 with h3 | h3
    · unfold floorQ
      split
      · rename_i hc
        left
        by_cases hl : a.tdiv b = -1073741824
        · exfalso
          have e2 := e
          rw [hl] at e2
          obtain ⟨a1, a2⟩ := ha
          obtain ⟨b1, b2⟩ := hb
          obtain ⟨m1, m2⟩ := h1
          have hb1 : b = 1 ∨ b = -1 ∨ 2 ≤ b ∨ b ≤ -2 := by omega
          rcases hb1 with rfl | rfl | h | h
          · exact hc.1 (by omega)
          · exact hc.1 (by omega)
          · omega
          · omega
        · obtain ⟨s1, s2⟩ := h3
          exact ⟨by omega, by omega⟩
      · exact .inl h3
    · exact .inr h3
  rw [key]
  obtain ⟨a1, a2⟩ := ha
  obtain ⟨b1, b2⟩ := hb
  obtain ⟨m1, m2⟩ := h1
  refine ⟨?_, ?_, ?_, ?_, hq⟩
  · unfold Sm
    split <;> omega
  · split <;> omega
  · intro h; split <;> omega
  · intro h; split <;> omega
def shiftQ (x y : Int) : Option Int := if x = 0 then some 0 else if 31 < y then none else if 0 ≤ y then some (x * 2 ^ y.toNat) else some (x / 2 ^ (min (-y) 60).toNat)
def resV (o : Option Int) : Option Int := o.bind fun z => if isSm z = true then some z else none
theorem resV_some {z : Int} (h : Sm z) : resV (some z) = some z := by unfold resV; simp [isSm_iff.2 h]
theorem resV_inv {o : Option Int} {u : Int} (h : resV o = some u) : o = some u ∧ Sm u := by
  unfold resV at h
  cases o with
  | none => cases h
  | some z =>
    simp only [Option.bind_some] at h
    split at h
    · rename_i hs; obtain rfl := Option.some.inj h; exact ⟨rfl, isSm_iff.1 hs⟩
    · cases h
theorem shift_zero (y : Int) : shiftQ 0 y = some 0 := by unfold shiftQ; rw [if_pos rfl]
theorem pow_pos2 (n : Nat) : (0 : Int) < 2 ^ n := Int.pow_pos (by decide)
theorem div_pow_le {a : Int} (n : Nat) (h : 0 ≤ a) : 0 ≤ a / 2 ^ n ∧ a / 2 ^ n ≤ a :=
  ⟨Int.ediv_nonneg h (Int.le_of_lt (pow_pos2 n)), Int.ediv_le_self _ h⟩
theorem div_pow_ge {a : Int} (n : Nat) (h : a < 0) : a ≤ a / 2 ^ n ∧ a / 2 ^ n < 0 :=
  ⟨by
    rw [Int.le_ediv_iff_mul_le (pow_pos2 n)]
    have h1 : (1 : Int) ≤ 2 ^ n := pow_pos2 n
    have := Int.mul_le_mul_of_nonpos_left (a := a) (show a ≤ 0 by omega) h1
    omega, Int.ediv_neg_of_neg_of_pos h (pow_pos2 n)⟩
theorem div_pow_sm {a : Int} (n : Nat) (h : Sm a) : Sm (a / 2 ^ n) := by
  obtain ⟨a1, a2⟩ := h
  by_cases h0 : 0 ≤ a
  · have := div_pow_le n h0; exact ⟨by omega, by omega⟩
  · have := div_pow_ge n (show a < 0 by omega); exact ⟨by omega, by omega⟩
theorem shift_down {a n : Int} (hn : 0 ≤ n) (h39 : n ≤ 39) : shiftQ a (-n) = some (a / 2 ^ n.toNat) := by
  unfold shiftQ
  by_cases h0 : a = 0
  · rw [if_pos h0, h0]; simp
  · rw [if_neg h0, if_neg (by omega)]
    by_cases h1 : n = 0
    · subst h1; simp
    · rw [if_neg (by omega), show min (- -n) 60 = n by omega]
theorem shift_down_law {a n : Int} (ha : Sm a) (hn : 0 ≤ n) (h39 : n ≤ 39) :
    ∃ d, resV (shiftQ a (-n)) = some d ∧ Sm d ∧ (0 ≤ a → d ≤ a) ∧ (a < 0 → a ≤ d) ∧ (n = 0 → d = a) ∧ (0 < n → ∃ o, resV (shiftQ a (-1)) = some o ∧ Sm o ∧ resV (shiftQ o (1 - n)) = some d) := by
  have hd := div_pow_sm n.toNat ha
  refine ⟨a / 2 ^ n.toNat, by rw [shift_down hn h39, resV_some hd], hd, fun h => (div_pow_le _ h).2, fun h => (div_pow_ge _ h).1, fun h => by subst h; simp, fun h => ?_⟩
  have ho := div_pow_sm 1 ha
  refine ⟨a / 2 ^ 1, by rw [show (-1 : Int) = -(1 : Int) from rfl, shift_down (by decide) (by decide)]; exact resV_some ho, ho, ?_⟩
  have e : a / 2 ^ 1 / 2 ^ (n - 1).toNat = a / 2 ^ n.toNat := by
    rw [Int.ediv_ediv_of_nonneg (Int.le_of_lt (pow_pos2 1)), ← Int.pow_add, show 1 + (n - 1).toNat = n.toNat by omega]
  rw [show 1 - n = -(n - 1) by omega, shift_down (by omega) (by omega), e]
  exact resV_some hd
theorem shift_up_law {a n : Int} (ha : Sm a) (hn : 0 ≤ n) (h39 : n ≤ 39) :
    (∃ u, resV (shiftQ a n) = some u ∧ Sm u ∧ resV (shiftQ u (-n)) = some a) ∨ (resV (shiftQ a n) = none ∧ a ≠ 0 ∧ n ≠ 0) := by
  by_cases h0 : a = 0
  · subst h0
    exact .inl ⟨0, by rw [shift_zero]; exact resV_some ha, ha, by rw [shift_zero]; exact resV_some ha⟩
  · by_cases h1 : n = 0
    · subst h1
      have e : shiftQ a 0 = some a := by unfold shiftQ; rw [if_neg h0]; simp
      exact .inl ⟨a, by rw [e]; exact resV_some ha, ha, by rw [Int.neg_zero, e]; exact resV_some ha⟩
    · cases h : resV (shiftQ a n) with
      | none => exact .inr ⟨rfl, h0, h1⟩
      | some u =>
        obtain ⟨e, hu⟩ := resV_inv h
        refine .inl ⟨u, rfl, hu, ?_⟩
        unfold shiftQ at e
        rw [if_neg h0] at e
        split at e
        · cases e
        · try rw [if_pos hn] at e
          obtain rfl := Option.some.inj e
          rw [shift_down hn h39, Int.mul_ediv_cancel _ (by have := pow_pos2 n.toNat; omega)]
          exact resV_some ha
def opN (n : Nat) (x y : Int) : Option Int :=
  match n with
  | 1 => some (x + y)
  | 2 => some (x - y)
  | 3 => some (x * y)
  | 4 => if y = 0 then none else some (floorQ x y)
  | 5 => if y = 0 then none else some (x - floorQ x y * y)
  | 6 => if y = 0 then none else some (x.tdiv y)
  | 7 => if y = 0 then none else some (x.tmod y)
  | 14 => some (bits .and .i64 x y)
  | 15 => some (bits .or .i64 x y)
  | 16 => some (bits .xor .i64 x y)
  | _ => shiftQ x y
def cmpN (n : Nat) (x y : Int) : Bool :=
  match n with
  | 8 => decide (x < y)
  | 9 => decide (y < x)
  | 10 => decide (x ≤ y)
  | 11 => decide (y ≤ x)
  | 12 => x == y
  | _ => x != y
end Go.Proofs.YtllabdmmfohbaaaGreatDoor
