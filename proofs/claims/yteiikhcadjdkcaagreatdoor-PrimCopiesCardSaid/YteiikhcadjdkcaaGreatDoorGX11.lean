/- The kernel's boot over 16384 words, evaluated, and what is asked of the class String there. Moves in a region that draws its order; new variables. PrimNumbers: the plain law: quotients, remainders, shifts of small integers. -/
import Derived.Test.YteiikhcadjdkcaaGreatDoorGX10
import Derived.Test.YteiikhcadjdkcaaGreatDoorGX08
import Derived.Test.YteiikhcadjdkcaaGreatDoorGX01
import Derived.Test.YteiikhcadjdkcaaGreatDoorGX09
import Derived.Test.YteiikhcadjdkcaaGreatDoorGX04
set_option linter.unusedVariables false
set_option linter.unusedSimpArgs false
namespace Go.Proofs.YteiikhcadjdkcaaGreatDoor.Limb
def tells (n : Nat) (p : Pk) : Bool :=
  let o := rd p.R 19
  decide (p.size = n) && decide (p.n = 1163) && decide (p.last = 154) && qF p o 1 6 && decide (rd p.V (o / 2 + 3 + 4) = 131077) && decide (rd p.R 18 ≠ o) && decide (rd p.R 17 ≠ o) && decide (rd p.R 12 ≠ o) &&
    qO p (qhd p (o / 2)).cls && decide ((qhd p (o / 2)).cls ≠ rd p.R 12) && ([0, 1, 2, 3, 4].all fun j => qO p (rd p.R (wd [12, 18, 19, 20, 23] j)))
structure SC (h : Hp) : Prop where
  good : Good h
  cls : isF h (wd h.rt 19) 1 6 = true
  fmt : getF h (wd h.rt 19) 4 = 131077
  d18 : wd h.rt 18 ≠ wd h.rt 19
  d17 : wd h.rt 17 ≠ wd h.rt 19
  d12 : wd h.rt 12 ≠ wd h.rt 19
  mo : isO h (hdO h (wd h.rt 19)).cls = true
  mn : (hdO h (wd h.rt 19)).cls ≠ wd h.rt 12
  live : ∀ j, j < 5 → isO h (wd h.rt (wd [12, 18, 19, 20, 23] j)) = true
theorem SC.ext {h h' : Hp} (s : SC h) (x : Ext h h') : SC h' := by
  have ho := isF_isO s.cls
  have e := x.hdO s.good ho
  refine ⟨x.good, ?_, ?_, ?_, ?_, ?_, ?_, ?_, fun j hj => ?_⟩ <;> rw [x.rt]
  · exact x.isF s.good s.cls
  · rw [x.getF s.good (isF_le s.cls (by decide))]; exact s.fmt
  · exact s.d18
  · exact s.d17
  · exact s.d12
  · rw [e]; exact x.isO s.good s.mo
  · rw [e]; exact s.mn
  · exact x.isO s.good (s.live j hj)
structure Str (n : Nat) (h : Hp) : Prop where
  sc : SC h
  size : h.size = n
  len : h.ws.length = 1163
  last : h.last = 154
theorem str_of {n : Nat} (h1 : 64 ≤ n) (h2 : n ≤ 1048576) (ht : (qboot n).map (tells n) = some true) : ∃ h, bootP n = some h ∧ Str n h := by
  obtain ⟨p, hp, hq⟩ := Option.map_eq_some_iff.1 ht
  obtain ⟨h, e1, rfl, k⟩ := up_boot h1 h2 p hp
  unfold tells at hq
  simp only [Bool.and_eq_true, decide_eq_true_eq, List.all_eq_true] at hq
  rw [rd_root k, rd_root k, rd_root k, rd_root k, qF_eq k, rd_pk k, qO_eq, qhd_eq k] at hq
  obtain ⟨⟨⟨⟨⟨⟨⟨⟨⟨⟨q1, q2⟩, q3⟩, q4⟩, q5⟩, q6⟩, q7⟩, q8⟩, q9⟩, q10⟩, q11⟩ := hq
  refine ⟨h, e1, ⟨k, q4, ?_, q6, q7, q8, q9, q10, fun j hj => ?_⟩, q1, q2, q3⟩
  · unfold getF
    rw [if_pos (isF_le q4 (by decide))]
    exact q5
  · have h3 := q11 j (by simp only [List.mem_cons, List.not_mem_nil, or_false]; omega)
    rwa [qO_eq, rd_root k] at h3
theorem steps_16384 : ∃ hA hP hE ms, Steps 16384 hA hP ms hE ∧ Paired (clsAll bareCls (wireAll ms 0 plans hP)) ms ∧ Str 16384 hE := by
  obtain ⟨hE, e, s⟩ := str_of (n := 16384) (by decide) (by decide) (by decide +kernel)
  obtain ⟨a, b, ms, st⟩ := steps_of (by decide) (by decide) e (by decide +kernel)
  exact ⟨a, b, hE, ms, st, steps2_of (by decide) (by decide) st (by decide +kernel), s⟩
end Go.Proofs.YteiikhcadjdkcaaGreatDoor.Limb
namespace Go.Proofs.YteiikhcadjdkcaaGreatDoor
open Go Go.RowKit Limb
theorem wpOp_plain {P : Program} {ops : Array Oper} {Q : Exit → Act → World → Prop} {i : Nat} {o : Oper} {K : Act → World → Prop} {a : Act} {w : World} (hi : ops[i]? = some o) (hg : o.guard = none) (h : o.wp P a w K Q) : wpOp P ops Q i K a w := by
  unfold wpOp; rw [hi]; simp only [Region.wanted, hg, if_true]; exact .inl h
section
variable {P : Program} {md : Region.Mode} {ops : Array Oper} {Q : Exit → Act → World → Prop} {S : World → Prop}
end
end Go.Proofs.YteiikhcadjdkcaaGreatDoor
namespace Go.Proofs.YteiikhcadjdkcaaGreatDoor
open Go Go.RowKit Limb
def Sm (x : Int) : Prop := -1073741824 ≤ x ∧ x ≤ 1073741823
theorem Sm.mul {x y : Int} (hx : Sm x) (hy : Sm y) : -1152921504606846976 ≤ x * y ∧ x * y ≤ 1152921504606846976 := by
  obtain ⟨a, b⟩ := hx
  obtain ⟨c, d⟩ := hy
  have h1 : x.natAbs ≤ 1073741824 := by omega
  have h2 : y.natAbs ≤ 1073741824 := by omega
  have h3 : (x * y).natAbs ≤ 1073741824 * 1073741824 := by rw [Int.natAbs_mul]; exact Nat.mul_le_mul h1 h2
  omega
theorem isSm_iff {x : Int} : isSm x = true ↔ Sm x := by unfold isSm Sm; simp
def floorQ (x y : Int) : Int := if x.tmod y ≠ 0 ∧ ¬ (x < 0 ↔ y < 0) then x.tdiv y - 1 else x.tdiv y
theorem tdiv_small {x y : Int} (hx : Sm x) : -1073741824 ≤ x.tdiv y ∧ x.tdiv y ≤ 1073741824 := by
  obtain ⟨a, b⟩ := hx
  have h1 : (x.tdiv y).natAbs ≤ x.natAbs := by rw [Int.natAbs_tdiv]; exact Nat.div_le_self _ _
  omega
theorem tmod_small {x y : Int} (hx : Sm x) : -1073741824 ≤ x.tmod y ∧ x.tmod y ≤ 1073741824 := by
  obtain ⟨a, b⟩ := hx
  have h1 : (x.tmod y).natAbs ≤ x.natAbs := by rw [Int.natAbs_tmod]; exact Nat.mod_le _ _
  omega
theorem floor_small {x y : Int} (hx : Sm x) : -1073741825 ≤ floorQ x y ∧ floorQ x y ≤ 1073741824 := by
  have := tdiv_small (y := y) hx
  unfold floorQ
  split <;> omega
theorem floor_mul {x y : Int} (hx : Sm x) (hy : Sm y) : -1152921506000000000 ≤ floorQ x y * y ∧ floorQ x y * y ≤ 1152921506000000000 := by
  have h0 := floor_small (y := y) hx
  obtain ⟨c, d⟩ := hy
  have h1 : (floorQ x y).natAbs ≤ 1073741825 := by omega
  have h2 : y.natAbs ≤ 1073741824 := by omega
  have h3 : (floorQ x y * y).natAbs ≤ 1073741825 * 1073741824 := by rw [Int.natAbs_mul]; exact Nat.mul_le_mul h1 h2
  omega
def shiftQ (x y : Int) : Option Int := if x = 0 then some 0 else if 31 < y then none else if 0 ≤ y then some (x * 2 ^ y.toNat) else some (x / 2 ^ (min (-y) 60).toNat)
def resV (o : Option Int) : Option Int := o.bind fun z => if isSm z = true then some z else none
theorem shift_zero (y : Int) : shiftQ 0 y = some 0 := by unfold shiftQ; rw [if_pos rfl]
def opN (n : Nat) (x y : Int) : Option Int :=
  match n with
  | 1 => some (x + y)
  | 2 => some (x - y)
  | 3 => some (x * y)
  | 4 => if y = 0 then none else some (floorQ x y)
  | 5 => if y = 0 then none else some (x - floorQ x y * y)
  | 6 => if y = 0 then none else some (x.tdiv y)
  | 7 => if y = 0 then none else some (x.tmod y)
  | 14 => some (bits .and .i64 x y)
  | 15 => some (bits .or .i64 x y)
  | 16 => some (bits .xor .i64 x y)
  | _ => shiftQ x y
def cmpN (n : Nat) (x y : Int) : Bool :=
  match n with
  | 8 => decide (x < y)
  | 9 => decide (y < x)
  | 10 => decide (x ≤ y)
  | 11 => decide (y ≤ x)
  | 12 => x == y
  | _ => x != y
end Go.Proofs.YteiikhcadjdkcaaGreatDoor
