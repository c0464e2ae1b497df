/- The walks of package oop: kinds, indices, small integers. The walks of Neg, Abs, Sign, BitLen, Bit, Cmp of package big's integers. What a boot's walk asks of the heaps on its way. -/
import Derived.Test.YtllabdmmfohbaaaGreatDoorGX07
import Derived.Test.YtllabdmmfohbaaaGreatDoorGX02
import Derived.Laws.BitsAll
import Derived.StillTailTactics
import Derived.Deep.RegionWith
set_option linter.unusedVariables false
set_option linter.unusedSimpArgs false
namespace Go.Proofs.YtllabdmmfohbaaaGreatDoor
open Go Go.RowKit Limb
def kindN (o : Nat) : Nat := if o = 0 then 0 else if o % 2 = 1 then 1 else 2
theorem and_one (o : Nat) (ho : o < 4294967296) : bits .and .u32 (o : Int) 1 = ((o % 2 : Nat) : Int) := by
  rw [show (1 : Int) = ((1 : Nat) : Int) from rfl, u32_and_nat o 1 ho (by decide), nat_mask1]
set_option maxRecDepth 100000 in
theorem oop_kind (w : World) (o : Nat) (ho : o < 4294967296) :
    Calls Tryz.prog 24 #[.int .u32 o] w fun e w' => e = .returned (.int .i64 (kindN o)) ∧ w = w' := by
  have hb := and_one o ho
  by_cases h0 : o = 0
  · subst h0
    clear hb
    go_enter Tryz.func24, Tryz.ntmps24
    go_wp2
    go_ret
    exact ⟨rfl, rfl⟩
  · have q0 : ((o : Int) == 0) = false := by rw [beq_eq_false_iff_ne]; omega
    have q0' : (o == 0) = false := by rw [beq_eq_false_iff_ne]; omega
    by_cases h1 : o % 2 = 1
    · have e : kindN o = 1 := by unfold kindN; rw [if_neg h0, if_pos h1]
      rw [e]; rw [h1] at hb
      clear h0 h1 e ho
      go_enter Tryz.func24, Tryz.ntmps24
      go_wp2
      go_ret
      exact ⟨rfl, rfl⟩
    · have e : kindN o = 2 := by unfold kindN; rw [if_neg h0, if_neg h1]
      have h2 : o % 2 = 0 := by omega
      rw [e]; rw [h2] at hb
      clear h0 h1 h2 e ho
      go_enter Tryz.func24, Tryz.ntmps24
      go_wp2
      go_ret
      exact ⟨rfl, rfl⟩
def idxN (o : Nat) : Nat := if kindN o = 2 then o / 2 else 0
def idxE (o : Nat) : Nat := if kindN o = 2 then 0 else 3
set_option maxRecDepth 100000 in
theorem oop_index (w : World) (o : Nat) (ho : o < 4294967296) :
    Calls Tryz.prog 46 #[.int .u32 o] w fun e w' => e = .returned (.tuple #[.int .i64 (idxN o), .int .i64 (idxE o)]) ∧ w = w' := by
  have hk := oop_kind w o ho
  have HD := Lib.hid (show ((o / 2 : Nat) : Int) = (o : Int) / 2 from by omega)
  by_cases h2 : kindN o = 2
  · have e1 : idxN o = o / 2 := by unfold idxN; rw [if_pos h2]
    have e2 : idxE o = 0 := by unfold idxE; rw [if_pos h2]
    rw [h2] at hk
    rw [e1, e2]
    have HK := Lib.hid hk
    clear hk h2 e1 e2
    go_enter Tryz.func46, Tryz.ntmps46
    go_wp2_with fail
    refine HK.out.mono ?_
    rintro e w1 ⟨rfl, rfl⟩
    (try dsimp only)
    go_wp2_with fail
    go_ret2
    exact ⟨rfl, rfl⟩
  · have e1 : idxN o = 0 := by unfold idxN; rw [if_neg h2]
    have e2 : idxE o = 3 := by unfold idxE; rw [if_neg h2]
    have q : (((kindN o : Nat) : Int) != 2) = true := by rw [bne_iff_ne]; omega
    have q2 : (((kindN o : Nat) : Int) == 2) = false := by rw [beq_eq_false_iff_ne]; omega
    generalize kindN o = kk at *
    rw [e1, e2]
    have HK := Lib.hid hk
    clear hk h2 e1 e2
    go_enter Tryz.func46, Tryz.ntmps46
    go_wp2_with fail
    refine HK.out.mono ?_
    rintro e w1 ⟨rfl, rfl⟩
    (try dsimp only)
    go_wp2_with fail
    go_ret2
    exact ⟨rfl, rfl⟩
set_option maxRecDepth 100000 in
theorem oop_fits (w : World) (n : Int) :
    Calls Tryz.prog 54 #[.int .i64 n] w fun e w' => e = .returned (.bool (decide (-1073741824 ≤ n) && decide (n ≤ 1073741823))) ∧ w = w' := by
  by_cases h1 : -1073741824 ≤ n
  · have d1 : decide (-1073741824 ≤ n) = true := decide_eq_true h1
    by_cases h2 : n ≤ 1073741823
    · have d2 : decide (n ≤ 1073741823) = true := decide_eq_true h2
      rw [d1, d2]
      go_enter Tryz.func54, Tryz.ntmps54
      go_wp2_with fail
      go_ret
      exact ⟨rfl, rfl⟩
    · have d2 : decide (n ≤ 1073741823) = false := decide_eq_false h2
      rw [d1, d2]
      go_enter Tryz.func54, Tryz.ntmps54
      go_wp2_with fail
      go_ret
      exact ⟨rfl, rfl⟩
  · have d1 : decide (-1073741824 ≤ n) = false := decide_eq_false h1
    rw [d1]
    go_enter Tryz.func54, Tryz.ntmps54
    go_wp2_with fail
    go_ret
    exact ⟨rfl, rfl⟩
set_option maxRecDepth 100000 in
theorem oop_at (w : World) (n : Nat) (h1 : 1 ≤ n) (h2 : n ≤ 2147483647) :
    Calls Tryz.prog 179 #[.int .i64 n] w fun e w' => e = .returned (.tuple #[.int .u32 (2 * n : Nat), .int .i64 0]) ∧ w = w' := by
  have d1 : decide ((n : Int) < 1) = false := decide_eq_false (by omega)
  have d2 : decide (2147483647 < (n : Int)) = false := decide_eq_false (by omega)
  have d3 : decide (2147483647 < n) = false := decide_eq_false (by omega)
  have d4 : decide (n < 1) = false := decide_eq_false (by omega)
  go_enter Tryz.func179, Tryz.ntmps179
  go_wp2_with fail
  go_ret2
  exact ⟨by rw [Int.natCast_mul]; rfl, rfl⟩
end Go.Proofs.YtllabdmmfohbaaaGreatDoor
namespace Go.Proofs.YtllabdmmfohbaaaGreatDoor
open Go Go.RowKit Limb
theorem Lay.drew {K : IntKind} {w : World} {a : Option Addr} {l : List Nat} (h : Lay K w a l) : Lay K w.drew a l := h
end Go.Proofs.YtllabdmmfohbaaaGreatDoor
namespace Go.Proofs.YtllabdmmfohbaaaGreatDoor.Limb
theorem setR_root {h : Hp} (k : Good h) {i v : Nat} (hi : i < 64) (j : Nat) : wd (setR h i v).rt j = if j = i then v else wd h.rt j := wd_set (by rw [k.rlen]; exact hi) j
def okPk (p : Pk) (ms : List Nat) : Bool :=
  decide (ms.length = 22) && ((List.range 22).all fun i => qF p (rd p.R (10 + i)) 1 6 && qF p (wd ms i) 1 6) && ([0, 1, 2, 3, 4, 6, 8].all fun r => qO p (rd p.R r)) && qF p (rd p.R 3) 1 128 && qF p (rd p.R 4) 1 32 && qF p (rd p.R 8) 1 11
structure Paired (h : Hp) (ms : List Nat) : Prop where
  good : Good h
  len : ms.length = 22
  cls : ∀ i, i < 22 → isF h (wd h.rt (10 + i)) 1 6 = true
  met : ∀ i, i < 22 → isF h (wd ms i) 1 6 = true
  low : ∀ r, r ∈ [0, 1, 2, 3, 4, 6, 8] → isO h (wd h.rt r) = true
  l3 : isF h (wd h.rt 3) 1 128 = true
  l4 : isF h (wd h.rt 4) 1 32 = true
  l8 : isF h (wd h.rt 8) 1 11 = true
theorem paired_of {h : Hp} (k : Good h) {ms : List Nat} (e : okPk (pk h) ms = true) : Paired h ms := by
  unfold okPk at e
  simp only [Bool.and_eq_true, decide_eq_true_eq, List.all_eq_true, List.mem_range, qF_eq k, qO_eq, rd_root k] at e
  obtain ⟨⟨⟨⟨⟨e1, e2⟩, e3⟩, e4⟩, e5⟩, e6⟩ := e
  exact ⟨k, e1, fun i hi => (e2 i hi).1, fun i hi => (e2 i hi).2, e3, e4, e5, e6⟩
theorem Paired.grow {h h' : Hp} {ms : List Nat} (x : Paired h ms) (g : Grow h h') : Paired h' ms :=
  ⟨g.good, x.len, fun i hi => by rw [g.rt]; exact g.isF _ _ _ (x.cls i hi), fun i hi => g.isF _ _ _ (x.met i hi), fun r hr => by rw [g.rt]; exact g.isO (x.low r hr), by rw [g.rt]; exact g.isF _ _ _ x.l3, by rw [g.rt]; exact g.isF _ _ _ x.l4, by rw [g.rt]; exact g.isF _ _ _ x.l8⟩
theorem Paired.ker {h : Hp} {ms : List Nat} (x : Paired h ms) : Ker h := by
  refine ⟨fun j hj => ?_, isF_le x.l3 (Nat.zero_le _), isF_le x.l4 (Nat.zero_le _)⟩
  have : j = 0 ∨ j = 1 ∨ j = 2 ∨ j = 3 ∨ j = 4 := by omega
  rcases this with rfl | rfl | rfl | rfl | rfl
  · exact isF_isO (x.cls 2 (by decide))
  · exact isF_isO (x.cls 8 (by decide))
  · exact isF_isO (x.cls 9 (by decide))
  · exact isF_isO (x.cls 10 (by decide))
  · exact isF_isO (x.cls 13 (by decide))
structure Steps (n : Nat) (h1 h2 : Hp) (ms : List Nat) (hE : Hp) : Prop where
  first : firstAll first7 (emptyH n) = some h1
  nil0 : isO h1 (wd h1.rt 0) = true
  pairs : pairsP tenOn (nilR [5, 7, 9] h1) = some (ms, h2)
  paired : Paired h2 ms
  rest : ((nameAll 0 plans (clsAll bareCls (wireAll ms 0 plans h2))).bind fun h => (selAll 0 sels h).bind fun h => fieldAll 0 plans h) = some hE
def qsteps (n : Nat) : Bool :=
  match qfirstAll first7 (pk (emptyH n)) with
  | none => false
  | some p1 => qO p1 (rd p1.R 0) && match (qnilR [5, 7, 9] p1).bind fun x => qpairs tenOn x with
    | none => false
    | some (ms, p2) => okPk p2 ms
theorem steps_of {n : Nat} (h1 : 64 ≤ n) (h2 : n ≤ 1048576) {hE : Hp} (hb : bootP n = some hE) (hq : qsteps n = true) : ∃ a b ms, Steps n a b ms hE := by
  unfold bootP at hb
  obtain ⟨hB, e1, e2⟩ := Option.bind_eq_some_iff.1 hb
  unfold bonesP at e1
  obtain ⟨hA, e3, e4⟩ := Option.bind_eq_some_iff.1 e1
  unfold classesP at e4
  obtain ⟨⟨ms, hP⟩, e5, e6⟩ := Option.map_eq_some_iff.1 e4
  have k0 := good_empty h1 h2
  unfold qsteps at hq
  split at hq
  · cases hq
  · rename_i p1 hp1
    rw [Bool.and_eq_true] at hq
    obtain ⟨q1, q2⟩ := hq
    obtain ⟨hA', x1, rfl, kA⟩ := up_firstAll first7 _ k0 p1 hp1
    obtain rfl : hA' = hA := Option.some.inj (x1.symm.trans e3)
    split at q2
    · cases q2
    · rename_i ms2 p2 hp2
      obtain ⟨p3, y1, y2⟩ := Option.bind_eq_some_iff.1 hp2
      obtain ⟨hN, z1, rfl, kN⟩ := up_nilR [5, 7, 9] hA' kA p3 y1
      obtain rfl := Option.some.inj z1
      obtain ⟨hP', z2, rfl, kP⟩ := up_pairs tenOn _ kN ms2 p2 y2
      have z3 := Option.some.inj (z2.symm.trans e5)
      rw [Prod.mk.injEq] at z3
      obtain ⟨rfl, rfl⟩ := z3
      refine ⟨hA', hP', ms2, e3, ?_, z2, paired_of kP q2, ?_⟩
      · rw [qO_eq, rd_root kA] at q1; exact q1
      · rw [e6]; exact e2
end Go.Proofs.YtllabdmmfohbaaaGreatDoor.Limb
