/- The walk of package kernel's put. The table's rules of numbers, the document's Small, Value and Fits, and prim.Data of two small integers. -/
import Derived.Test.YteiikhcadjdkcaaGreatDoorGX31
set_option linter.unusedVariables false
set_option linter.unusedSimpArgs false
namespace Go.Proofs.YteiikhcadjdkcaaGreatDoor
open Go Go.RowKit Limb
section
variable {w : World} {F : Foot} {h : Hp}
theorem putL_some {r o : Nat} {h' : Hp} (e : putL h r o = some h') : isF h (wd h.rt r) 1 0 = true ∧ (entries h r).length = (Limb.ahead (wd h.rt 0) (flds h (wd h.rt r))).length ∧ isF h (wd h.rt r) 1 ((entries h r).length + 1) = true ∧ h' = Limb.putF h (wd h.rt r) (entries h r).length o := by
  unfold putL at e
  simp only at e
  split at e
  · rename_i hc
    have h0 : isF h (wd h.rt r) 1 0 = true := by
      unfold isF at hc ⊢
      simp only [Bool.and_eq_true, decide_eq_true_eq] at hc ⊢
      exact ⟨hc.1, Nat.zero_le _⟩
    refine ⟨h0, ?_, hc, (Option.some.inj e).symm⟩
    unfold entries; rw [if_pos h0]
  · cases e
set_option maxHeartbeats 1600000 in
set_option maxRecDepth 100000 in
theorem kernel_put (H : HeapAt w F h) (r : Nat) (hr : r < 64) (o : Nat) (ho : o < 4294967296) (hval : valO h o = true) (h' : Hp) (hp : putL h r o = some h') :
    Calls Tryz.prog 67 #[.pointer (some ⟨F.p, 0, none⟩), .int .i64 r, .int .u32 o] w fun e w' => e = .returned (.int .i64 0) ∧ Step w F w' F h' := by
  obtain ⟨h0, h1, h2, h3⟩ := putL_some hp
  have hl := root_lt H.good r
  have HR := Lib.hid (kernel_root H r hr)
  have hU := fun X (hb : Below w.heap.size w X) => kernel_used (H.below hb) (wd h.rt r) hl h0
  rw [← h1] at hU
  have hi : isO h (wd h.rt r) = true := by unfold isF at h0; simp only [Bool.and_eq_true] at h0; exact h0.1.1
  have hX : hdX h (wd h.rt r) = hdO h (wd h.rt r) := by unfold hdX; rw [if_pos hi]
  have hS := fun X (hb : Below w.heap.size w X) => kernel_size (H.below hb) (wd h.rt r) hl
  rw [hX] at hS
  generalize (entries h r).length = n at *
  generalize wd h.rt r = l at *
  have hn : n < (hdO h l).size ∧ (hdO h l).fmt = 1 := by
    unfold isF at h2; simp only [Bool.and_eq_true, decide_eq_true_eq] at h2; exact ⟨by omega, h2.1.2⟩
  have hsz : (hdO h l).size ≤ 65535 := (H.good.ok _ (isO_iff.1 hi).2.2).1.size
  have hlen : (hdO h l).len = (hdO h l).size := len_size (by omega)
  have hE : lookE h l (n : Int) [1, 4] = 0 := lookE_zero.2 ⟨hi, by rw [hn.2]; rfl, by omega, by rw [hlen]; omega⟩
  have hPE : putE h l (n : Int) o = 0 := by unfold putE; rw [if_pos hE, if_pos hval]
  have hPH : putH h l (n : Int) o = h' := by unfold putH; rw [if_pos hPE, Int.toNat_natCast, h3]
  have hP := fun X (hb : Below w.heap.size w X) => heap_put (H.below hb) l hl (n : Int) (by omega) (by omega) o ho
  rw [hPE, hPH] at hP
  generalize (hdO h l).size = sz at *
  have q : ((n : Int) == (sz : Int)) = false := by rw [beq_eq_false_iff_ne]; omega
  have q2 : (n == sz) = false := by rw [beq_eq_false_iff_ne]; omega
  have HU := Lib.hid hU
  have HS := Lib.hid hS
  have HP := Lib.hid hP
  clear hU hS hP hPE hPH hE hlen hX hi h0 h1 h2 h3 hp hval H hn
  go_enter Tryz.func67, Tryz.ntmps67
  go_wp2_with fail
  refine (HR.out).mono ?_
  rintro e V1 ⟨rfl, rfl⟩
  (try dsimp only)
  go_wp2_with fail
  refine (HU.out _ (Below.refl _ _)).mono ?_
  rintro e V2 ⟨rfl, hB⟩
  (try dsimp only)
  go_wp2_with fail
  refine (HS.out _ hB).mono ?_
  rintro e V3 ⟨rfl, hb⟩
  (try dsimp only)
  replace hB := hB.trans (hb.mono hB.size)
  clear hb
  go_wp2_with fail
  refine (HP.out _ hB).mono ?_
  rintro e V4 ⟨rfl, hSt⟩
  (try dsimp only)
  have HSt := Lib.hid (Step.of_below hB hSt)
  clear hSt
  go_wp2_with fail
  go_ret
  exact ⟨rfl, HSt.out⟩
end
end Go.Proofs.YteiikhcadjdkcaaGreatDoor
namespace Go.Proofs.YteiikhcadjdkcaaGreatDoor
open Go Go.RowKit Go.Maps Limb
set_option maxRecDepth 100000 in
theorem r_small (w : World) (n : Int) (hn : isSm n = true) :
    Calls Tryz.prog 28 #[.int .i64 n] w fun e w' => e = .returned (.int .u32 (smallO n)) ∧ w = w' := by
  unfold isSm at hn
  simp only [Bool.and_eq_true, decide_eq_true_eq] at hn
  obtain ⟨h1, h2⟩ := hn
  by_cases h0 : 2 * n + 1 < 0
  · have d1 : decide (2 * n + 1 < 0) = true := decide_eq_true h0
    have e : ((smallO n : Nat) : Int) = 2 * n + 1 + 4294967296 := by unfold smallO; omega
    rw [e]
    go_enter Tryz.func28, Tryz.ntmps28
    go_wp2_with fail
    go_ret
    exact ⟨by first | rfl | (congr 3; omega), rfl⟩
  · have d1 : decide (2 * n + 1 < 0) = false := decide_eq_false h0
    have e : ((smallO n : Nat) : Int) = 2 * n + 1 := by unfold smallO; omega
    rw [e]
    go_enter Tryz.func28, Tryz.ntmps28
    go_wp2_with fail
    go_ret
    exact ⟨by first | rfl | (congr 3; omega), rfl⟩
theorem value_small {x : Int} (h : Sm x) : valueO (smallO x) = x := by
  obtain ⟨a, b⟩ := h
  unfold valueO smallO
  split <;> omega
theorem small_odd (x : Int) : smallO x % 2 = 1 := by unfold smallO; omega
theorem small_lt (x : Int) : smallO x < 4294967296 := by unfold smallO; omega
def ansN (h : Hp) (n : Nat) (x y : Int) : Option Nat := if 8 ≤ n ∧ n ≤ 13 then some (wd h.rt (if cmpN n x y = true then 1 else 2)) else resO (opN n x y)
theorem tab_rule {F : Foot} {h : Hp} {x y : Int} (hx : Sm x) (hy : Sm y) (n : Nat) (h1 : 1 ≤ n) (h2 : n ≤ 17) (X : World) :
    Calls Tryz.prog 25 #[] X fun e X' => ∃ b l f caps, e = .returned (.map (some b)) ∧ OwnM X X' b l ∧ l.map (·.1) = upK 5 ∧ ((n : Int), entV (1, .func f, #[], caps)) ∈ l ∧ Rule F h (smallO x) (smallO y) (ansN h n x y) X' f caps := by
  refine (tab_all X).mono ?_
  rintro e X' ⟨b, a, c, r, rfl, O, k, E, -⟩
  obtain ⟨⟨_, RA⟩, hE⟩ := num_at E
  have hc : n = 1 ∨ n = 2 ∨ n = 3 ∨ n = 4 ∨ n = 5 ∨ n = 6 ∨ n = 7 ∨ n = 8 ∨ n = 9 ∨ n = 10 ∨ n = 11 ∨ n = 12 ∨ n = 13 ∨ n = 14 ∨ n = 15 ∨ n = 16 ∨ n = 17 := by omega
  rcases hc with rfl | rfl | rfl | rfl | rfl | rfl | rfl | rfl | rfl | rfl | rfl | rfl | rfl | rfl | rfl | rfl | rfl
  · refine ⟨b, _, 203, #[.pointer (some ⟨c.getD 0 0, 0, none⟩)], rfl, O, k, List.mem_append_left _ (List.mem_of_getElem? (i := 0) rfl), enters_of Tryz.func203 (by kernel_rfl) rfl, fun Y p ga hb HY R A => ?_⟩
    have RB := (hE 1 _ _ _ rfl).2
    have RB := RB.below hb RB.lt
    have RAy := RA.below hb RA.lt
    refine two_fn R A RB (small_odd _) (small_lt _) (small_odd _) (small_lt _) (enters_of Tryz.func78 (by kernel_rfl) rfl) (fun Z hz => ?_)
    rw [value_small hx, value_small hy]
    exact num_1 hx hy (RAy.below hz RAy.lt)
  · refine ⟨b, _, 203, #[.pointer (some ⟨c.getD 1 0, 0, none⟩)], rfl, O, k, List.mem_append_left _ (List.mem_of_getElem? (i := 1) rfl), enters_of Tryz.func203 (by kernel_rfl) rfl, fun Y p ga hb HY R A => ?_⟩
    have RB := (hE 2 _ _ _ rfl).2
    have RB := RB.below hb RB.lt
    have RAy := RA.below hb RA.lt
    refine two_fn R A RB (small_odd _) (small_lt _) (small_odd _) (small_lt _) (enters_of Tryz.func79 (by kernel_rfl) rfl) (fun Z hz => ?_)
    rw [value_small hx, value_small hy]
    exact num_2 hx hy (RAy.below hz RAy.lt)
  · refine ⟨b, _, 203, #[.pointer (some ⟨c.getD 2 0, 0, none⟩)], rfl, O, k, List.mem_append_left _ (List.mem_of_getElem? (i := 2) rfl), enters_of Tryz.func203 (by kernel_rfl) rfl, fun Y p ga hb HY R A => ?_⟩
    have RB := (hE 3 _ _ _ rfl).2
    have RB := RB.below hb RB.lt
    have RAy := RA.below hb RA.lt
    refine two_fn R A RB (small_odd _) (small_lt _) (small_odd _) (small_lt _) (enters_of Tryz.func80 (by kernel_rfl) rfl) (fun Z hz => ?_)
    rw [value_small hx, value_small hy]
    exact num_3 hx hy (RAy.below hz RAy.lt)
  · refine ⟨b, _, 203, #[.pointer (some ⟨c.getD 3 0, 0, none⟩)], rfl, O, k, List.mem_append_left _ (List.mem_of_getElem? (i := 3) rfl), enters_of Tryz.func203 (by kernel_rfl) rfl, fun Y p ga hb HY R A => ?_⟩
    have RB := (hE 4 _ _ _ rfl).2
    have RB := RB.below hb RB.lt
    have RAy := RA.below hb RA.lt
    refine two_fn R A RB (small_odd _) (small_lt _) (small_odd _) (small_lt _) (enters_of Tryz.func81 (by kernel_rfl) rfl) (fun Z hz => ?_)
    rw [value_small hx, value_small hy]
    exact num_4 hx hy (RAy.below hz RAy.lt)
  · refine ⟨b, _, 203, #[.pointer (some ⟨c.getD 4 0, 0, none⟩)], rfl, O, k, List.mem_append_left _ (List.mem_of_getElem? (i := 4) rfl), enters_of Tryz.func203 (by kernel_rfl) rfl, fun Y p ga hb HY R A => ?_⟩
    have RB := (hE 5 _ _ _ rfl).2
    have RB := RB.below hb RB.lt
    have RAy := RA.below hb RA.lt
    refine two_fn R A RB (small_odd _) (small_lt _) (small_odd _) (small_lt _) (enters_of Tryz.func83 (by kernel_rfl) rfl) (fun Z hz => ?_)
    rw [value_small hx, value_small hy]
    exact num_5 hx hy (RAy.below hz RAy.lt)
  · refine ⟨b, _, 203, #[.pointer (some ⟨c.getD 5 0, 0, none⟩)], rfl, O, k, List.mem_append_left _ (List.mem_of_getElem? (i := 5) rfl), enters_of Tryz.func203 (by kernel_rfl) rfl, fun Y p ga hb HY R A => ?_⟩
    have RB := (hE 6 _ _ _ rfl).2
    have RB := RB.below hb RB.lt
    have RAy := RA.below hb RA.lt
    refine two_fn R A RB (small_odd _) (small_lt _) (small_odd _) (small_lt _) (enters_of Tryz.func84 (by kernel_rfl) rfl) (fun Z hz => ?_)
    rw [value_small hx, value_small hy]
    exact num_6 hx hy (RAy.below hz RAy.lt)
  · refine ⟨b, _, 203, #[.pointer (some ⟨c.getD 6 0, 0, none⟩)], rfl, O, k, List.mem_append_left _ (List.mem_of_getElem? (i := 6) rfl), enters_of Tryz.func203 (by kernel_rfl) rfl, fun Y p ga hb HY R A => ?_⟩
    have RB := (hE 7 _ _ _ rfl).2
    have RB := RB.below hb RB.lt
    have RAy := RA.below hb RA.lt
    refine two_fn R A RB (small_odd _) (small_lt _) (small_odd _) (small_lt _) (enters_of Tryz.func85 (by kernel_rfl) rfl) (fun Z hz => ?_)
    rw [value_small hx, value_small hy]
    exact num_7 hx hy (RAy.below hz RAy.lt)
  · refine ⟨b, _, 204, #[.pointer (some ⟨c.getD 7 0, 0, none⟩)], rfl, O, k, List.mem_append_left _ (List.mem_of_getElem? (i := 7) rfl), enters_of Tryz.func204 (by kernel_rfl) rfl, fun Y p ga hb HY R A => ?_⟩
    have RB := (hE 8 _ _ _ rfl).2
    have RB := RB.below hb RB.lt
    have RAy := RA.below hb RA.lt
    refine cmp_fn HY R A RB (small_odd _) (small_lt _) (small_odd _) (small_lt _) (enters_of Tryz.func87 (by kernel_rfl) rfl) (fun Z hz => ?_)
    rw [value_small hx, value_small hy]
    exact num_8 x y
  · refine ⟨b, _, 204, #[.pointer (some ⟨c.getD 8 0, 0, none⟩)], rfl, O, k, List.mem_append_left _ (List.mem_of_getElem? (i := 8) rfl), enters_of Tryz.func204 (by kernel_rfl) rfl, fun Y p ga hb HY R A => ?_⟩
    have RB := (hE 9 _ _ _ rfl).2
    have RB := RB.below hb RB.lt
    have RAy := RA.below hb RA.lt
    refine cmp_fn HY R A RB (small_odd _) (small_lt _) (small_odd _) (small_lt _) (enters_of Tryz.func88 (by kernel_rfl) rfl) (fun Z hz => ?_)
    rw [value_small hx, value_small hy]
    exact num_9 x y
  · refine ⟨b, _, 204, #[.pointer (some ⟨c.getD 9 0, 0, none⟩)], rfl, O, k, List.mem_append_left _ (List.mem_of_getElem? (i := 9) rfl), enters_of Tryz.func204 (by kernel_rfl) rfl, fun Y p ga hb HY R A => ?_⟩
    have RB := (hE 10 _ _ _ rfl).2
    have RB := RB.below hb RB.lt
    have RAy := RA.below hb RA.lt
    refine cmp_fn HY R A RB (small_odd _) (small_lt _) (small_odd _) (small_lt _) (enters_of Tryz.func89 (by kernel_rfl) rfl) (fun Z hz => ?_)
    rw [value_small hx, value_small hy]
    exact num_10 x y
  · refine ⟨b, _, 204, #[.pointer (some ⟨c.getD 10 0, 0, none⟩)], rfl, O, k, List.mem_append_left _ (List.mem_of_getElem? (i := 10) rfl), enters_of Tryz.func204 (by kernel_rfl) rfl, fun Y p ga hb HY R A => ?_⟩
    have RB := (hE 11 _ _ _ rfl).2
    have RB := RB.below hb RB.lt
    have RAy := RA.below hb RA.lt
    refine cmp_fn HY R A RB (small_odd _) (small_lt _) (small_odd _) (small_lt _) (enters_of Tryz.func90 (by kernel_rfl) rfl) (fun Z hz => ?_)
    rw [value_small hx, value_small hy]
    exact num_11 x y
  · refine ⟨b, _, 204, #[.pointer (some ⟨c.getD 11 0, 0, none⟩)], rfl, O, k, List.mem_append_left _ (List.mem_of_getElem? (i := 11) rfl), enters_of Tryz.func204 (by kernel_rfl) rfl, fun Y p ga hb HY R A => ?_⟩
    have RB := (hE 12 _ _ _ rfl).2
    have RB := RB.below hb RB.lt
    have RAy := RA.below hb RA.lt
    refine cmp_fn HY R A RB (small_odd _) (small_lt _) (small_odd _) (small_lt _) (enters_of Tryz.func91 (by kernel_rfl) rfl) (fun Z hz => ?_)
    rw [value_small hx, value_small hy]
    exact num_12 x y
  · refine ⟨b, _, 204, #[.pointer (some ⟨c.getD 12 0, 0, none⟩)], rfl, O, k, List.mem_append_left _ (List.mem_of_getElem? (i := 12) rfl), enters_of Tryz.func204 (by kernel_rfl) rfl, fun Y p ga hb HY R A => ?_⟩
    have RB := (hE 13 _ _ _ rfl).2
    have RB := RB.below hb RB.lt
    have RAy := RA.below hb RA.lt
    refine cmp_fn HY R A RB (small_odd _) (small_lt _) (small_odd _) (small_lt _) (enters_of Tryz.func92 (by kernel_rfl) rfl) (fun Z hz => ?_)
    rw [value_small hx, value_small hy]
    exact num_13 x y
  · refine ⟨b, _, 203, #[.pointer (some ⟨c.getD 13 0, 0, none⟩)], rfl, O, k, List.mem_append_left _ (List.mem_of_getElem? (i := 13) rfl), enters_of Tryz.func203 (by kernel_rfl) rfl, fun Y p ga hb HY R A => ?_⟩
    have RB := (hE 14 _ _ _ rfl).2
    have RB := RB.below hb RB.lt
    have RAy := RA.below hb RA.lt
    refine two_fn R A RB (small_odd _) (small_lt _) (small_odd _) (small_lt _) (enters_of Tryz.func93 (by kernel_rfl) rfl) (fun Z hz => ?_)
    rw [value_small hx, value_small hy]
    exact num_14 hx hy (RAy.below hz RAy.lt)
  · refine ⟨b, _, 203, #[.pointer (some ⟨c.getD 14 0, 0, none⟩)], rfl, O, k, List.mem_append_left _ (List.mem_of_getElem? (i := 14) rfl), enters_of Tryz.func203 (by kernel_rfl) rfl, fun Y p ga hb HY R A => ?_⟩
    have RB := (hE 15 _ _ _ rfl).2
    have RB := RB.below hb RB.lt
    have RAy := RA.below hb RA.lt
    refine two_fn R A RB (small_odd _) (small_lt _) (small_odd _) (small_lt _) (enters_of Tryz.func94 (by kernel_rfl) rfl) (fun Z hz => ?_)
    rw [value_small hx, value_small hy]
    exact num_15 hx hy (RAy.below hz RAy.lt)
  · refine ⟨b, _, 203, #[.pointer (some ⟨c.getD 15 0, 0, none⟩)], rfl, O, k, List.mem_append_left _ (List.mem_of_getElem? (i := 15) rfl), enters_of Tryz.func203 (by kernel_rfl) rfl, fun Y p ga hb HY R A => ?_⟩
    have RB := (hE 16 _ _ _ rfl).2
    have RB := RB.below hb RB.lt
    have RAy := RA.below hb RA.lt
    refine two_fn R A RB (small_odd _) (small_lt _) (small_odd _) (small_lt _) (enters_of Tryz.func95 (by kernel_rfl) rfl) (fun Z hz => ?_)
    rw [value_small hx, value_small hy]
    exact num_16 hx hy (RAy.below hz RAy.lt)
  · refine ⟨b, _, 203, #[.pointer (some ⟨c.getD 16 0, 0, none⟩)], rfl, O, k, List.mem_append_left _ (List.mem_of_getElem? (i := 16) rfl), enters_of Tryz.func203 (by kernel_rfl) rfl, fun Y p ga hb HY R A => ?_⟩
    have RB := (hE 17 _ _ _ rfl).2
    have RB := RB.below hb RB.lt
    have RAy := RA.below hb RA.lt
    refine two_fn R A RB (small_odd _) (small_lt _) (small_odd _) (small_lt _) (enters_of Tryz.func96 (by kernel_rfl) rfl) (fun Z hz => ?_)
    rw [value_small hx, value_small hy]
    exact num_17 hx hy
section
variable {w : World} {F : Foot} {h : Hp}
theorem data_num (H : HeapAt w F h) {n : Nat} {x y : Int} {ga : Nat} (A : Row w ga 30 [.int .u32 (smallO y : Nat)]) (h1 : 1 ≤ n) (h2 : n ≤ 17) (hx : Sm x) (hy : Sm y) :
    Calls Tryz.prog 8 #[.pointer (some ⟨F.p, 0, none⟩), .int .i64 n, .int .u32 (smallO x : Nat), .slice (some ⟨ga, 0, none⟩) 1 1] w fun e w' => e = .returned (.tuple #[.int .u32 ((ansN h n x y).getD 0 : Nat), .int .i64 (if (ansN h n x y).isSome = true then 1 else 0)]) ∧ Below w.heap.size w w' :=
  prim_data H n (smallO x) (smallO y) ga A h1 (by omega) (small_odd _) (small_lt _) (small_odd _) (small_lt _) (ansN h n x y) (fun X _ => tab_rule hx hy n h1 h2 X)
end
end Go.Proofs.YteiikhcadjdkcaaGreatDoor
