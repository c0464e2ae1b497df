/- The walk of (*Int).Exp of package big with no modulus. The walk of large.Pow, where the power is made. -/
import Derived.Test.YtbffpkmfhkphdaaGreatDoorModC
import Derived.Test.YtbffpkmfhkphdaaGreatDoorPowerC
import Derived.Test.YtbffpkmfhkphdaaGreatDoorHeld
import Derived.Test.YtbffpkmfhkphdaaGreatDoorSumsC
import Derived.Test.YtbffpkmfhkphdaaGreatDoorBigCompareC
namespace Go.Proofs.YtbffpkmfhkphdaaGreatDoor
open Go Go.RowKit Limb

theorem pow_even {x : Int} {k : Nat} (h : k % 2 = 0) : 0 ≤ x ^ k := by
  rw [show k = 2 * (k / 2) from by omega, Int.pow_mul]
  exact Int.pow_nonneg (by rw [Int.pow_succ, Int.pow_succ, Int.pow_zero, Int.one_mul]; rcases Int.le_total 0 x with h | h; exact Int.mul_nonneg h h; exact Int.mul_nonneg_of_nonpos_of_nonpos h h)
theorem pow_neg_odd {x : Int} {k : Nat} (hx : x < 0) (h : k % 2 = 1) : x ^ k ≤ 0 := by
  rw [show k = (k - 1) + 1 from by omega, Int.pow_succ]
  exact Int.mul_nonpos_of_nonneg_of_nonpos (pow_even (by omega)) (by omega)

set_option maxHeartbeats 4000000 in
set_option maxRecDepth 100000 in
theorem int_expnil (w : World) (p q r : Nat) (v x : Int) (k : Nat) (hp : IntAt w p v) (hq : IntAt w q x) (hr : IntAt w r (k : Int)) (hx : x ≠ 0) (hk : k < 18446744073709551616) (lx : (rep x.natAbs).length ≤ 68719476736) (lT : (rep (x ^ k).natAbs).length ≤ 68719476736) :
    Calls Tryz.prog 82 #[.pointer (some ⟨p, 0, none⟩), .pointer (some ⟨q, 0, none⟩), .pointer (some ⟨r, 0, none⟩), .pointer none] w fun e w' => IntRes w w' e p (x ^ k) := by
  obtain ⟨b1, a1, n1, cap1, Hb1, Hn1, hc1, hl1, hcells1⟩ := hq.use
  obtain ⟨b2, a2, n2, cap2, Hb2, Hn2, hc2, hl2, hcells2⟩ := hr.use
  have epow : (x ^ k).natAbs = x.natAbs ^ k := Int.natAbs_pow x k
  have hB : ∀ X, Below w.heap.size w X → X.cell? ⟨q, 0, none⟩ = some (.bool b1) ∧ X.cell? ⟨q, 1, none⟩ = some (.slice a1 n1 cap1) ∧ X.cell? ⟨r, 1, none⟩ = some (.slice a2 n2 cap2) := fun X h =>
    ⟨(hcells1 X (Only.of_below h)).1, (hcells1 X (Only.of_below h)).2, (hcells2 X (Only.of_below h)).2⟩
  have HB := Lib.hid hB; clear hB hcells1 hcells2
  have l2 : n2 ≤ 9223372036854775807 := by
    rw [Hn2.out]; refine Nat.le_trans (rep_length_le.mpr ?_) (by decide : 2 ≤ 9223372036854775807)
    rw [show Limb.W 2 = 18446744073709551616 from by decide]; omega
  have hlow := fun X h => big_low X a2 (rep (k : Int).natAbs) n2 cap2 h (rep_lim _) Hn2.out l2
  rw [val_rep, show (k : Int).natAbs % 18446744073709551616 = k from by omega] at hlow
  have HL := Lib.hid hlow; clear hlow
  have hpow := fun X h => big_power X a1 n1 cap1 x.natAbs k h Hn1.out hc1 (by omega) hk (by rw [← epow]; exact lT) lx
  rw [← epow] at hpow
  have HP := Lib.hid hpow; clear hpow
  obtain ⟨T, hT⟩ : ∃ T, T = x ^ k := ⟨_, rfl⟩
  rw [← hT] at HP ⊢
  clear epow lT
  have h := Below.refl w.heap.size w
  obtain ⟨k0, k1, k2⟩ := HB.out w h
  by_cases hneg : x < 0
  · have hb : b1 = true := by rw [Hb1.out]; simpa using hneg
    subst hb
    have hbit := int_bit w.drew r 0 (k : Int) (hr.drewN 1) (by omega)
    rw [show (k : Int).natAbs / 2 ^ 0 % 2 = k % 2 from by rw [Nat.pow_zero, Nat.div_one]; omega] at hbit
    by_cases hpar : k % 2 = 1
    · have hT0 : T ≤ 0 := by rw [hT]; exact pow_neg_odd hneg hpar
      rw [hpar] at hbit
      have HBit := Lib.hid hbit; clear hbit
      clear hT Hb1 hneg hpar
      have hS : (w.drew.cell? ⟨q, 0, none⟩ = some (.bool true) ∧ w.drew.cell? ⟨q, 1, none⟩ = some (.slice a1 n1 cap1) ∧ w.drew.cell? ⟨r, 1, none⟩ = some (.slice a2 n2 cap2)) := HB.out _ h.drew
      go_enter Tryz.func82, Tryz.ntmps82
      go_wp2_with fail
      refine wp_region_S (n := 20) (S := fun X => X.cell? ⟨q, 0, none⟩ = some (.bool true) ∧ X.cell? ⟨q, 1, none⟩ = some (.slice a1 n1 cap1) ∧ X.cell? ⟨r, 1, none⟩ = some (.slice a2 n2 cap2)) (by kernel_rfl) (by decide) (fun inv => ?_)
      refine wpAnyS_take_at (i := 0) (v := .pointer (some ⟨p, 0, none⟩)) 16 inv rfl rfl (by kernel_rfl) (by kernel_rfl) (by kernel_rfl) (by decide) (by decide) (by kernel_rfl) (by kernel_rfl) (fun _ _ _ h => h) (.inl ⟨rfl, fun w hS => rfl⟩) hS (fun inv => ?_)
      simp only [Act.put, List.setIfInBounds_toArray, List.set_cons_zero, List.set_cons_succ]
      refine wpAnyS_take_at (i := 1) (v := .pointer (some ⟨q, 0, none⟩)) 17 inv rfl rfl (by kernel_rfl) (by kernel_rfl) (by kernel_rfl) (by decide) (by decide) (by kernel_rfl) (by kernel_rfl) (fun _ _ _ h => h) (.inl ⟨rfl, fun w hS => rfl⟩) hS (fun inv => ?_)
      simp only [Act.put, List.setIfInBounds_toArray, List.set_cons_zero, List.set_cons_succ]
      refine wpAnyS_take_at (i := 2) (v := .pointer (some ⟨q, 0, none⟩)) 18 inv rfl rfl (by kernel_rfl) (by kernel_rfl) (by kernel_rfl) (by decide) (by decide) (by kernel_rfl) (by kernel_rfl) (fun _ _ _ h => h) (.inl ⟨rfl, fun w hS => rfl⟩) hS (fun inv => ?_)
      simp only [Act.put, List.setIfInBounds_toArray, List.set_cons_zero, List.set_cons_succ]
      refine wpAnyS_take_at (i := 3) (v := .pointer (some ⟨q, 0, none⟩)) 19 inv rfl rfl (by kernel_rfl) (by kernel_rfl) (by kernel_rfl) (by decide) (by decide) (by kernel_rfl) (by kernel_rfl) (fun _ _ _ h => h) (.inl ⟨rfl, fun w hS => rfl⟩) hS (fun inv => ?_)
      simp only [Act.put, List.setIfInBounds_toArray, List.set_cons_zero, List.set_cons_succ]
      refine wpAnyS_take_at (i := 4) (v := .bool true) 20 inv rfl rfl (by kernel_rfl) (by kernel_rfl) (by kernel_rfl) (by decide) (by decide) (by kernel_rfl) (by kernel_rfl) (fun _ _ _ h => h) (.inl ⟨rfl, fun w hS => by obtain ⟨h0, h1, h2⟩ := hS; go_simp⟩) hS (fun inv => ?_)
      simp only [Act.put, List.setIfInBounds_toArray, List.set_cons_zero, List.set_cons_succ]
      refine wpAnyS_take_at (i := 5) (v := .bool true) 21 inv rfl rfl (by kernel_rfl) (by kernel_rfl) (by kernel_rfl) (by decide) (by decide) (by kernel_rfl) (by kernel_rfl) (fun _ _ _ h => h) (.inl ⟨rfl, fun w hS => rfl⟩) hS (fun inv => ?_)
      simp only [Act.put, List.setIfInBounds_toArray, List.set_cons_zero, List.set_cons_succ]
      refine wpAnyS_take_at (i := 10) (v := .pointer (some ⟨q, 0, none⟩)) 26 inv rfl rfl (by kernel_rfl) (by kernel_rfl) (by kernel_rfl) (by decide) (by decide) (by kernel_rfl) (by kernel_rfl) (fun _ _ _ h => h) (.inl ⟨rfl, fun w hS => rfl⟩) hS (fun inv => ?_)
      simp only [Act.put, List.setIfInBounds_toArray, List.set_cons_zero, List.set_cons_succ]
      refine wpAnyS_take_at (i := 11) (v := .pointer (some ⟨q, 0, none⟩)) 27 inv rfl rfl (by kernel_rfl) (by kernel_rfl) (by kernel_rfl) (by decide) (by decide) (by kernel_rfl) (by kernel_rfl) (fun _ _ _ h => h) (.inl ⟨rfl, fun w hS => rfl⟩) hS (fun inv => ?_)
      simp only [Act.put, List.setIfInBounds_toArray, List.set_cons_zero, List.set_cons_succ]
      refine wpAnyS_take_at (i := 12) (v := .pointer (some ⟨q, 1, none⟩)) 28 inv rfl rfl (by kernel_rfl) (by kernel_rfl) (by kernel_rfl) (by decide) (by decide) (by kernel_rfl) (by kernel_rfl) (fun _ _ _ h => h) (.inl ⟨rfl, fun w hS => rfl⟩) hS (fun inv => ?_)
      simp only [Act.put, List.setIfInBounds_toArray, List.set_cons_zero, List.set_cons_succ]
      refine wpAnyS_take_at (i := 13) (v := .slice a1 n1 cap1) 29 inv rfl rfl (by kernel_rfl) (by kernel_rfl) (by kernel_rfl) (by decide) (by decide) (by kernel_rfl) (by kernel_rfl) (fun _ _ _ h => h) (.inl ⟨rfl, fun w hS => by obtain ⟨h0, h1, h2⟩ := hS; go_simp⟩) hS (fun inv => ?_)
      simp only [Act.put, List.setIfInBounds_toArray, List.set_cons_zero, List.set_cons_succ]
      refine wpAnyS_take_at (i := 14) (v := .pointer (some ⟨r, 0, none⟩)) 30 inv rfl rfl (by kernel_rfl) (by kernel_rfl) (by kernel_rfl) (by decide) (by decide) (by kernel_rfl) (by kernel_rfl) (fun _ _ _ h => h) (.inl ⟨rfl, fun w hS => rfl⟩) hS (fun inv => ?_)
      simp only [Act.put, List.setIfInBounds_toArray, List.set_cons_zero, List.set_cons_succ]
      refine wpAnyS_take_at (i := 15) (v := .pointer (some ⟨r, 0, none⟩)) 31 inv rfl rfl (by kernel_rfl) (by kernel_rfl) (by kernel_rfl) (by decide) (by decide) (by kernel_rfl) (by kernel_rfl) (fun _ _ _ h => h) (.inl ⟨rfl, fun w hS => rfl⟩) hS (fun inv => ?_)
      simp only [Act.put, List.setIfInBounds_toArray, List.set_cons_zero, List.set_cons_succ]
      refine wpAnyS_take_at (i := 16) (v := .pointer (some ⟨r, 1, none⟩)) 32 inv rfl rfl (by kernel_rfl) (by kernel_rfl) (by kernel_rfl) (by decide) (by decide) (by kernel_rfl) (by kernel_rfl) (fun _ _ _ h => h) (.inl ⟨rfl, fun w hS => rfl⟩) hS (fun inv => ?_)
      simp only [Act.put, List.setIfInBounds_toArray, List.set_cons_zero, List.set_cons_succ]
      refine wpAnyS_take_at (i := 17) (v := .slice a2 n2 cap2) 33 inv rfl rfl (by kernel_rfl) (by kernel_rfl) (by kernel_rfl) (by decide) (by decide) (by kernel_rfl) (by kernel_rfl) (fun _ _ _ h => h) (.inl ⟨rfl, fun w hS => by obtain ⟨h0, h1, h2⟩ := hS; go_simp⟩) hS (fun inv => ?_)
      simp only [Act.put, List.setIfInBounds_toArray, List.set_cons_zero, List.set_cons_succ]
      refine wpAnyS_take_at (i := 6) (v := .pointer (some ⟨r, 0, none⟩)) 22 inv rfl rfl (by kernel_rfl) (by kernel_rfl) (by kernel_rfl) (by decide) (by decide) (by kernel_rfl) (by kernel_rfl) (fun _ _ _ h => h) (.inl ⟨rfl, fun w hS => rfl⟩) hS (fun inv => ?_)
      simp only [Act.put, List.setIfInBounds_toArray, List.set_cons_zero, List.set_cons_succ]
      refine wpAnyS_one (i := 7) inv (by decide) (by kernel_rfl) (fun inv => ?_)
      unfold wpOp
      go_simp
      refine .inl (HBit.out.mono ?_)
      rintro e w1 ⟨rfl, rfl⟩
      refine ⟨hS, ?_⟩
      refine wpAnyS_take_at (i := 8) (v := .bool true) 24 inv rfl rfl (by kernel_rfl) (by kernel_rfl) (by kernel_rfl) (by decide) (by decide) (by kernel_rfl) (by kernel_rfl) (fun _ _ _ h => h) (.inl ⟨rfl, fun w hS => by go_simp⟩) hS (fun inv => ?_)
      simp only [Act.put, List.setIfInBounds_toArray, List.set_cons_zero, List.set_cons_succ]
      refine wpAnyS_take_at (i := 9) (v := .bool true) 25 inv rfl rfl (by kernel_rfl) (by kernel_rfl) (by kernel_rfl) (by decide) (by decide) (by kernel_rfl) (by kernel_rfl) (fun _ _ _ h => h) (.inl ⟨rfl, fun w hS => rfl⟩) hS (fun inv => ?_)
      simp only [Act.put, List.setIfInBounds_toArray, List.set_cons_zero, List.set_cons_succ]
      refine wpAnyS_one (i := 18) inv (by decide) (by kernel_rfl) (fun inv => ?_)
      unfold wpOp
      go_simp
      refine .inl ((HL.out w.drew hl2).mono ?_)
      rintro e w1 ⟨rfl, rfl⟩
      refine ⟨hS, ?_⟩
      refine wpAnyS_one (i := 19) inv (by decide) (by kernel_rfl) (fun inv => ?_)
      unfold wpOp
      go_simp
      refine .inl ((HP.out w.drew hl1).mono ?_)
      rintro e w1 ⟨a3, c3, s3, rfl, g1, g2, g3, g4⟩
      have G1 := Lib.hid g1; clear g1
      have hb4 : Below w.heap.size w w1 := h.drew.trans g4
      refine ⟨HB.out _ hb4, ?_⟩
      refine wpAnyS_tail (by decide) ?_
      refine wpAny_one (i := 20) (by kernel_rfl) ?_
      unfold wpOp
      go_simp
      refine .inl ((big_made _ p v T true a3 s3 c3 (hp.below hb4) g3 G1.out g2 ⟨fun _ => hT0, (fun h => by (cases h))⟩).mono ?_)
      rintro e w2 ⟨rfl, m1, m2⟩
      refine wpAny_one (i := 21) (by kernel_rfl) ?_
      unfold wpOp
      go_simp
      refine .inl (wpAny_done (by kernel_rfl) ?_ _)
      go_wp2
      go_ret
      exact ⟨rfl, m1, (Only.of_below hb4).trans m2 (by simp)⟩
    · have hpar0 : k % 2 = 0 := by omega
      have hT0 : 0 ≤ T := by rw [hT]; exact pow_even hpar0
      rw [hpar0] at hbit
      have HBit := Lib.hid hbit; clear hbit
      clear hT Hb1 hneg hpar hpar0
      have hS : (w.drew.cell? ⟨q, 0, none⟩ = some (.bool true) ∧ w.drew.cell? ⟨q, 1, none⟩ = some (.slice a1 n1 cap1) ∧ w.drew.cell? ⟨r, 1, none⟩ = some (.slice a2 n2 cap2)) := HB.out _ h.drew
      go_enter Tryz.func82, Tryz.ntmps82
      go_wp2_with fail
      refine wp_region_S (n := 20) (S := fun X => X.cell? ⟨q, 0, none⟩ = some (.bool true) ∧ X.cell? ⟨q, 1, none⟩ = some (.slice a1 n1 cap1) ∧ X.cell? ⟨r, 1, none⟩ = some (.slice a2 n2 cap2)) (by kernel_rfl) (by decide) (fun inv => ?_)
      refine wpAnyS_take_at (i := 0) (v := .pointer (some ⟨p, 0, none⟩)) 16 inv rfl rfl (by kernel_rfl) (by kernel_rfl) (by kernel_rfl) (by decide) (by decide) (by kernel_rfl) (by kernel_rfl) (fun _ _ _ h => h) (.inl ⟨rfl, fun w hS => rfl⟩) hS (fun inv => ?_)
      simp only [Act.put, List.setIfInBounds_toArray, List.set_cons_zero, List.set_cons_succ]
      refine wpAnyS_take_at (i := 1) (v := .pointer (some ⟨q, 0, none⟩)) 17 inv rfl rfl (by kernel_rfl) (by kernel_rfl) (by kernel_rfl) (by decide) (by decide) (by kernel_rfl) (by kernel_rfl) (fun _ _ _ h => h) (.inl ⟨rfl, fun w hS => rfl⟩) hS (fun inv => ?_)
      simp only [Act.put, List.setIfInBounds_toArray, List.set_cons_zero, List.set_cons_succ]
      refine wpAnyS_take_at (i := 2) (v := .pointer (some ⟨q, 0, none⟩)) 18 inv rfl rfl (by kernel_rfl) (by kernel_rfl) (by kernel_rfl) (by decide) (by decide) (by kernel_rfl) (by kernel_rfl) (fun _ _ _ h => h) (.inl ⟨rfl, fun w hS => rfl⟩) hS (fun inv => ?_)
      simp only [Act.put, List.setIfInBounds_toArray, List.set_cons_zero, List.set_cons_succ]
      refine wpAnyS_take_at (i := 3) (v := .pointer (some ⟨q, 0, none⟩)) 19 inv rfl rfl (by kernel_rfl) (by kernel_rfl) (by kernel_rfl) (by decide) (by decide) (by kernel_rfl) (by kernel_rfl) (fun _ _ _ h => h) (.inl ⟨rfl, fun w hS => rfl⟩) hS (fun inv => ?_)
      simp only [Act.put, List.setIfInBounds_toArray, List.set_cons_zero, List.set_cons_succ]
      refine wpAnyS_take_at (i := 4) (v := .bool true) 20 inv rfl rfl (by kernel_rfl) (by kernel_rfl) (by kernel_rfl) (by decide) (by decide) (by kernel_rfl) (by kernel_rfl) (fun _ _ _ h => h) (.inl ⟨rfl, fun w hS => by obtain ⟨h0, h1, h2⟩ := hS; go_simp⟩) hS (fun inv => ?_)
      simp only [Act.put, List.setIfInBounds_toArray, List.set_cons_zero, List.set_cons_succ]
      refine wpAnyS_take_at (i := 5) (v := .bool true) 21 inv rfl rfl (by kernel_rfl) (by kernel_rfl) (by kernel_rfl) (by decide) (by decide) (by kernel_rfl) (by kernel_rfl) (fun _ _ _ h => h) (.inl ⟨rfl, fun w hS => rfl⟩) hS (fun inv => ?_)
      simp only [Act.put, List.setIfInBounds_toArray, List.set_cons_zero, List.set_cons_succ]
      refine wpAnyS_take_at (i := 10) (v := .pointer (some ⟨q, 0, none⟩)) 26 inv rfl rfl (by kernel_rfl) (by kernel_rfl) (by kernel_rfl) (by decide) (by decide) (by kernel_rfl) (by kernel_rfl) (fun _ _ _ h => h) (.inl ⟨rfl, fun w hS => rfl⟩) hS (fun inv => ?_)
      simp only [Act.put, List.setIfInBounds_toArray, List.set_cons_zero, List.set_cons_succ]
      refine wpAnyS_take_at (i := 11) (v := .pointer (some ⟨q, 0, none⟩)) 27 inv rfl rfl (by kernel_rfl) (by kernel_rfl) (by kernel_rfl) (by decide) (by decide) (by kernel_rfl) (by kernel_rfl) (fun _ _ _ h => h) (.inl ⟨rfl, fun w hS => rfl⟩) hS (fun inv => ?_)
      simp only [Act.put, List.setIfInBounds_toArray, List.set_cons_zero, List.set_cons_succ]
      refine wpAnyS_take_at (i := 12) (v := .pointer (some ⟨q, 1, none⟩)) 28 inv rfl rfl (by kernel_rfl) (by kernel_rfl) (by kernel_rfl) (by decide) (by decide) (by kernel_rfl) (by kernel_rfl) (fun _ _ _ h => h) (.inl ⟨rfl, fun w hS => rfl⟩) hS (fun inv => ?_)
      simp only [Act.put, List.setIfInBounds_toArray, List.set_cons_zero, List.set_cons_succ]
      refine wpAnyS_take_at (i := 13) (v := .slice a1 n1 cap1) 29 inv rfl rfl (by kernel_rfl) (by kernel_rfl) (by kernel_rfl) (by decide) (by decide) (by kernel_rfl) (by kernel_rfl) (fun _ _ _ h => h) (.inl ⟨rfl, fun w hS => by obtain ⟨h0, h1, h2⟩ := hS; go_simp⟩) hS (fun inv => ?_)
      simp only [Act.put, List.setIfInBounds_toArray, List.set_cons_zero, List.set_cons_succ]
      refine wpAnyS_take_at (i := 14) (v := .pointer (some ⟨r, 0, none⟩)) 30 inv rfl rfl (by kernel_rfl) (by kernel_rfl) (by kernel_rfl) (by decide) (by decide) (by kernel_rfl) (by kernel_rfl) (fun _ _ _ h => h) (.inl ⟨rfl, fun w hS => rfl⟩) hS (fun inv => ?_)
      simp only [Act.put, List.setIfInBounds_toArray, List.set_cons_zero, List.set_cons_succ]
      refine wpAnyS_take_at (i := 15) (v := .pointer (some ⟨r, 0, none⟩)) 31 inv rfl rfl (by kernel_rfl) (by kernel_rfl) (by kernel_rfl) (by decide) (by decide) (by kernel_rfl) (by kernel_rfl) (fun _ _ _ h => h) (.inl ⟨rfl, fun w hS => rfl⟩) hS (fun inv => ?_)
      simp only [Act.put, List.setIfInBounds_toArray, List.set_cons_zero, List.set_cons_succ]
      refine wpAnyS_take_at (i := 16) (v := .pointer (some ⟨r, 1, none⟩)) 32 inv rfl rfl (by kernel_rfl) (by kernel_rfl) (by kernel_rfl) (by decide) (by decide) (by kernel_rfl) (by kernel_rfl) (fun _ _ _ h => h) (.inl ⟨rfl, fun w hS => rfl⟩) hS (fun inv => ?_)
      simp only [Act.put, List.setIfInBounds_toArray, List.set_cons_zero, List.set_cons_succ]
      refine wpAnyS_take_at (i := 17) (v := .slice a2 n2 cap2) 33 inv rfl rfl (by kernel_rfl) (by kernel_rfl) (by kernel_rfl) (by decide) (by decide) (by kernel_rfl) (by kernel_rfl) (fun _ _ _ h => h) (.inl ⟨rfl, fun w hS => by obtain ⟨h0, h1, h2⟩ := hS; go_simp⟩) hS (fun inv => ?_)
      simp only [Act.put, List.setIfInBounds_toArray, List.set_cons_zero, List.set_cons_succ]
      refine wpAnyS_take_at (i := 6) (v := .pointer (some ⟨r, 0, none⟩)) 22 inv rfl rfl (by kernel_rfl) (by kernel_rfl) (by kernel_rfl) (by decide) (by decide) (by kernel_rfl) (by kernel_rfl) (fun _ _ _ h => h) (.inl ⟨rfl, fun w hS => rfl⟩) hS (fun inv => ?_)
      simp only [Act.put, List.setIfInBounds_toArray, List.set_cons_zero, List.set_cons_succ]
      refine wpAnyS_one (i := 7) inv (by decide) (by kernel_rfl) (fun inv => ?_)
      unfold wpOp
      go_simp
      refine .inl (HBit.out.mono ?_)
      rintro e w1 ⟨rfl, rfl⟩
      refine ⟨hS, ?_⟩
      refine wpAnyS_take_at (i := 8) (v := .bool false) 24 inv rfl rfl (by kernel_rfl) (by kernel_rfl) (by kernel_rfl) (by decide) (by decide) (by kernel_rfl) (by kernel_rfl) (fun _ _ _ h => h) (.inl ⟨rfl, fun w hS => by go_simp⟩) hS (fun inv => ?_)
      simp only [Act.put, List.setIfInBounds_toArray, List.set_cons_zero, List.set_cons_succ]
      refine wpAnyS_take_at (i := 9) (v := .bool false) 25 inv rfl rfl (by kernel_rfl) (by kernel_rfl) (by kernel_rfl) (by decide) (by decide) (by kernel_rfl) (by kernel_rfl) (fun _ _ _ h => h) (.inl ⟨rfl, fun w hS => rfl⟩) hS (fun inv => ?_)
      simp only [Act.put, List.setIfInBounds_toArray, List.set_cons_zero, List.set_cons_succ]
      refine wpAnyS_one (i := 18) inv (by decide) (by kernel_rfl) (fun inv => ?_)
      unfold wpOp
      go_simp
      refine .inl ((HL.out w.drew hl2).mono ?_)
      rintro e w1 ⟨rfl, rfl⟩
      refine ⟨hS, ?_⟩
      refine wpAnyS_one (i := 19) inv (by decide) (by kernel_rfl) (fun inv => ?_)
      unfold wpOp
      go_simp
      refine .inl ((HP.out w.drew hl1).mono ?_)
      rintro e w1 ⟨a3, c3, s3, rfl, g1, g2, g3, g4⟩
      have G1 := Lib.hid g1; clear g1
      have hb4 : Below w.heap.size w w1 := h.drew.trans g4
      refine ⟨HB.out _ hb4, ?_⟩
      refine wpAnyS_tail (by decide) ?_
      refine wpAny_one (i := 20) (by kernel_rfl) ?_
      unfold wpOp
      go_simp
      refine .inl ((big_made _ p v T false a3 s3 c3 (hp.below hb4) g3 G1.out g2 ⟨(fun h => by (cases h)), fun _ => hT0⟩).mono ?_)
      rintro e w2 ⟨rfl, m1, m2⟩
      refine wpAny_one (i := 21) (by kernel_rfl) ?_
      unfold wpOp
      go_simp
      refine .inl (wpAny_done (by kernel_rfl) ?_ _)
      go_wp2
      go_ret
      exact ⟨rfl, m1, (Only.of_below hb4).trans m2 (by simp)⟩
  · have hb : b1 = false := by rw [Hb1.out]; simpa using hneg
    subst hb
    have hT0 : 0 ≤ T := by rw [hT]; exact Int.pow_nonneg (by omega)
    clear hT Hb1 hneg
    have hS : (w.drew.cell? ⟨q, 0, none⟩ = some (.bool false) ∧ w.drew.cell? ⟨q, 1, none⟩ = some (.slice a1 n1 cap1) ∧ w.drew.cell? ⟨r, 1, none⟩ = some (.slice a2 n2 cap2)) := HB.out _ h.drew
    go_enter Tryz.func82, Tryz.ntmps82
    go_wp2_with fail
    refine wp_region_S (n := 20) (S := fun X => X.cell? ⟨q, 0, none⟩ = some (.bool false) ∧ X.cell? ⟨q, 1, none⟩ = some (.slice a1 n1 cap1) ∧ X.cell? ⟨r, 1, none⟩ = some (.slice a2 n2 cap2)) (by kernel_rfl) (by decide) (fun inv => ?_)
    refine wpAnyS_take_at (i := 0) (v := .pointer (some ⟨p, 0, none⟩)) 16 inv rfl rfl (by kernel_rfl) (by kernel_rfl) (by kernel_rfl) (by decide) (by decide) (by kernel_rfl) (by kernel_rfl) (fun _ _ _ h => h) (.inl ⟨rfl, fun w hS => rfl⟩) hS (fun inv => ?_)
    simp only [Act.put, List.setIfInBounds_toArray, List.set_cons_zero, List.set_cons_succ]
    refine wpAnyS_take_at (i := 1) (v := .pointer (some ⟨q, 0, none⟩)) 17 inv rfl rfl (by kernel_rfl) (by kernel_rfl) (by kernel_rfl) (by decide) (by decide) (by kernel_rfl) (by kernel_rfl) (fun _ _ _ h => h) (.inl ⟨rfl, fun w hS => rfl⟩) hS (fun inv => ?_)
    simp only [Act.put, List.setIfInBounds_toArray, List.set_cons_zero, List.set_cons_succ]
    refine wpAnyS_take_at (i := 2) (v := .pointer (some ⟨q, 0, none⟩)) 18 inv rfl rfl (by kernel_rfl) (by kernel_rfl) (by kernel_rfl) (by decide) (by decide) (by kernel_rfl) (by kernel_rfl) (fun _ _ _ h => h) (.inl ⟨rfl, fun w hS => rfl⟩) hS (fun inv => ?_)
    simp only [Act.put, List.setIfInBounds_toArray, List.set_cons_zero, List.set_cons_succ]
    refine wpAnyS_take_at (i := 3) (v := .pointer (some ⟨q, 0, none⟩)) 19 inv rfl rfl (by kernel_rfl) (by kernel_rfl) (by kernel_rfl) (by decide) (by decide) (by kernel_rfl) (by kernel_rfl) (fun _ _ _ h => h) (.inl ⟨rfl, fun w hS => rfl⟩) hS (fun inv => ?_)
    simp only [Act.put, List.setIfInBounds_toArray, List.set_cons_zero, List.set_cons_succ]
    refine wpAnyS_take_at (i := 4) (v := .bool false) 20 inv rfl rfl (by kernel_rfl) (by kernel_rfl) (by kernel_rfl) (by decide) (by decide) (by kernel_rfl) (by kernel_rfl) (fun _ _ _ h => h) (.inl ⟨rfl, fun w hS => by obtain ⟨h0, h1, h2⟩ := hS; go_simp⟩) hS (fun inv => ?_)
    simp only [Act.put, List.setIfInBounds_toArray, List.set_cons_zero, List.set_cons_succ]
    refine wpAnyS_take_at (i := 5) (v := .bool false) 21 inv rfl rfl (by kernel_rfl) (by kernel_rfl) (by kernel_rfl) (by decide) (by decide) (by kernel_rfl) (by kernel_rfl) (fun _ _ _ h => h) (.inl ⟨rfl, fun w hS => rfl⟩) hS (fun inv => ?_)
    simp only [Act.put, List.setIfInBounds_toArray, List.set_cons_zero, List.set_cons_succ]
    refine wpAnyS_take_at (i := 10) (v := .pointer (some ⟨q, 0, none⟩)) 26 inv rfl rfl (by kernel_rfl) (by kernel_rfl) (by kernel_rfl) (by decide) (by decide) (by kernel_rfl) (by kernel_rfl) (fun _ _ _ h => h) (.inl ⟨rfl, fun w hS => rfl⟩) hS (fun inv => ?_)
    simp only [Act.put, List.setIfInBounds_toArray, List.set_cons_zero, List.set_cons_succ]
    refine wpAnyS_take_at (i := 11) (v := .pointer (some ⟨q, 0, none⟩)) 27 inv rfl rfl (by kernel_rfl) (by kernel_rfl) (by kernel_rfl) (by decide) (by decide) (by kernel_rfl) (by kernel_rfl) (fun _ _ _ h => h) (.inl ⟨rfl, fun w hS => rfl⟩) hS (fun inv => ?_)
    simp only [Act.put, List.setIfInBounds_toArray, List.set_cons_zero, List.set_cons_succ]
    refine wpAnyS_take_at (i := 12) (v := .pointer (some ⟨q, 1, none⟩)) 28 inv rfl rfl (by kernel_rfl) (by kernel_rfl) (by kernel_rfl) (by decide) (by decide) (by kernel_rfl) (by kernel_rfl) (fun _ _ _ h => h) (.inl ⟨rfl, fun w hS => rfl⟩) hS (fun inv => ?_)
    simp only [Act.put, List.setIfInBounds_toArray, List.set_cons_zero, List.set_cons_succ]
    refine wpAnyS_take_at (i := 13) (v := .slice a1 n1 cap1) 29 inv rfl rfl (by kernel_rfl) (by kernel_rfl) (by kernel_rfl) (by decide) (by decide) (by kernel_rfl) (by kernel_rfl) (fun _ _ _ h => h) (.inl ⟨rfl, fun w hS => by obtain ⟨h0, h1, h2⟩ := hS; go_simp⟩) hS (fun inv => ?_)
    simp only [Act.put, List.setIfInBounds_toArray, List.set_cons_zero, List.set_cons_succ]
    refine wpAnyS_take_at (i := 14) (v := .pointer (some ⟨r, 0, none⟩)) 30 inv rfl rfl (by kernel_rfl) (by kernel_rfl) (by kernel_rfl) (by decide) (by decide) (by kernel_rfl) (by kernel_rfl) (fun _ _ _ h => h) (.inl ⟨rfl, fun w hS => rfl⟩) hS (fun inv => ?_)
    simp only [Act.put, List.setIfInBounds_toArray, List.set_cons_zero, List.set_cons_succ]
    refine wpAnyS_take_at (i := 15) (v := .pointer (some ⟨r, 0, none⟩)) 31 inv rfl rfl (by kernel_rfl) (by kernel_rfl) (by kernel_rfl) (by decide) (by decide) (by kernel_rfl) (by kernel_rfl) (fun _ _ _ h => h) (.inl ⟨rfl, fun w hS => rfl⟩) hS (fun inv => ?_)
    simp only [Act.put, List.setIfInBounds_toArray, List.set_cons_zero, List.set_cons_succ]
    refine wpAnyS_take_at (i := 16) (v := .pointer (some ⟨r, 1, none⟩)) 32 inv rfl rfl (by kernel_rfl) (by kernel_rfl) (by kernel_rfl) (by decide) (by decide) (by kernel_rfl) (by kernel_rfl) (fun _ _ _ h => h) (.inl ⟨rfl, fun w hS => rfl⟩) hS (fun inv => ?_)
    simp only [Act.put, List.setIfInBounds_toArray, List.set_cons_zero, List.set_cons_succ]
    refine wpAnyS_take_at (i := 17) (v := .slice a2 n2 cap2) 33 inv rfl rfl (by kernel_rfl) (by kernel_rfl) (by kernel_rfl) (by decide) (by decide) (by kernel_rfl) (by kernel_rfl) (fun _ _ _ h => h) (.inl ⟨rfl, fun w hS => by obtain ⟨h0, h1, h2⟩ := hS; go_simp⟩) hS (fun inv => ?_)
    simp only [Act.put, List.setIfInBounds_toArray, List.set_cons_zero, List.set_cons_succ]
    refine wpAnyS_take_at (i := 6) (v := undef) 22 inv rfl rfl (by kernel_rfl) (by kernel_rfl) (by kernel_rfl) (by decide) (by decide) (by kernel_rfl) (by kernel_rfl) (fun _ _ _ h => h) (.inr ⟨rfl, rfl⟩) hS (fun inv => ?_)
    simp only [Act.put, List.setIfInBounds_toArray, List.set_cons_zero, List.set_cons_succ]
    refine wpAnyS_take_at (i := 7) (v := undef) 23 inv rfl rfl (by kernel_rfl) (by kernel_rfl) (by kernel_rfl) (by decide) (by decide) (by kernel_rfl) (by kernel_rfl) (fun _ _ _ h => h) (.inr ⟨rfl, rfl⟩) hS (fun inv => ?_)
    simp only [Act.put, List.setIfInBounds_toArray, List.set_cons_zero, List.set_cons_succ]
    refine wpAnyS_take_at (i := 8) (v := undef) 24 inv rfl rfl (by kernel_rfl) (by kernel_rfl) (by kernel_rfl) (by decide) (by decide) (by kernel_rfl) (by kernel_rfl) (fun _ _ _ h => h) (.inr ⟨rfl, rfl⟩) hS (fun inv => ?_)
    simp only [Act.put, List.setIfInBounds_toArray, List.set_cons_zero, List.set_cons_succ]
    refine wpAnyS_take_at (i := 9) (v := .bool false) 25 inv rfl rfl (by kernel_rfl) (by kernel_rfl) (by kernel_rfl) (by decide) (by decide) (by kernel_rfl) (by kernel_rfl) (fun _ _ _ h => h) (.inl ⟨rfl, fun w hS => rfl⟩) hS (fun inv => ?_)
    simp only [Act.put, List.setIfInBounds_toArray, List.set_cons_zero, List.set_cons_succ]
    refine wpAnyS_one (i := 18) inv (by decide) (by kernel_rfl) (fun inv => ?_)
    unfold wpOp
    go_simp
    refine .inl ((HL.out w.drew hl2).mono ?_)
    rintro e w1 ⟨rfl, rfl⟩
    refine ⟨hS, ?_⟩
    refine wpAnyS_one (i := 19) inv (by decide) (by kernel_rfl) (fun inv => ?_)
    unfold wpOp
    go_simp
    refine .inl ((HP.out w.drew hl1).mono ?_)
    rintro e w1 ⟨a3, c3, s3, rfl, g1, g2, g3, g4⟩
    have G1 := Lib.hid g1; clear g1
    have hb4 : Below w.heap.size w w1 := h.drew.trans g4
    refine ⟨HB.out _ hb4, ?_⟩
    refine wpAnyS_tail (by decide) ?_
    refine wpAny_one (i := 20) (by kernel_rfl) ?_
    unfold wpOp
    go_simp
    refine .inl ((big_made _ p v T false a3 s3 c3 (hp.below hb4) g3 G1.out g2 ⟨(fun h => by (cases h)), fun _ => hT0⟩).mono ?_)
    rintro e w2 ⟨rfl, m1, m2⟩
    refine wpAny_one (i := 21) (by kernel_rfl) ?_
    unfold wpOp
    go_simp
    refine .inl (wpAny_done (by kernel_rfl) ?_ _)
    go_wp2
    go_ret
    exact ⟨rfl, m1, (Only.of_below hb4).trans m2 (by simp)⟩

end Go.Proofs.YtbffpkmfhkphdaaGreatDoor

namespace Go.Proofs.YtbffpkmfhkphdaaGreatDoor
open Go Go.RowKit Limb

theorem at_expnil {w1 X : World} {l : List (Nat × Int)} {p q r : Nat} {v x : Int} {k : Nat} (h : At w1 X l) (hp : (p, v) ∈ l) (hq : (q, x) ∈ l) (hr : (r, (k : Int)) ∈ l) (hx : x ≠ 0) (hk : k < 18446744073709551616) (lx : (rep x.natAbs).length ≤ 68719476736) (lT : (rep (x ^ k).natAbs).length ≤ 68719476736) :
    Calls Tryz.prog 82 #[.pointer (some ⟨p, 0, none⟩), .pointer (some ⟨q, 0, none⟩), .pointer (some ⟨r, 0, none⟩), .pointer none] X fun e X' => e = .returned (.pointer (some ⟨p, 0, none⟩)) ∧ At w1 X' (upd l p (x ^ k)) := by
  refine (int_expnil X p q r v x k (h.ints _ hp).1 (h.ints _ hq).1 (h.ints _ hr).1 hx hk lx lT).mono ?_
  rintro e X' ⟨rfl, h1, h2⟩
  exact ⟨rfl, h.set hp h2 h1⟩

theorem signed_abs (neg : Bool) (n : Nat) : (signed neg n).natAbs = n := by unfold signed; split <;> omega
theorem bits_two {x : Nat} (h : 2 ≤ x) : 2 ≤ bitsN x := by
  rcases Nat.lt_or_ge (bitsN x) 2 with h1 | h1
  · have : x < 2 ^ 1 := bitsN_le.1 (by omega)
    omega
  · exact h1
theorem pow_lt_W {E M : Nat} (h : E < 32 * M) : 2 ^ E < Limb.W M := by rw [W_two]; exact Nat.pow_lt_pow_right (by decide) h
theorem pow_bits {x k B : Nat} (hB : B = bitsN x) (hB0 : 1 ≤ B) (hk : (B - 1) * k ≤ 32768) (hk2 : k ≤ 32768) : (rep (x ^ k)).length ≤ 68719476736 := by
  rw [rep_length_le]
  have h1 : x < 2 ^ B := by rw [hB]; exact bitsN_le.1 (Nat.le_refl _)
  have h2 : x ^ k ≤ (2 ^ B) ^ k := Nat.pow_le_pow_left (Nat.le_of_lt h1) k
  rw [← Nat.pow_mul] at h2
  have h3 : B * k ≤ 65536 := by
    have : B * k = (B - 1) * k + k := by rw [← Nat.succ_mul]; congr 1; omega
    omega
  obtain ⟨E, hE, hE2⟩ : ∃ E, B * k ≤ E ∧ E < 32 * 68719476736 := ⟨65536, h3, by decide⟩
  have h4 : 2 ^ (B * k) ≤ 2 ^ E := Nat.pow_le_pow_right (by decide) hE
  have h5 : 2 ^ E < Limb.W 68719476736 := pow_lt_W hE2
  exact Nat.lt_of_le_of_lt h2 (Nat.lt_of_le_of_lt h4 h5)

/-- What every answer looks like, read at a later world. -/
theorem at_narrow_shape {w1 X : World} {l : List (Nat × Int)} {p : Nat} {z : Int} (h : At w1 X l) (hp : (p, z) ∈ l) (hs : (rep z.natAbs).length ≤ 68719476736) :
    Calls Tryz.prog 62 #[.pointer (some ⟨p, 0, none⟩)] X fun e X' => (∃ b a n c k, e = .returned (.tuple #[.agg #[.bool b, .slice a n c], .int .i64 k]) ∧
      (∀ w0 w2, Below w0.heap.size w0 w2 → (∀ l, Lay .u32 X' a l → Lay .u32 w2 a l) → Answer true w0 w2 e z)) ∧ At w1 X' l := by
  refine (large_narrow X p z (h.ints _ hp).1 hs).mono ?_
  rintro e X' ha
  have hb := ha.1
  obtain ⟨b, a, n, c, k, h1, _, h2⟩ := (Answer.yes ha).shape
  exact ⟨⟨b, a, n, c, k, h1, h2⟩, h.next hb⟩

set_option maxHeartbeats 1600000 in
set_option maxRecDepth 1000000 in
theorem large_pow_big (w : World) (neg : Bool) (a : Option Addr) (l : List Nat) (n cap k : Nat) (x : Int) (hlay : Lay .u32 w a l) (hlim : Lim l) (hn : n = l.length) (hmay : mayB neg l = true)
    (hx : x = signed neg (val l)) (hx2 : 2 ≤ x.natAbs) (hk0 : 1 ≤ k) (hk1 : k ≤ 32768) (hk : (bitsN x.natAbs - 1) * k ≤ 32768) :
    Calls Tryz.prog 17 #[.agg #[.bool neg, .slice a n cap], .int .i64 k] w fun e w' => Answer true w w' e (x ^ k) := by
  obtain ⟨W, hWe, r0, r1, hW, hsz⟩ := rows2 w 24 (.bool neg) (.slice a n cap) (.bool false) (.slice none 0 0)
  have HWe := Lib.hid hWe; clear hWe
  have hn10 : n ≤ 1024 := by rw [hn]; exact (mayB_int hlim hmay).2.2
  have hM := large_May W neg a l n cap (hlay.below hW) hlim hn (by omega)
  rw [hmay] at hM
  have HM := Lib.hid hM; clear hM
  have hWd := fun (w1 : World) (hb : Below W.heap.size W w1) => at_wide (At.refl w1) neg a l n cap (hlay.below (hW.trans (hb.mono hW.size))) hlim hn (by omega)
  rw [← hx] at hWd
  have HWd := Lib.hid hWd; clear hWd
  have lx : (rep x.natAbs).length ≤ 1024 := by rw [hx, signed_abs]; exact Nat.le_trans (rep_val_le hlim) (by omega)
  have lx' : (rep x.natAbs).length ≤ 68719476736 := Nat.le_trans lx (by decide)
  obtain ⟨B, hB⟩ : ∃ B, B = bitsN x.natAbs := ⟨_, rfl⟩
  have hBL := fun X p (h : IntAt X p x) => int_bitlen X p x h lx'
  rw [← hB] at hBL hk
  have HBL := Lib.hid hBL; clear hBL
  have B2 : 2 ≤ B := by rw [hB]; exact bits_two hx2
  have lT : (rep (x ^ k).natAbs).length ≤ 68719476736 := by rw [Int.natAbs_pow]; exact pow_bits hB (by omega) hk hk1
  have B3 : B ≤ 32769 := by have := Nat.mul_le_mul_left (B - 1) hk0; omega
  have hx0 : x ≠ 0 := by omega
  obtain ⟨C, hC⟩ : ∃ C, B = C + 1 := ⟨B - 1, by omega⟩
  obtain ⟨t, ht⟩ : ∃ t, t = C * k := ⟨_, rfl⟩
  have t1 : t ≤ 32768 := by rw [ht]; rw [hC, Nat.add_sub_cancel] at hk; exact hk
  have et : ((C : Nat) : Int) * (k : Int) = (t : Int) := by rw [ht, Int.natCast_mul]
  have hx0' := Lib.hid hx0
  clear hB hk hx2 hx hx0 hn hmay hlim ht
  subst hC
  have q1 : ((k : Int) == 0) = false := by rw [beq_eq_false_iff_ne]; omega
  have q2 : (((C + 1 : Nat) : Int) == 0) = false := by rw [beq_eq_false_iff_ne]; omega
  have q3 : (((C + 1 : Nat) : Int) == 1) = false := by rw [beq_eq_false_iff_ne]; omega
  have q4 : decide (32768 < k) = false := by rw [decide_eq_false_iff_not]; omega
  have q5 : decide (32768 < t) = false := by rw [decide_eq_false_iff_not]; omega
  have q6 : ((C + 1 : Nat) : Int) - 1 = (C : Int) := by omega
  have q7 : ((C : Int) + 1 == 0) = false := by rw [beq_eq_false_iff_ne]; omega
  have q8 : ((C : Int) + 1 == 1) = false := by rw [beq_eq_false_iff_ne]; omega
  go_enter Tryz.func17, Tryz.ntmps17
  go_wp2_with fail
  rw [← HWe.out]
  refine HM.out.mono ?_
  rintro e w1 ⟨rfl, hb1⟩
  have p0 := r0.below hb1 r0.lt
  have p1 := r1.below hb1 r1.lt
  have c0 := p0.cell_at 0
  have c1 := p0.cell_at 1
  simp only [List.getElem?_cons_zero, List.getElem?_cons_succ] at c0 c1
  go_wp2_with fail
  refine (HWd.out w1 hb1).mono ?_
  rintro e w2 ⟨p, rfl, h2⟩
  go_wp2_with fail
  refine (HBL.out w2 p (h2.ints _ (.head _)).1).mono ?_
  rintro e w2' ⟨rfl, rfl⟩
  go_wp2_with fail
  refine (at_newint h2 (k : Int) (by omega) (by omega)).mono ?_
  rintro e w3 ⟨r, rfl, h3⟩
  go_wp2_with fail
  refine (at_expnil h3 (.tail _ (.head _)) (.tail _ (.head _)) (.head _) hx0'.out (by omega) lx' lT).mono ?_
  rintro e w4 ⟨rfl, h4⟩
  go_wp2_with fail
  refine (at_narrow_shape h4 (mem_upd _ (.tail _ (.head _))) lT).mono ?_
  rintro e w5 ⟨⟨b', a', n', c', k', rfl, hnext⟩, h5⟩
  have HN := Lib.hid hnext; clear hnext
  have hB1 : Below w.heap.size w w5 := hW.trans ((hb1.trans (h5.below.mono hb1.size)).mono hW.size)
  have hR := p1.below h5.below p1.lt
  have k0 := hR.cell_at 0
  have k1 := hR.cell_at 1
  have k2 := hR.free 0
  have k3 := hR.free 1
  simp only [List.getElem?_cons_zero, List.getElem?_cons_succ] at k0 k1
  have e0 : (w5.setCell ⟨w.heap.size + 1, 0, none⟩ (.bool b')).cell? ⟨w.heap.size + 1, 0, none⟩ = some (.bool b') := (hR.store_any 0 _).cell_at 0
  have e1 : ((w5.setCell ⟨w.heap.size + 1, 0, none⟩ (.bool b')).setCell ⟨w.heap.size + 1, 1, none⟩ (.slice a' n' c')).cell? ⟨w.heap.size + 1, 1, none⟩ = some (.slice a' n' c') := ((hR.store_any 0 _).store_any 1 _).cell_at 1
  have HF := Lib.hid (below_store (below_store hB1 (g := w.heap.size + 1) (i := 0) (by omega) (.bool b')) (g := w.heap.size + 1) (i := 1) (by omega) (.slice a' n' c'))
  go_wp2
  (try simp only [Exit.inBlock, Exit.then])
  refine bodyPost_ret (v := .tuple #[.agg #[.bool b', .slice a' n' c'], .int .i64 k']) (by simp [results, Tryz.results17, go_sem, e0, e1]) rfl ?_
  exact HN.out _ _ HF.out (fun l hl => hl.pair hR _ _)

end Go.Proofs.YtbffpkmfhkphdaaGreatDoor
