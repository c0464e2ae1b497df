/- The walk of (*Int).Exp of package big with no modulus. -/
import Derived.Test.YtbffpkmfhkphdaaGreatDoorGX25
import Derived.Test.YtbffpkmfhkphdaaGreatDoorGX00
set_option linter.unusedVariables false
set_option linter.unusedSimpArgs false
namespace Go.Proofs.YtbffpkmfhkphdaaGreatDoor
open Go Go.RowKit Limb

theorem pow_even {x : Int} {k : Nat} (h : k % 2 = 0) : 0 ≤ x ^ k := by
  rw [show k = 2 * (k / 2) from by omega, Int.pow_mul]
  exact Int.pow_nonneg (by rw [Int.pow_succ, Int.pow_succ, Int.pow_zero, Int.one_mul]; rcases Int.le_total 0 x with h | h; exact Int.mul_nonneg h h; exact Int.mul_nonneg_of_nonpos_of_nonpos h h)
theorem pow_neg_odd {x : Int} {k : Nat} (hx : x < 0) (h : k % 2 = 1) : x ^ k ≤ 0 := by
  rw [show k = (k - 1) + 1 from by omega, Int.pow_succ]
  exact Int.mul_nonpos_of_nonneg_of_nonpos (pow_even (by omega)) (by omega)

set_option maxHeartbeats 4000000 in
set_option maxRecDepth 100000 in
theorem int_expnil (w : World) (p q r : Nat) (v x : Int) (k : Nat) (hp : IntAt w p v) (hq : IntAt w q x) (hr : IntAt w r (k : Int)) (hx : x ≠ 0) (hk : k < 18446744073709551616) (lx : (rep x.natAbs).length ≤ 68719476736) (lT : (rep (x ^ k).natAbs).length ≤ 68719476736) :
    Calls Tryz.prog 82 #[.pointer (some ⟨p, 0, none⟩), .pointer (some ⟨q, 0, none⟩), .pointer (some ⟨r, 0, none⟩), .pointer none] w fun e w' => IntRes w w' e p (x ^ k) := by
  obtain ⟨b1, a1, n1, cap1, Hb1, Hn1, hc1, hl1, hcells1⟩ := hq.use
  obtain ⟨b2, a2, n2, cap2, Hb2, Hn2, hc2, hl2, hcells2⟩ := hr.use
  have epow : (x ^ k).natAbs = x.natAbs ^ k := Int.natAbs_pow x k
  have hB : ∀ X, Below w.heap.size w X → X.cell? ⟨q, 0, none⟩ = some (.bool b1) ∧ X.cell? ⟨q, 1, none⟩ = some (.slice a1 n1 cap1) ∧ X.cell? ⟨r, 1, none⟩ = some (.slice a2 n2 cap2) := fun X h =>
    ⟨(hcells1 X (Only.of_below h)).1, (hcells1 X (Only.of_below h)).2, (hcells2 X (Only.of_below h)).2⟩
  have HB := Lib.hid hB; clear hB hcells1 hcells2
  have l2 : n2 ≤ 9223372036854775807 := by
    rw [Hn2.out]; refine Nat.le_trans (rep_length_le.mpr ?_) (by decide : 2 ≤ 9223372036854775807)
    rw [show Limb.W 2 = 18446744073709551616 from by decide]; omega
  have hlow := fun X h => big_low X a2 (rep (k : Int).natAbs) n2 cap2 h (rep_lim _) Hn2.out l2
  rw [val_rep, show (k : Int).natAbs % 18446744073709551616 = k from by omega] at hlow
  have HL := Lib.hid hlow; clear hlow
  have hpow := fun X h => big_power X a1 n1 cap1 x.natAbs k h Hn1.out hc1 (by omega) hk (by rw [← epow]; exact lT) lx
  rw [← epow] at hpow
  have HP := Lib.hid hpow; clear hpow
  obtain ⟨T, hT⟩ : ∃ T, T = x ^ k := ⟨_, rfl⟩
  rw [← hT] at HP ⊢
  clear epow lT
  have h := Below.refl w.heap.size w
  obtain ⟨k0, k1, k2⟩ := HB.out w h
  by_cases hneg : x < 0
  · have hb : b1 = true := by rw [Hb1.out]; simpa using hneg
    subst hb
    have hbit := int_bit w.drew r 0 (k : Int) (hr.drewN 1) (by omega)
    rw [show (k : Int).natAbs / 2 ^ 0 % 2 = k % 2 from by rw [Nat.pow_zero, Nat.div_one]; omega] at hbit
    by_cases hpar : k % 2 = 1
    · have hT0 : T ≤ 0 := by rw [hT]; exact pow_neg_odd hneg hpar
      rw [hpar] at hbit
      have HBit := Lib.hid hbit; clear hbit
      clear hT Hb1 hneg hpar
      have hS : (w.drew.cell? ⟨q, 0, none⟩ = some (.bool true) ∧ w.drew.cell? ⟨q, 1, none⟩ = some (.slice a1 n1 cap1) ∧ w.drew.cell? ⟨r, 1, none⟩ = some (.slice a2 n2 cap2)) := HB.out _ h.drew
      go_enter Tryz.func82, Tryz.ntmps82
      go_wp2_with fail
      refine wp_region_S (n := 20) (S := fun X => X.cell? ⟨q, 0, none⟩ = some (.bool true) ∧ X.cell? ⟨q, 1, none⟩ = some (.slice a1 n1 cap1) ∧ X.cell? ⟨r, 1, none⟩ = some (.slice a2 n2 cap2)) (by kernel_rfl) (by decide) (fun inv => ?_)
      refine wpAnyS_take_at (i := 0) (v := .pointer (some ⟨p, 0, none⟩)) 16 inv rfl rfl (by kernel_rfl) (by kernel_rfl) (by kernel_rfl) (by decide) (by decide) (by kernel_rfl) (by kernel_rfl) (fun _ _ _ h => h) (.inl ⟨rfl, fun w hS => rfl⟩) hS (fun inv => ?_)
      simp only [Act.put, List.setIfInBounds_toArray, List.set_cons_zero, List.set_cons_succ]
      refine wpAnyS_take_at (i := 1) (v := .pointer (some ⟨q, 0, none⟩)) 17 inv rfl rfl (by kernel_rfl) (by kernel_rfl) (by kernel_rfl) (by decide) (by decide) (by kernel_rfl) (by kernel_rfl) (fun _ _ _ h => h) (.inl ⟨rfl, fun w hS => rfl⟩) hS (fun inv => ?_)
      simp only [Act.put, List.setIfInBounds_toArray, List.set_cons_zero, List.set_cons_succ]
      refine wpAnyS_take_at (i := 2) (v := .pointer (some ⟨q, 0, none⟩)) 18 inv rfl rfl (by kernel_rfl) (by kernel_rfl) (by kernel_rfl) (by decide) (by decide) (by kernel_rfl) (by kernel_rfl) (fun _ _ _ h => h) (.inl ⟨rfl, fun w hS => rfl⟩) hS (fun inv => ?_)
      simp only [Act.put, List.setIfInBounds_toArray, List.set_cons_zero, List.set_cons_succ]
      refine wpAnyS_take_at (i := 3) (v := .pointer (some ⟨q, 0, none⟩)) 19 inv rfl rfl (by kernel_rfl) (by kernel_rfl) (by kernel_rfl) (by decide) (by decide) (by kernel_rfl) (by kernel_rfl) (fun _ _ _ h => h) (.inl ⟨rfl, fun w hS => rfl⟩) hS (fun inv => ?_)
      simp only [Act.put, List.setIfInBounds_toArray, List.set_cons_zero, List.set_cons_succ]
      refine wpAnyS_take_at (i := 4) (v := .bool true) 20 inv rfl rfl (by kernel_rfl) (by kernel_rfl) (by kernel_rfl) (by decide) (by decide) (by kernel_rfl) (by kernel_rfl) (fun _ _ _ h => h) (.inl ⟨rfl, fun w hS => by obtain ⟨h0, h1, h2⟩ := hS; go_simp⟩) hS (fun inv => ?_)
      simp only [Act.put, List.setIfInBounds_toArray, List.set_cons_zero, List.set_cons_succ]
      refine wpAnyS_take_at (i := 5) (v := .bool true) 21 inv rfl rfl (by kernel_rfl) (by kernel_rfl) (by kernel_rfl) (by decide) (by decide) (by kernel_rfl) (by kernel_rfl) (fun _ _ _ h => h) (.inl ⟨rfl, fun w hS => rfl⟩) hS (fun inv => ?_)
      simp only [Act.put, List.setIfInBounds_toArray, List.set_cons_zero, List.set_cons_succ]
      refine wpAnyS_take_at (i := 10) (v := .pointer (some ⟨q, 0, none⟩)) 26 inv rfl rfl (by kernel_rfl) (by kernel_rfl) (by kernel_rfl) (by decide) (by decide) (by kernel_rfl) (by kernel_rfl) (fun _ _ _ h => h) (.inl ⟨rfl, fun w hS => rfl⟩) hS (fun inv => ?_)
      simp only [Act.put, List.setIfInBounds_toArray, List.set_cons_zero, List.set_cons_succ]
      refine wpAnyS_take_at (i := 11) (v := .pointer (some ⟨q, 0, none⟩)) 27 inv rfl rfl (by kernel_rfl) (by kernel_rfl) (by kernel_rfl) (by decide) (by decide) (by kernel_rfl) (by kernel_rfl) (fun _ _ _ h => h) (.inl ⟨rfl, fun w hS => rfl⟩) hS (fun inv => ?_)
      simp only [Act.put, List.setIfInBounds_toArray, List.set_cons_zero, List.set_cons_succ]
      refine wpAnyS_take_at (i := 12) (v := .pointer (some ⟨q, 1, none⟩)) 28 inv rfl rfl (by kernel_rfl) (by kernel_rfl) (by kernel_rfl) (by decide) (by decide) (by kernel_rfl) (by kernel_rfl) (fun _ _ _ h => h) (.inl ⟨rfl, fun w hS => rfl⟩) hS (fun inv => ?_)
      simp only [Act.put, List.setIfInBounds_toArray, List.set_cons_zero, List.set_cons_succ]
      refine wpAnyS_take_at (i := 13) (v := .slice a1 n1 cap1) 29 inv rfl rfl (by kernel_rfl) (by kernel_rfl) (by kernel_rfl) (by decide) (by decide) (by kernel_rfl) (by kernel_rfl) (fun _ _ _ h => h) (.inl ⟨rfl, fun w hS => by obtain ⟨h0, h1, h2⟩ := hS; go_simp⟩) hS (fun inv => ?_)
      simp only [Act.put, List.setIfInBounds_toArray, List.set_cons_zero, List.set_cons_succ]
      refine wpAnyS_take_at (i := 14) (v := .pointer (some ⟨r, 0, none⟩)) 30 inv rfl rfl (by kernel_rfl) (by kernel_rfl) (by kernel_rfl) (by decide) (by decide) (by kernel_rfl) (by kernel_rfl) (fun _ _ _ h => h) (.inl ⟨rfl, fun w hS => rfl⟩) hS (fun inv => ?_)
      simp only [Act.put, List.setIfInBounds_toArray, List.set_cons_zero, List.set_cons_succ]
      refine wpAnyS_take_at (i := 15) (v := .pointer (some ⟨r, 0, none⟩)) 31 inv rfl rfl (by kernel_rfl) (by kernel_rfl) (by kernel_rfl) (by decide) (by decide) (by kernel_rfl) (by kernel_rfl) (fun _ _ _ h => h) (.inl ⟨rfl, fun w hS => rfl⟩) hS (fun inv => ?_)
      simp only [Act.put, List.setIfInBounds_toArray, List.set_cons_zero, List.set_cons_succ]
      refine wpAnyS_take_at (i := 16) (v := .pointer (some ⟨r, 1, none⟩)) 32 inv rfl rfl (by kernel_rfl) (by kernel_rfl) (by kernel_rfl) (by decide) (by decide) (by kernel_rfl) (by kernel_rfl) (fun _ _ _ h => h) (.inl ⟨rfl, fun w hS => rfl⟩) hS (fun inv => ?_)
      simp only [Act.put, List.setIfInBounds_toArray, List.set_cons_zero, List.set_cons_succ]
      refine wpAnyS_take_at (i := 17) (v := .slice a2 n2 cap2) 33 inv rfl rfl (by kernel_rfl) (by kernel_rfl) (by kernel_rfl) (by decide) (by decide) (by kernel_rfl) (by kernel_rfl) (fun _ _ _ h => h) (.inl ⟨rfl, fun w hS => by obtain ⟨h0, h1, h2⟩ := hS; go_simp⟩) hS (fun inv => ?_)
      simp only [Act.put, List.setIfInBounds_toArray, List.set_cons_zero, List.set_cons_succ]
      refine wpAnyS_take_at (i := 6) (v := .pointer (some ⟨r, 0, none⟩)) 22 inv rfl rfl (by kernel_rfl) (by kernel_rfl) (by kernel_rfl) (by decide) (by decide) (by kernel_rfl) (by kernel_rfl) (fun _ _ _ h => h) (.inl ⟨rfl, fun w hS => rfl⟩) hS (fun inv => ?_)
      simp only [Act.put, List.setIfInBounds_toArray, List.set_cons_zero, List.set_cons_succ]
      refine wpAnyS_one (i := 7) inv (by decide) (by kernel_rfl) (fun inv => ?_)
      unfold wpOp
      go_simp
      refine .inl (HBit.out.mono ?_)
      rintro e w1 ⟨rfl, rfl⟩
      refine ⟨hS, ?_⟩
      refine wpAnyS_take_at (i := 8) (v := .bool true) 24 inv rfl rfl (by kernel_rfl) (by kernel_rfl) (by kernel_rfl) (by decide) (by decide) (by kernel_rfl) (by kernel_rfl) (fun _ _ _ h => h) (.inl ⟨rfl, fun w hS => by go_simp⟩) hS (fun inv => ?_)
      simp only [Act.put, List.setIfInBounds_toArray, List.set_cons_zero, List.set_cons_succ]
      refine wpAnyS_take_at (i := 9) (v := .bool true) 25 inv rfl rfl (by kernel_rfl) (by kernel_rfl) (by kernel_rfl) (by decide) (by decide) (by kernel_rfl) (by kernel_rfl) (fun _ _ _ h => h) (.inl ⟨rfl, fun w hS => rfl⟩) hS (fun inv => ?_)
      simp only [Act.put, List.setIfInBounds_toArray, List.set_cons_zero, List.set_cons_succ]
      refine wpAnyS_one (i := 18) inv (by decide) (by kernel_rfl) (fun inv => ?_)
      unfold wpOp
      go_simp
      refine .inl ((HL.out w.drew hl2).mono ?_)
      rintro e w1 ⟨rfl, rfl⟩
      refine ⟨hS, ?_⟩
      refine wpAnyS_one (i := 19) inv (by decide) (by kernel_rfl) (fun inv => ?_)
      unfold wpOp
      go_simp
      refine .inl ((HP.out w.drew hl1).mono ?_)
      rintro e w1 ⟨a3, c3, s3, rfl, g1, g2, g3, g4⟩
      have G1 := Lib.hid g1; clear g1
      have hb4 : Below w.heap.size w w1 := h.drew.trans g4
      refine ⟨HB.out _ hb4, ?_⟩
      refine wpAnyS_tail (by decide) ?_
      refine wpAny_one (i := 20) (by kernel_rfl) ?_
      unfold wpOp
      go_simp
      refine .inl ((big_made _ p v T true a3 s3 c3 (hp.below hb4) g3 G1.out g2 ⟨fun _ => hT0, (fun h => by (cases h))⟩).mono ?_)
      rintro e w2 ⟨rfl, m1, m2⟩
      refine wpAny_one (i := 21) (by kernel_rfl) ?_
      unfold wpOp
      go_simp
      refine .inl (wpAny_done (by kernel_rfl) ?_ _)
      go_wp2
      go_ret
      exact ⟨rfl, m1, (Only.of_below hb4).trans m2 (by simp)⟩
    · have hpar0 : k % 2 = 0 := by omega
      have hT0 : 0 ≤ T := by rw [hT]; exact pow_even hpar0
      rw [hpar0] at hbit
      have HBit := Lib.hid hbit; clear hbit
      clear hT Hb1 hneg hpar hpar0
      have hS : (w.drew.cell? ⟨q, 0, none⟩ = some (.bool true) ∧ w.drew.cell? ⟨q, 1, none⟩ = some (.slice a1 n1 cap1) ∧ w.drew.cell? ⟨r, 1, none⟩ = some (.slice a2 n2 cap2)) := HB.out _ h.drew
      go_enter Tryz.func82, Tryz.ntmps82
      go_wp2_with fail
      refine wp_region_S (n := 20) (S := fun X => X.cell? ⟨q, 0, none⟩ = some (.bool true) ∧ X.cell? ⟨q, 1, none⟩ = some (.slice a1 n1 cap1) ∧ X.cell? ⟨r, 1, none⟩ = some (.slice a2 n2 cap2)) (by kernel_rfl) (by decide) (fun inv => ?_)
      refine wpAnyS_take_at (i := 0) (v := .pointer (some ⟨p, 0, none⟩)) 16 inv rfl rfl (by kernel_rfl) (by kernel_rfl) (by kernel_rfl) (by decide) (by decide) (by kernel_rfl) (by kernel_rfl) (fun _ _ _ h => h) (.inl ⟨rfl, fun w hS => rfl⟩) hS (fun inv => ?_)
      simp only [Act.put, List.setIfInBounds_toArray, List.set_cons_zero, List.set_cons_succ]
      refine wpAnyS_take_at (i := 1) (v := .pointer (some ⟨q, 0, none⟩)) 17 inv rfl rfl (by kernel_rfl) (by kernel_rfl) (by kernel_rfl) (by decide) (by decide) (by kernel_rfl) (by kernel_rfl) (fun _ _ _ h => h) (.inl ⟨rfl, fun w hS => rfl⟩) hS (fun inv => ?_)
      simp only [Act.put, List.setIfInBounds_toArray, List.set_cons_zero, List.set_cons_succ]
      refine wpAnyS_take_at (i := 2) (v := .pointer (some ⟨q, 0, none⟩)) 18 inv rfl rfl (by kernel_rfl) (by kernel_rfl) (by kernel_rfl) (by decide) (by decide) (by kernel_rfl) (by kernel_rfl) (fun _ _ _ h => h) (.inl ⟨rfl, fun w hS => rfl⟩) hS (fun inv => ?_)
      simp only [Act.put, List.setIfInBounds_toArray, List.set_cons_zero, List.set_cons_succ]
      refine wpAnyS_take_at (i := 3) (v := .pointer (some ⟨q, 0, none⟩)) 19 inv rfl rfl (by kernel_rfl) (by kernel_rfl) (by kernel_rfl) (by decide) (by decide) (by kernel_rfl) (by kernel_rfl) (fun _ _ _ h => h) (.inl ⟨rfl, fun w hS => rfl⟩) hS (fun inv => ?_)
      simp only [Act.put, List.setIfInBounds_toArray, List.set_cons_zero, List.set_cons_succ]
      refine wpAnyS_take_at (i := 4) (v := .bool true) 20 inv rfl rfl (by kernel_rfl) (by kernel_rfl) (by kernel_rfl) (by decide) (by decide) (by kernel_rfl) (by kernel_rfl) (fun _ _ _ h => h) (.inl ⟨rfl, fun w hS => by obtain ⟨h0, h1, h2⟩ := hS; go_simp⟩) hS (fun inv => ?_)
      simp only [Act.put, List.setIfInBounds_toArray, List.set_cons_zero, List.set_cons_succ]
      refine wpAnyS_take_at (i := 5) (v := .bool true) 21 inv rfl rfl (by kernel_rfl) (by kernel_rfl) (by kernel_rfl) (by decide) (by decide) (by kernel_rfl) (by kernel_rfl) (fun _ _ _ h => h) (.inl ⟨rfl, fun w hS => rfl⟩) hS (fun inv => ?_)
      simp only [Act.put, List.setIfInBounds_toArray, List.set_cons_zero, List.set_cons_succ]
      refine wpAnyS_take_at (i := 10) (v := .pointer (some ⟨q, 0, none⟩)) 26 inv rfl rfl (by kernel_rfl) (by kernel_rfl) (by kernel_rfl) (by decide) (by decide) (by kernel_rfl) (by kernel_rfl) (fun _ _ _ h => h) (.inl ⟨rfl, fun w hS => rfl⟩) hS (fun inv => ?_)
      simp only [Act.put, List.setIfInBounds_toArray, List.set_cons_zero, List.set_cons_succ]
      refine wpAnyS_take_at (i := 11) (v := .pointer (some ⟨q, 0, none⟩)) 27 inv rfl rfl (by kernel_rfl) (by kernel_rfl) (by kernel_rfl) (by decide) (by decide) (by kernel_rfl) (by kernel_rfl) (fun _ _ _ h => h) (.inl ⟨rfl, fun w hS => rfl⟩) hS (fun inv => ?_)
      simp only [Act.put, List.setIfInBounds_toArray, List.set_cons_zero, List.set_cons_succ]
      refine wpAnyS_take_at (i := 12) (v := .pointer (some ⟨q, 1, none⟩)) 28 inv rfl rfl (by kernel_rfl) (by kernel_rfl) (by kernel_rfl) (by decide) (by decide) (by kernel_rfl) (by kernel_rfl) (fun _ _ _ h => h) (.inl ⟨rfl, fun w hS => rfl⟩) hS (fun inv => ?_)
      simp only [Act.put, List.setIfInBounds_toArray, List.set_cons_zero, List.set_cons_succ]
      refine wpAnyS_take_at (i := 13) (v := .slice a1 n1 cap1) 29 inv rfl rfl (by kernel_rfl) (by kernel_rfl) (by kernel_rfl) (by decide) (by decide) (by kernel_rfl) (by kernel_rfl) (fun _ _ _ h => h) (.inl ⟨rfl, fun w hS => by obtain ⟨h0, h1, h2⟩ := hS; go_simp⟩) hS (fun inv => ?_)
      simp only [Act.put, List.setIfInBounds_toArray, List.set_cons_zero, List.set_cons_succ]
      refine wpAnyS_take_at (i := 14) (v := .pointer (some ⟨r, 0, none⟩)) 30 inv rfl rfl (by kernel_rfl) (by kernel_rfl) (by kernel_rfl) (by decide) (by decide) (by kernel_rfl) (by kernel_rfl) (fun _ _ _ h => h) (.inl ⟨rfl, fun w hS => rfl⟩) hS (fun inv => ?_)
      simp only [Act.put, List.setIfInBounds_toArray, List.set_cons_zero, List.set_cons_succ]
      refine wpAnyS_take_at (i := 15) (v := .pointer (some ⟨r, 0, none⟩)) 31 inv rfl rfl (by kernel_rfl) (by kernel_rfl) (by kernel_rfl) (by decide) (by decide) (by kernel_rfl) (by kernel_rfl) (fun _ _ _ h => h) (.inl ⟨rfl, fun w hS => rfl⟩) hS (fun inv => ?_)
      simp only [Act.put, List.setIfInBounds_toArray, List.set_cons_zero, List.set_cons_succ]
      refine wpAnyS_take_at (i := 16) (v := .pointer (some ⟨r, 1, none⟩)) 32 inv rfl rfl (by kernel_rfl) (by kernel_rfl) (by kernel_rfl) (by decide) (by decide) (by kernel_rfl) (by kernel_rfl) (fun _ _ _ h => h) (.inl ⟨rfl, fun w hS => rfl⟩) hS (fun inv => ?_)
      simp only [Act.put, List.setIfInBounds_toArray, List.set_cons_zero, List.set_cons_succ]
      refine wpAnyS_take_at (i := 17) (v := .slice a2 n2 cap2) 33 inv rfl rfl (by kernel_rfl) (by kernel_rfl) (by kernel_rfl) (by decide) (by decide) (by kernel_rfl) (by kernel_rfl) (fun _ _ _ h => h) (.inl ⟨rfl, fun w hS => by obtain ⟨h0, h1, h2⟩ := hS; go_simp⟩) hS (fun inv => ?_)
      simp only [Act.put, List.setIfInBounds_toArray, List.set_cons_zero, List.set_cons_succ]
      refine wpAnyS_take_at (i := 6) (v := .pointer (some ⟨r, 0, none⟩)) 22 inv rfl rfl (by kernel_rfl) (by kernel_rfl) (by kernel_rfl) (by decide) (by decide) (by kernel_rfl) (by kernel_rfl) (fun _ _ _ h => h) (.inl ⟨rfl, fun w hS => rfl⟩) hS (fun inv => ?_)
      simp only [Act.put, List.setIfInBounds_toArray, List.set_cons_zero, List.set_cons_succ]
      refine wpAnyS_one (i := 7) inv (by decide) (by kernel_rfl) (fun inv => ?_)
      unfold wpOp
      go_simp
      refine .inl (HBit.out.mono ?_)
      rintro e w1 ⟨rfl, rfl⟩
      refine ⟨hS, ?_⟩
      refine wpAnyS_take_at (i := 8) (v := .bool false) 24 inv rfl rfl (by kernel_rfl) (by kernel_rfl) (by kernel_rfl) (by decide) (by decide) (by kernel_rfl) (by kernel_rfl) (fun _ _ _ h => h) (.inl ⟨rfl, fun w hS => by go_simp⟩) hS (fun inv => ?_)
      simp only [Act.put, List.setIfInBounds_toArray, List.set_cons_zero, List.set_cons_succ]
      refine wpAnyS_take_at (i := 9) (v := .bool false) 25 inv rfl rfl (by kernel_rfl) (by kernel_rfl) (by kernel_rfl) (by decide) (by decide) (by kernel_rfl) (by kernel_rfl) (fun _ _ _ h => h) (.inl ⟨rfl, fun w hS => rfl⟩) hS (fun inv => ?_)
      simp only [Act.put, List.setIfInBounds_toArray, List.set_cons_zero, List.set_cons_succ]
      refine wpAnyS_one (i := 18) inv (by decide) (by kernel_rfl) (fun inv => ?_)
      unfold wpOp
      go_simp
      refine .inl ((HL.out w.drew hl2).mono ?_)
      rintro e w1 ⟨rfl, rfl⟩
      refine ⟨hS, ?_⟩
      refine wpAnyS_one (i := 19) inv (by decide) (by kernel_rfl) (fun inv => ?_)
      unfold wpOp
      go_simp
      refine .inl ((HP.out w.drew hl1).mono ?_)
      rintro e w1 ⟨a3, c3, s3, rfl, g1, g2, g3, g4⟩
      have G1 := Lib.hid g1; clear g1
      have hb4 : Below w.heap.size w w1 := h.drew.trans g4
      refine ⟨HB.out _ hb4, ?_⟩
      refine wpAnyS_tail (by decide) ?_
      refine wpAny_one (i := 20) (by kernel_rfl) ?_
      unfold wpOp
      go_simp
      refine .inl ((big_made _ p v T false a3 s3 c3 (hp.below hb4) g3 G1.out g2 ⟨(fun h => by (cases h)), fun _ => hT0⟩).mono ?_)
      rintro e w2 ⟨rfl, m1, m2⟩
      refine wpAny_one (i := 21) (by kernel_rfl) ?_
      unfold wpOp
      go_simp
      refine .inl (wpAny_done (by kernel_rfl) ?_ _)
      go_wp2
      go_ret
      exact ⟨rfl, m1, (Only.of_below hb4).trans m2 (by simp)⟩
  · have hb : b1 = false := by rw [Hb1.out]; simpa using hneg
    subst hb
    have hT0 : 0 ≤ T := by rw [hT]; exact Int.pow_nonneg (by omega)
    clear hT Hb1 hneg
    have hS : (w.drew.cell? ⟨q, 0, none⟩ = some (.bool false) ∧ w.drew.cell? ⟨q, 1, none⟩ = some (.slice a1 n1 cap1) ∧ w.drew.cell? ⟨r, 1, none⟩ = some (.slice a2 n2 cap2)) := HB.out _ h.drew
    go_enter Tryz.func82, Tryz.ntmps82
    go_wp2_with fail
    refine wp_region_S (n := 20) (S := fun X => X.cell? ⟨q, 0, none⟩ = some (.bool false) ∧ X.cell? ⟨q, 1, none⟩ = some (.slice a1 n1 cap1) ∧ X.cell? ⟨r, 1, none⟩ = some (.slice a2 n2 cap2)) (by kernel_rfl) (by decide) (fun inv => ?_)
    refine wpAnyS_take_at (i := 0) (v := .pointer (some ⟨p, 0, none⟩)) 16 inv rfl rfl (by kernel_rfl) (by kernel_rfl) (by kernel_rfl) (by decide) (by decide) (by kernel_rfl) (by kernel_rfl) (fun _ _ _ h => h) (.inl ⟨rfl, fun w hS => rfl⟩) hS (fun inv => ?_)
    simp only [Act.put, List.setIfInBounds_toArray, List.set_cons_zero, List.set_cons_succ]
    refine wpAnyS_take_at (i := 1) (v := .pointer (some ⟨q, 0, none⟩)) 17 inv rfl rfl (by kernel_rfl) (by kernel_rfl) (by kernel_rfl) (by decide) (by decide) (by kernel_rfl) (by kernel_rfl) (fun _ _ _ h => h) (.inl ⟨rfl, fun w hS => rfl⟩) hS (fun inv => ?_)
    simp only [Act.put, List.setIfInBounds_toArray, List.set_cons_zero, List.set_cons_succ]
    refine wpAnyS_take_at (i := 2) (v := .pointer (some ⟨q, 0, none⟩)) 18 inv rfl rfl (by kernel_rfl) (by kernel_rfl) (by kernel_rfl) (by decide) (by decide) (by kernel_rfl) (by kernel_rfl) (fun _ _ _ h => h) (.inl ⟨rfl, fun w hS => rfl⟩) hS (fun inv => ?_)
    simp only [Act.put, List.setIfInBounds_toArray, List.set_cons_zero, List.set_cons_succ]
    refine wpAnyS_take_at (i := 3) (v := .pointer (some ⟨q, 0, none⟩)) 19 inv rfl rfl (by kernel_rfl) (by kernel_rfl) (by kernel_rfl) (by decide) (by decide) (by kernel_rfl) (by kernel_rfl) (fun _ _ _ h => h) (.inl ⟨rfl, fun w hS => rfl⟩) hS (fun inv => ?_)
    simp only [Act.put, List.setIfInBounds_toArray, List.set_cons_zero, List.set_cons_succ]
    refine wpAnyS_take_at (i := 4) (v := .bool false) 20 inv rfl rfl (by kernel_rfl) (by kernel_rfl) (by kernel_rfl) (by decide) (by decide) (by kernel_rfl) (by kernel_rfl) (fun _ _ _ h => h) (.inl ⟨rfl, fun w hS => by obtain ⟨h0, h1, h2⟩ := hS; go_simp⟩) hS (fun inv => ?_)
    simp only [Act.put, List.setIfInBounds_toArray, List.set_cons_zero, List.set_cons_succ]
    refine wpAnyS_take_at (i := 5) (v := .bool false) 21 inv rfl rfl (by kernel_rfl) (by kernel_rfl) (by kernel_rfl) (by decide) (by decide) (by kernel_rfl) (by kernel_rfl) (fun _ _ _ h => h) (.inl ⟨rfl, fun w hS => rfl⟩) hS (fun inv => ?_)
    simp only [Act.put, List.setIfInBounds_toArray, List.set_cons_zero, List.set_cons_succ]
    refine wpAnyS_take_at (i := 10) (v := .pointer (some ⟨q, 0, none⟩)) 26 inv rfl rfl (by kernel_rfl) (by kernel_rfl) (by kernel_rfl) (by decide) (by decide) (by kernel_rfl) (by kernel_rfl) (fun _ _ _ h => h) (.inl ⟨rfl, fun w hS => rfl⟩) hS (fun inv => ?_)
    simp only [Act.put, List.setIfInBounds_toArray, List.set_cons_zero, List.set_cons_succ]
    refine wpAnyS_take_at (i := 11) (v := .pointer (some ⟨q, 0, none⟩)) 27 inv rfl rfl (by kernel_rfl) (by kernel_rfl) (by kernel_rfl) (by decide) (by decide) (by kernel_rfl) (by kernel_rfl) (fun _ _ _ h => h) (.inl ⟨rfl, fun w hS => rfl⟩) hS (fun inv => ?_)
    simp only [Act.put, List.setIfInBounds_toArray, List.set_cons_zero, List.set_cons_succ]
    refine wpAnyS_take_at (i := 12) (v := .pointer (some ⟨q, 1, none⟩)) 28 inv rfl rfl (by kernel_rfl) (by kernel_rfl) (by kernel_rfl) (by decide) (by decide) (by kernel_rfl) (by kernel_rfl) (fun _ _ _ h => h) (.inl ⟨rfl, fun w hS => rfl⟩) hS (fun inv => ?_)
    simp only [Act.put, List.setIfInBounds_toArray, List.set_cons_zero, List.set_cons_succ]
    refine wpAnyS_take_at (i := 13) (v := .slice a1 n1 cap1) 29 inv rfl rfl (by kernel_rfl) (by kernel_rfl) (by kernel_rfl) (by decide) (by decide) (by kernel_rfl) (by kernel_rfl) (fun _ _ _ h => h) (.inl ⟨rfl, fun w hS => by obtain ⟨h0, h1, h2⟩ := hS; go_simp⟩) hS (fun inv => ?_)
    simp only [Act.put, List.setIfInBounds_toArray, List.set_cons_zero, List.set_cons_succ]
    refine wpAnyS_take_at (i := 14) (v := .pointer (some ⟨r, 0, none⟩)) 30 inv rfl rfl (by kernel_rfl) (by kernel_rfl) (by kernel_rfl) (by decide) (by decide) (by kernel_rfl) (by kernel_rfl) (fun _ _ _ h => h) (.inl ⟨rfl, fun w hS => rfl⟩) hS (fun inv => ?_)
    simp only [Act.put, List.setIfInBounds_toArray, List.set_cons_zero, List.set_cons_succ]
    refine wpAnyS_take_at (i := 15) (v := .pointer (some ⟨r, 0, none⟩)) 31 inv rfl rfl (by kernel_rfl) (by kernel_rfl) (by kernel_rfl) (by decide) (by decide) (by kernel_rfl) (by kernel_rfl) (fun _ _ _ h => h) (.inl ⟨rfl, fun w hS => rfl⟩) hS (fun inv => ?_)
    simp only [Act.put, List.setIfInBounds_toArray, List.set_cons_zero, List.set_cons_succ]
    refine wpAnyS_take_at (i := 16) (v := .pointer (some ⟨r, 1, none⟩)) 32 inv rfl rfl (by kernel_rfl) (by kernel_rfl) (by kernel_rfl) (by decide) (by decide) (by kernel_rfl) (by kernel_rfl) (fun _ _ _ h => h) (.inl ⟨rfl, fun w hS => rfl⟩) hS (fun inv => ?_)
    simp only [Act.put, List.setIfInBounds_toArray, List.set_cons_zero, List.set_cons_succ]
    refine wpAnyS_take_at (i := 17) (v := .slice a2 n2 cap2) 33 inv rfl rfl (by kernel_rfl) (by kernel_rfl) (by kernel_rfl) (by decide) (by decide) (by kernel_rfl) (by kernel_rfl) (fun _ _ _ h => h) (.inl ⟨rfl, fun w hS => by obtain ⟨h0, h1, h2⟩ := hS; go_simp⟩) hS (fun inv => ?_)
    simp only [Act.put, List.setIfInBounds_toArray, List.set_cons_zero, List.set_cons_succ]
    refine wpAnyS_take_at (i := 6) (v := undef) 22 inv rfl rfl (by kernel_rfl) (by kernel_rfl) (by kernel_rfl) (by decide) (by decide) (by kernel_rfl) (by kernel_rfl) (fun _ _ _ h => h) (.inr ⟨rfl, rfl⟩) hS (fun inv => ?_)
    simp only [Act.put, List.setIfInBounds_toArray, List.set_cons_zero, List.set_cons_succ]
    refine wpAnyS_take_at (i := 7) (v := undef) 23 inv rfl rfl (by kernel_rfl) (by kernel_rfl) (by kernel_rfl) (by decide) (by decide) (by kernel_rfl) (by kernel_rfl) (fun _ _ _ h => h) (.inr ⟨rfl, rfl⟩) hS (fun inv => ?_)
    simp only [Act.put, List.setIfInBounds_toArray, List.set_cons_zero, List.set_cons_succ]
    refine wpAnyS_take_at (i := 8) (v := undef) 24 inv rfl rfl (by kernel_rfl) (by kernel_rfl) (by kernel_rfl) (by decide) (by decide) (by kernel_rfl) (by kernel_rfl) (fun _ _ _ h => h) (.inr ⟨rfl, rfl⟩) hS (fun inv => ?_)
    simp only [Act.put, List.setIfInBounds_toArray, List.set_cons_zero, List.set_cons_succ]
    refine wpAnyS_take_at (i := 9) (v := .bool false) 25 inv rfl rfl (by kernel_rfl) (by kernel_rfl) (by kernel_rfl) (by decide) (by decide) (by kernel_rfl) (by kernel_rfl) (fun _ _ _ h => h) (.inl ⟨rfl, fun w hS => rfl⟩) hS (fun inv => ?_)
    simp only [Act.put, List.setIfInBounds_toArray, List.set_cons_zero, List.set_cons_succ]
    refine wpAnyS_one (i := 18) inv (by decide) (by kernel_rfl) (fun inv => ?_)
    unfold wpOp
    go_simp
    refine .inl ((HL.out w.drew hl2).mono ?_)
    rintro e w1 ⟨rfl, rfl⟩
    refine ⟨hS, ?_⟩
    refine wpAnyS_one (i := 19) inv (by decide) (by kernel_rfl) (fun inv => ?_)
    unfold wpOp
    go_simp
    refine .inl ((HP.out w.drew hl1).mono ?_)
    rintro e w1 ⟨a3, c3, s3, rfl, g1, g2, g3, g4⟩
    have G1 := Lib.hid g1; clear g1
    have hb4 : Below w.heap.size w w1 := h.drew.trans g4
    refine ⟨HB.out _ hb4, ?_⟩
    refine wpAnyS_tail (by decide) ?_
    refine wpAny_one (i := 20) (by kernel_rfl) ?_
    unfold wpOp
    go_simp
    refine .inl ((big_made _ p v T false a3 s3 c3 (hp.below hb4) g3 G1.out g2 ⟨(fun h => by (cases h)), fun _ => hT0⟩).mono ?_)
    rintro e w2 ⟨rfl, m1, m2⟩
    refine wpAny_one (i := 21) (by kernel_rfl) ?_
    unfold wpOp
    go_simp
    refine .inl (wpAny_done (by kernel_rfl) ?_ _)
    go_wp2
    go_ret
    exact ⟨rfl, m1, (Only.of_below hb4).trans m2 (by simp)⟩

end Go.Proofs.YtbffpkmfhkphdaaGreatDoor
