/- The walk of big.steps: Euclid's way as far as the tops tell it. -/
import Derived.Test.YtbffpkmfhkphdaaGreatDoorGX01
import Derived.Test.YtbffpkmfhkphdaaGreatDoorGX07
import Derived.Test.YtbffpkmfhkphdaaGreatDoorJoinC
set_option linter.unusedVariables false
set_option linter.unusedSimpArgs false
namespace Go.Proofs.YtbffpkmfhkphdaaGreatDoor
open Go Go.RowKit Limb

set_option maxHeartbeats 6400000 in
set_option maxRecDepth 1000000 in
theorem big_steps (w : World) (a b : Nat) (ha : a < 18446744073709551616) (hb : b ≤ a) :
    Calls Tryz.prog 244 #[.int .u64 a, .int .u64 b] w fun e w' => ∃ A B C D odd x y u v, e = .returned (.agg #[.int .u64 (A : Nat), .int .u64 (B : Nat), .int .u64 (C : Nat), .int .u64 (D : Nat), .bool odd]) ∧ Hid (Lin a b x y A B C D u v odd) ∧
      A < 4294967296 ∧ B < 4294967296 ∧ C < 4294967296 ∧ D < 4294967296 ∧ Below w.heap.size w w' := by
  have HS := Lib.hid (Lin.start hb)
  have Ha := Lib.hid ha
  clear hb
  obtain ⟨W, hW⟩ : ∃ W, W = (w.alloc (.cells #[.int .u64 0, .int .u64 0, .int .u64 0, .int .u64 0, .bool false] 282)).alloc (.cells #[.int .u64 0, .int .u64 0, .int .u64 1, .int .u64 0, .bool true] 282) := ⟨_, rfl⟩
  have hBW : Below w.heap.size w W := by rw [hW]; exact ((Below.refl _ _).alloc (Nat.le_refl _) _).alloc (by rw [World.size_alloc]; omega) _
  have r4W : Row W w.heap.size 282 [.int .u64 0, .int .u64 0, .int .u64 0, .int .u64 0, .bool false] := by rw [hW]; apply Row.alloc; unfold Row; exact heap_alloc_new _ _
  have r5W : Row W (w.heap.size + 1) 282 [.int .u64 0, .int .u64 0, .int .u64 1, .int .u64 0, .bool true] := by
    have h := heap_alloc_new (w.alloc (.cells #[.int .u64 0, .int .u64 0, .int .u64 0, .int .u64 0, .bool false] 282)) (.cells #[.int .u64 0, .int .u64 0, .int .u64 1, .int .u64 0, .bool true] 282)
    rw [World.size_alloc] at h
    rw [hW]; exact h
  have HW := Lib.hid hW; clear hW
  have hne : w.heap.size ≠ w.heap.size + 1 := by omega
  go_enter Tryz.func244, Tryz.ntmps244
  go_wp2_with fail
  rw [← HW.out]
  go_loopw [0, 1, 6, 7] (fun xv yv uv vv wr => ∃ (x y A B C D u v : Nat) (odd : Bool), xv = .int .u64 (x : Nat) ∧ yv = .int .u64 (y : Nat) ∧ uv = .int .u64 (u : Nat) ∧ vv = .int .u64 (v : Nat) ∧ Row wr (w.heap.size + 1) 282 [.int .u64 (A : Nat), .int .u64 (B : Nat), .int .u64 (C : Nat), .int .u64 (D : Nat), .bool odd] ∧
      Row wr w.heap.size 282 [.int .u64 0, .int .u64 0, .int .u64 0, .int .u64 0, .bool false] ∧ Hid (Lin a b x y A B C D u v odd) ∧ A < 4294967296 ∧ B < 4294967296 ∧ C < 4294967296 ∧ D < 4294967296 ∧ x < 18446744073709551616 ∧ u < 18446744073709551616 ∧ v < 18446744073709551616 ∧ Below w.heap.size w wr) (fun _ yv _ _ _ => (intOf yv).toNat)
  case atStart => exact ⟨a, b, 0, 0, 1, 0, 0, 1, true, rfl, rfl, rfl, rfl, r5W, r4W, Lib.hid HS.out, by decide, by decide, by decide, by decide, ha, by decide, by decide, hBW⟩
  case round =>
    obtain ⟨x, y, A, B, C, D, u, v, odd, rfl, rfl, rfl, rfl, r5, r4, HL, lA, lB, lC, lD, lx, lu, lv, hB⟩ := hrel
    clear r4W r5W hBW ha
    have hyx := HL.out.yx
    have q0 := r5.cell_at 0
    have q1 := r5.cell_at 1
    have q2 := r5.cell_at 2
    have q3 := r5.cell_at 3
    have q4 := r5.cell_at 4
    have g0 := r5.free 0
    have g1 := r5.free 1
    have g2 := r5.free 2
    have g3 := r5.free 3
    have g4 := r5.free 4
    simp only [List.getElem?_cons_zero, List.getElem?_cons_succ] at q0 q1 q2 q3 q4
    by_cases hvy : v ≤ y
    · have d0 : decide ((v : Int) ≤ (y : Int)) = true := by rw [decide_eq_true_eq]; omega
      have d0' : decide (v ≤ y) = true := by rw [decide_eq_true_eq]; exact hvy
      have hvs := HL.out.small Ha.out hvy
      obtain ⟨df, hdf⟩ : ∃ df, df = x - y := ⟨_, rfl⟩
      obtain ⟨sm, hsm⟩ : ∃ sm, sm = D + v := ⟨_, rfl⟩
      have es1 : (x : Int) - (y : Int) = (df : Int) := by omega
      have es2 : (D : Int) + (v : Int) = (sm : Int) := by omega
      have ew1 : IntKind.u64.wrap (df : Int) = (df : Int) := by rw [IntKind.wrap_u64]; omega
      have ew2 : IntKind.u64.wrap (sm : Int) = (sm : Int) := by rw [IntKind.wrap_u64]; omega
      by_cases hd : sm ≤ df
      · have d1 : decide ((sm : Int) ≤ (df : Int)) = true := by rw [decide_eq_true_eq]; omega
        have d1' : decide (sm ≤ df) = true := by rw [decide_eq_true_eq]; exact hd
        have hy0 : 0 < y := by have := HL.out.v1; omega
        have HL2 := Lib.hid (HL.out.step hvy (by omega))
        have hbig := HL2.out.big Ha.out hy0
        have hyz : ((y : Int) == 0) = false := by rw [beq_eq_false_iff_ne]; omega
        have hxq := Nat.div_le_self x y
        have hml := Nat.mod_lt x hy0
        have eq : (x : Int) / (y : Int) = ((x / y : Nat) : Int) := (Int.natCast_ediv _ _).symm
        have er : (x : Int) % (y : Int) = ((x % y : Nat) : Int) := (Int.natCast_emod _ _).symm
        have etq : (x : Int).tdiv (y : Int) = ((x / y : Nat) : Int) := rfl
        have etr : (x : Int).tmod (y : Int) = ((x % y : Nat) : Int) := rfl
        obtain ⟨q, hq⟩ : ∃ q, q = x / y := ⟨_, rfl⟩
        obtain ⟨r, hr⟩ : ∃ r, r = x % y := ⟨_, rfl⟩
        rw [← hq, ← hr] at HL2
        rw [← hq] at hbig eq etq
        rw [← hr] at er etr hml
        rw [← hq] at hxq
        have ewq : IntKind.u64.wrap (q : Int) = (q : Int) := by rw [IntKind.wrap_u64]; omega
        obtain ⟨qu, hqu⟩ : ∃ m, m = q * u := ⟨_, rfl⟩
        obtain ⟨qv, hqv⟩ : ∃ m, m = q * v := ⟨_, rfl⟩
        rw [← hqu, ← hqv] at HL2 hbig
        have em1 : (q : Int) * (u : Int) = (qu : Int) := by rw [hqu, Int.natCast_mul]
        have em2 : (q : Int) * (v : Int) = (qv : Int) := by rw [hqv, Int.natCast_mul]
        obtain ⟨u', hu'⟩ : ∃ m, m = C + qu := ⟨_, rfl⟩
        obtain ⟨v', hv'⟩ : ∃ m, m = D + qv := ⟨_, rfl⟩
        rw [← hu', ← hv'] at HL2 hbig
        have ea1 : (C : Int) + (qu : Int) = (u' : Int) := by omega
        have ea2 : (D : Int) + (qv : Int) = (v' : Int) := by omega
        have ex1 : IntKind.u64.wrap (qu : Int) = (qu : Int) := by rw [IntKind.wrap_u64]; omega
        have ex2 : IntKind.u64.wrap (qv : Int) = (qv : Int) := by rw [IntKind.wrap_u64]; omega
        have ex3 : IntKind.u64.wrap (u' : Int) = (u' : Int) := by rw [IntKind.wrap_u64]; omega
        have ex4 : IntKind.u64.wrap (v' : Int) = (v' : Int) := by rw [IntKind.wrap_u64]; omega
        have lu2 : u < 4294967296 := by have := HL.out.uv; omega
        have ly : y < 18446744073709551616 := by omega
        have hb1 := hbig.1
        have hb2 := hbig.2
        clear hq hr hqu hqv hu' hv' hbig hxq hdf hsm hvy hd hyx
        go_wp2
        go_region
        all_goals
          go_wp2
          go_roundw
        case rel => exact ⟨y, r, C, D, u, v, u', v', !odd, rfl, rfl, rfl, rfl, (((((r5.store_any 0 _).store_any 2 _).store_any 1 _).store_any 3 _).store_any 4 _), (((((r4.other (by exact hne) _).other (by exact hne) _).other (by exact hne) _).other (by exact hne) _).other (by exact hne) _), Lib.hid HL2.out, lC, lD, lu2, hvs, ly, hb2, hb1, below_store (below_store (below_store (below_store (below_store hB.drew (by omega) _) (by omega) _) (by omega) _) (by omega) _) (by omega) _⟩
        case measure => simp [intOf]; omega
      · have d1 : decide ((sm : Int) ≤ (df : Int)) = false := by rw [decide_eq_false_iff_not]; omega
        have d1' : decide (sm ≤ df) = false := by rw [decide_eq_false_iff_not]; exact hd
        clear hdf hsm hd hvy hyx
        have k0 := r4.cell_at 0
        have k1 := r4.cell_at 1
        have k2 := r4.cell_at 2
        have k3 := r4.cell_at 3
        have k4 := r4.cell_at 4
        have f0 := r4.free 0
        have f1 := r4.free 1
        have f2 := r4.free 2
        have f3 := r4.free 3
        have f4 := r4.free 4
        simp only [List.getElem?_cons_zero, List.getElem?_cons_succ] at k0 k1 k2 k3 k4
        have e0 := (r4.store_any 0 (.int .u64 (A : Nat))).cell_at 0
        have e1 := ((r4.store_any 0 (.int .u64 (A : Nat))).store_any 1 (.int .u64 (B : Nat))).cell_at 1
        have e2 := (((r4.store_any 0 (.int .u64 (A : Nat))).store_any 1 (.int .u64 (B : Nat))).store_any 2 (.int .u64 (C : Nat))).cell_at 2
        have e3 := ((((r4.store_any 0 (.int .u64 (A : Nat))).store_any 1 (.int .u64 (B : Nat))).store_any 2 (.int .u64 (C : Nat))).store_any 3 (.int .u64 (D : Nat))).cell_at 3
        have e4 := (((((r4.store_any 0 (.int .u64 (A : Nat))).store_any 1 (.int .u64 (B : Nat))).store_any 2 (.int .u64 (C : Nat))).store_any 3 (.int .u64 (D : Nat))).store_any 4 (.bool odd)).cell_at 4
        simp only [List.set_cons_zero, List.set_cons_succ, List.getElem?_cons_zero, List.getElem?_cons_succ] at e0 e1 e2 e3 e4
        have HF := Lib.hid (below_store (below_store (below_store (below_store (below_store hB (g := w.heap.size) (i := 0) (Nat.le_refl _) (.int .u64 (A : Nat))) (g := w.heap.size) (i := 1) (Nat.le_refl _) (.int .u64 (B : Nat))) (g := w.heap.size) (i := 2) (Nat.le_refl _) (.int .u64 (C : Nat))) (g := w.heap.size) (i := 3) (Nat.le_refl _) (.int .u64 (D : Nat))) (g := w.heap.size) (i := 4) (Nat.le_refl _) (.bool odd))
        go_wp2
        (try simp only [Exit.inBlock, Exit.then])
        refine bodyPost_ret (v := .agg #[.int .u64 (A : Nat), .int .u64 (B : Nat), .int .u64 (C : Nat), .int .u64 (D : Nat), .bool odd]) (by simp [results, Tryz.results244, go_sem, e0, e1, e2, e3, e4]) rfl ?_
        exact ⟨A, B, C, D, odd, x, y, u, v, rfl, HL, lA, lB, lC, lD, HF.out⟩
    · have d0 : decide ((v : Int) ≤ (y : Int)) = false := by rw [decide_eq_false_iff_not]; omega
      have d0' : decide (v ≤ y) = false := by rw [decide_eq_false_iff_not]; exact hvy
      clear hvy hyx
      have k0 := r4.cell_at 0
      have k1 := r4.cell_at 1
      have k2 := r4.cell_at 2
      have k3 := r4.cell_at 3
      have k4 := r4.cell_at 4
      have f0 := r4.free 0
      have f1 := r4.free 1
      have f2 := r4.free 2
      have f3 := r4.free 3
      have f4 := r4.free 4
      simp only [List.getElem?_cons_zero, List.getElem?_cons_succ] at k0 k1 k2 k3 k4
      have e0 := (r4.store_any 0 (.int .u64 (A : Nat))).cell_at 0
      have e1 := ((r4.store_any 0 (.int .u64 (A : Nat))).store_any 1 (.int .u64 (B : Nat))).cell_at 1
      have e2 := (((r4.store_any 0 (.int .u64 (A : Nat))).store_any 1 (.int .u64 (B : Nat))).store_any 2 (.int .u64 (C : Nat))).cell_at 2
      have e3 := ((((r4.store_any 0 (.int .u64 (A : Nat))).store_any 1 (.int .u64 (B : Nat))).store_any 2 (.int .u64 (C : Nat))).store_any 3 (.int .u64 (D : Nat))).cell_at 3
      have e4 := (((((r4.store_any 0 (.int .u64 (A : Nat))).store_any 1 (.int .u64 (B : Nat))).store_any 2 (.int .u64 (C : Nat))).store_any 3 (.int .u64 (D : Nat))).store_any 4 (.bool odd)).cell_at 4
      simp only [List.set_cons_zero, List.set_cons_succ, List.getElem?_cons_zero, List.getElem?_cons_succ] at e0 e1 e2 e3 e4
      have HF := Lib.hid (below_store (below_store (below_store (below_store (below_store hB (g := w.heap.size) (i := 0) (Nat.le_refl _) (.int .u64 (A : Nat))) (g := w.heap.size) (i := 1) (Nat.le_refl _) (.int .u64 (B : Nat))) (g := w.heap.size) (i := 2) (Nat.le_refl _) (.int .u64 (C : Nat))) (g := w.heap.size) (i := 3) (Nat.le_refl _) (.int .u64 (D : Nat))) (g := w.heap.size) (i := 4) (Nat.le_refl _) (.bool odd))
      go_wp2
      (try simp only [Exit.inBlock, Exit.then])
      refine bodyPost_ret (v := .agg #[.int .u64 (A : Nat), .int .u64 (B : Nat), .int .u64 (C : Nat), .int .u64 (D : Nat), .bool odd]) (by simp [results, Tryz.results244, go_sem, e0, e1, e2, e3, e4]) rfl ?_
      exact ⟨A, B, C, D, odd, x, y, u, v, rfl, HL, lA, lB, lC, lD, HF.out⟩

end Go.Proofs.YtbffpkmfhkphdaaGreatDoor
