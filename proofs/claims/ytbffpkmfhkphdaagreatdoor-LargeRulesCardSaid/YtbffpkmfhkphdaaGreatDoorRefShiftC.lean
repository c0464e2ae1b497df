/- The walk of the reference's Shift. -/
import Derived.Test.YtbffpkmfhkphdaaGreatDoorRefPowerC
import Derived.Test.YtbffpkmfhkphdaaGreatDoorGX40
import Derived.Test.YtbffpkmfhkphdaaGreatDoorLShiftC
import Derived.Test.YtbffpkmfhkphdaaGreatDoorGX41
import Derived.Test.YtbffpkmfhkphdaaGreatDoorGX29
import Derived.Deep.DeepCutAuto
set_option linter.unusedVariables false
set_option linter.unusedSimpArgs false
namespace Go.Proofs.YtbffpkmfhkphdaaGreatDoor
open Go Go.RowKit Limb

/-- A new variable holds an integer. -/
def BoxAt (U : World) (z : Int) (s : Value) (X : World) : Prop :=
  ∃ g b a n c, s = .pointer (some ⟨g, 0, none⟩) ∧ U.heap.size ≤ g ∧ Row X g 24 [.bool b, .slice a n c] ∧ ApiV X (.agg #[.bool b, .slice a n c]) z ∧ Below U.heap.size U X
theorem box_store {U X : World} {g : Nat} {b0 : Bool} {a0 : Option Addr} {n0 k0 : Nat} {b : Bool} {a : Option Addr} {n c : Nat} {z : Int} (hr : Row X g 24 [.bool b0, .slice a0 n0 k0]) (hg : U.heap.size ≤ g) (h : ApiV X (.agg #[.bool b, .slice a n c]) z) (hX : Below U.heap.size U X) :
    BoxAt U z (.pointer (some ⟨g, 0, none⟩)) ((X.setCell ⟨g, 0, none⟩ (.bool b)).setCell ⟨g, 1, none⟩ (.slice a n c)) :=
  ⟨g, b, a, n, c, rfl, hg, (hr.store_any 0 _).store_any 1 _, ApiV.to h (fun _ _ hl => hl.pair hr _ _), below_store (below_store hX hg _) hg _⟩
theorem box_other {U X : World} {z : Int} {s : Value} {g : Nat} {b0 : Bool} {a0 : Option Addr} {n0 k0 : Nat} {u v : Value} (h : BoxAt U z s X) (hr : Row X g 24 [.bool b0, .slice a0 n0 k0]) (hg : U.heap.size ≤ g) (hne : s ≠ .pointer (some ⟨g, 0, none⟩)) : BoxAt U z s ((X.setCell ⟨g, 0, none⟩ u).setCell ⟨g, 1, none⟩ v) := by
  obtain ⟨g', b, a, n, c, rfl, h1, h2, h3, h4⟩ := h
  have hgg : g' ≠ g := fun e => hne (by rw [e])
  exact ⟨g', b, a, n, c, rfl, h1, (h2.other (by exact hgg) _).other (by exact hgg) _, ApiV.to h3 (fun _ _ hl => hl.pair hr _ _), below_store (below_store h4 hg _) hg _⟩

/-- What Shift answers: an integer, and whether it is one. -/
def ShiftRes (w w' : World) (e : Ending) (x n : Int) : Prop := ∃ b a m c,
  e = .returned (.tuple #[.agg #[.bool b, .slice a m c], .bool true]) ∧ ApiV w' (.agg #[.bool b, .slice a m c]) (shiftZ x n) ∧ Below w.heap.size w w'
def ShiftLong (w w' : World) (e : Ending) : Prop := ∃ b a m c, e = .returned (.tuple #[.agg #[.bool b, .slice a m c], .bool false]) ∧ Below w.heap.size w w'

theorem shiftZ_zero (n : Int) : shiftZ 0 n = 0 := by
  unfold shiftZ
  split
  · exact Int.zero_mul _
  · exact Int.zero_ediv _
theorem div_far {x : Int} {c u : Nat} (lx : (rep x.natAbs).length ≤ c) (hu2 : 32 * c ≤ u) : x / 2 ^ u = if x < 0 then -1 else 0 := by
  have h2 : x.natAbs < 2 ^ u := Nat.lt_of_lt_of_le (rep_length_le.1 lx) (by rw [W_two]; exact Nat.pow_le_pow_right (by decide) hu2)
  have e : ((2 : Int) ^ u) = ((2 ^ u : Nat) : Int) := by rw [Int.natCast_pow]; rfl
  rw [e]
  generalize 2 ^ u = d at h2 ⊢
  by_cases hx : x < 0
  · rw [if_pos hx]
    exact ((Int.ediv_emod_unique (a := x) (b := (d : Int)) (q := -1) (r := x + d) (by omega)).2 ⟨by omega, by omega, by omega⟩).1
  · rw [if_neg hx]
    exact Int.ediv_eq_zero_of_lt (by omega) (by omega)
theorem shiftZ_far {x n : Int} (lx : (rep x.natAbs).length ≤ 1024) (hn : n < -32768) : shiftZ x n = if x < 0 then -1 else 0 := by
  unfold shiftZ
  rw [if_neg (by omega)]
  exact div_far lx (by omega)
theorem two_new (X : World) (t : TypeId) (a b u v : Value) (g : Nat) (hg : g = X.heap.size) : ((X.alloc (.cells #[a, b] t)).setCell ⟨g, 0, none⟩ u).setCell ⟨g, 1, none⟩ v = X.alloc (.cells #[u, v] t) := by
  subst hg
  go_simp
theorem rows2_keep {V : World} {g : Nat} {t : TypeId} {a0 a1 b0 b1 : Value} (r0 : Row V g t [a0, a1]) (r1 : Row V (g + 1) t [b0, b1]) :
    (∀ X, Below V.heap.size V X → X.cell? ⟨g, 0, none⟩ = some a0 ∧ X.cell? ⟨g, 1, none⟩ = some a1) ∧
    (∀ X, Below (g + 1) V X → X.cell? ⟨g, 0, none⟩ = some a0 ∧ X.cell? ⟨g, 1, none⟩ = some a1) := by
  have key : ∀ X, Below (g + 1) V X → X.cell? ⟨g, 0, none⟩ = some a0 ∧ X.cell? ⟨g, 1, none⟩ = some a1 := fun X h => ⟨(r0.below h (by omega)).cell_at 0, (r0.below h (by omega)).cell_at 1⟩
  exact ⟨fun X h => key X (h.mono (by have := r1.lt; omega)), key⟩

set_option maxHeartbeats 3200000 in
set_option maxRecDepth 1000000 in
theorem refshift_zero (w : World) (v : Value) (x n : Int) (hv : ApiV w v x) (lx : (rep x.natAbs).length ≤ 1024) (hn1 : -9223372036854775808 ≤ n) (hn2 : n ≤ 9223372036854775807) (h0 : x = 0) :
    Calls Tryz.prog 14 #[v, .int .i64 n] w fun e w' => ShiftRes w w' e x n := by
  have hv' := hv
  obtain ⟨a1, c1, rfl, hc1, hl1⟩ := hv
  obtain ⟨n1, hN1⟩ : ∃ k, k = (rep x.natAbs).length := ⟨_, rfl⟩
  obtain ⟨s1, hS1⟩ : ∃ s, s = decide (x < 0) := ⟨_, rfl⟩
  rw [← hS1, ← hN1] at hv' ⊢
  obtain ⟨W, hWe, r0, r1, hW, hsz⟩ := rows2 w 24 (.bool s1) (.slice a1 n1 c1) (.bool false) (.slice none 0 0)
  have HWe := Lib.hid hWe; clear hWe
  have hvW := hv'.below hW
  have HvW := Lib.hid hvW
  have q0 := r0.cell_at 0
  have q1 := r0.cell_at 1
  have k0 := r1.cell_at 0
  have k1 := r1.cell_at 1
  have k2 := r1.free 0
  have k3 := r1.free 1
  simp only [List.getElem?_cons_zero, List.getElem?_cons_succ] at q0 q1 k0 k1
  have d0 : ((n1 : Int) == 0) = true := by rw [beq_iff_eq, hN1, h0]; rfl
  have e0 : (W.setCell ⟨w.heap.size + 1, 0, none⟩ (.bool s1)).cell? ⟨w.heap.size + 1, 0, none⟩ = some (.bool s1) := (r1.store_any 0 _).cell_at 0
  have e1 : ((W.setCell ⟨w.heap.size + 1, 0, none⟩ (.bool s1)).setCell ⟨w.heap.size + 1, 1, none⟩ (.slice a1 n1 c1)).cell? ⟨w.heap.size + 1, 1, none⟩ = some (.slice a1 n1 c1) := ((r1.store_any 0 _).store_any 1 _).cell_at 1
  have HB := Lib.hid (below_store (below_store hW (g := w.heap.size + 1) (i := 0) (by omega) (.bool s1)) (g := w.heap.size + 1) (i := 1) (by omega) (.slice a1 n1 c1))
  have HF := Lib.hid (ApiV.to hvW (fun _ _ hl => hl.pair r1 (.bool s1) (.slice a1 n1 c1)))
  have HZ := Lib.hid (show shiftZ x n = x by rw [h0, shiftZ_zero])
  clear hvW hN1 hS1 lx h0 hl1
  have hst : (W.setCell ⟨w.heap.size + 1, 0, none⟩ (.bool s1)).setCell ⟨w.heap.size + 1, 1, none⟩ (.slice a1 n1 c1) = (w.alloc (.cells #[.bool s1, .slice a1 n1 c1] 24)).alloc (.cells #[.bool s1, .slice a1 n1 c1] 24) := by
    rw [HWe.out]; exact two_new _ _ _ _ _ _ _ (by rw [World.size_alloc])
  have HF2 := Lib.hid (show ApiV _ _ x from by have h := HF.out; rw [hst] at h; exact h)
  have HB2 := Lib.hid (show Below w.heap.size w _ from by have h := HB.out; rw [hst] at h; exact h)
  go_enter Tryz.func14, Tryz.ntmps14
  go_wp2
  (try simp only [Exit.inBlock, Exit.then])
  refine bodyPost_ret (v := .tuple #[.agg #[.bool s1, .slice a1 n1 c1], .bool true]) (by simp [results, Tryz.results14, go_sem, e0, e1]) rfl ?_
  exact ⟨_, _, _, _, rfl, by rw [HZ.out]; exact HF2.out, HB2.out⟩

set_option maxHeartbeats 3200000 in
set_option maxRecDepth 1000000 in
theorem refshift_long (w : World) (v : Value) (x n : Int) (hv : ApiV w v x) (lx : (rep x.natAbs).length ≤ 1024) (hn1 : -9223372036854775808 ≤ n) (hn2 : n ≤ 9223372036854775807) (h0 : x ≠ 0) (hn : 32768 < n) :
    Calls Tryz.prog 14 #[v, .int .i64 n] w fun e w' => ShiftLong w w' e := by
  have hv' := hv
  obtain ⟨a1, c1, rfl, hc1, hl1⟩ := hv
  obtain ⟨n1, hN1⟩ : ∃ k, k = (rep x.natAbs).length := ⟨_, rfl⟩
  obtain ⟨s1, hS1⟩ : ∃ s, s = decide (x < 0) := ⟨_, rfl⟩
  rw [← hS1, ← hN1] at hv' ⊢
  obtain ⟨W, hWe, r0, r1, hW, hsz⟩ := rows2 w 24 (.bool s1) (.slice a1 n1 c1) (.bool false) (.slice none 0 0)
  have HWe := Lib.hid hWe; clear hWe
  have hvW := hv'.below hW
  have HvW := Lib.hid hvW
  have q0 := r0.cell_at 0
  have q1 := r0.cell_at 1
  have k0 := r1.cell_at 0
  have k1 := r1.cell_at 1
  have k2 := r1.free 0
  have k3 := r1.free 1
  simp only [List.getElem?_cons_zero, List.getElem?_cons_succ] at q0 q1 k0 k1
  have d0 : ((n1 : Int) == 0) = false := by rw [beq_eq_false_iff_ne, hN1]; intro e0; exact h0 (by have := rep_length_zero (n := x.natAbs); omega)
  have e0 : (W.setCell ⟨w.heap.size + 1, 0, none⟩ (.bool s1)).cell? ⟨w.heap.size + 1, 0, none⟩ = some (.bool s1) := (r1.store_any 0 _).cell_at 0
  have e1 : ((W.setCell ⟨w.heap.size + 1, 0, none⟩ (.bool s1)).setCell ⟨w.heap.size + 1, 1, none⟩ (.slice a1 n1 c1)).cell? ⟨w.heap.size + 1, 1, none⟩ = some (.slice a1 n1 c1) := ((r1.store_any 0 _).store_any 1 _).cell_at 1
  have HB := Lib.hid (below_store (below_store hW (g := w.heap.size + 1) (i := 0) (by omega) (.bool s1)) (g := w.heap.size + 1) (i := 1) (by omega) (.slice a1 n1 c1))
  clear hvW hN1 hS1 lx h0 hl1
  have hst : (W.setCell ⟨w.heap.size + 1, 0, none⟩ (.bool s1)).setCell ⟨w.heap.size + 1, 1, none⟩ (.slice a1 n1 c1) = (w.alloc (.cells #[.bool s1, .slice a1 n1 c1] 24)).alloc (.cells #[.bool s1, .slice a1 n1 c1] 24) := by
    rw [HWe.out]; exact two_new _ _ _ _ _ _ _ (by rw [World.size_alloc])
  have HB2 := Lib.hid (show Below w.heap.size w _ from by have h := HB.out; rw [hst] at h; exact h)
  go_enter Tryz.func14, Tryz.ntmps14
  go_wp2
  (try simp only [Exit.inBlock, Exit.then])
  refine bodyPost_ret (v := .tuple #[.agg #[.bool s1, .slice a1 n1 c1], .bool false]) (by simp [results, Tryz.results14, go_sem, e0, e1]) rfl ?_
  exact ⟨_, _, _, _, rfl, HB2.out⟩

set_option maxHeartbeats 3200000 in
set_option maxRecDepth 1000000 in
theorem refshift_far (w : World) (v : Value) (x n : Int) (hv : ApiV w v x) (lx : (rep x.natAbs).length ≤ 1024) (hn1 : -9223372036854775808 ≤ n) (hn2 : n ≤ 9223372036854775807) (h0 : x ≠ 0) (hn : n < -32768) :
    Calls Tryz.prog 14 #[v, .int .i64 n] w fun e w' => ShiftRes w w' e x n := by
  have hv' := hv
  obtain ⟨a1, c1, rfl, hc1, hl1⟩ := hv
  obtain ⟨n1, hN1⟩ : ∃ k, k = (rep x.natAbs).length := ⟨_, rfl⟩
  obtain ⟨s1, hS1⟩ : ∃ s, s = decide (x < 0) := ⟨_, rfl⟩
  rw [← hS1, ← hN1] at hv' ⊢
  obtain ⟨W, hWe, r0, r1, hW, hsz⟩ := rows2 w 24 (.bool s1) (.slice a1 n1 c1) (.bool false) (.slice none 0 0)
  have HWe := Lib.hid hWe; clear hWe
  have hvW := hv'.below hW
  have HvW := Lib.hid hvW
  have q0 := r0.cell_at 0
  have q1 := r0.cell_at 1
  have k0 := r1.cell_at 0
  have k1 := r1.cell_at 1
  have k2 := r1.free 0
  have k3 := r1.free 1
  simp only [List.getElem?_cons_zero, List.getElem?_cons_succ] at q0 q1 k0 k1
  have d0 : ((n1 : Int) == 0) = false := by rw [beq_eq_false_iff_ne, hN1]; intro e0; exact h0 (by have := rep_length_zero (n := x.natAbs); omega)
  have hz := shiftZ_far lx hn
  obtain ⟨z, hze⟩ : ∃ z, z = shiftZ x n := ⟨_, rfl⟩
  unfold ShiftRes
  rw [← hze] at hz ⊢
  have ho1 := fun (z : Int) h1 h2 => (ref_of W z h1 h2).mono fun e X he => show ∃ b a m c, e = .returned (.agg #[.bool b, .slice a m c]) ∧ Hid (ApiV X (.agg #[.bool b, .slice a m c]) z ∧ Below W.heap.size W X) from by
    obtain ⟨u, rfl, hu, hb⟩ := he
    obtain ⟨b, a, m, c, rfl, _⟩ := hu.open
    exact ⟨_, _, _, _, rfl, Lib.hid ⟨hu, hb⟩⟩
  have HO := Lib.hid ho1; clear ho1
  clear hvW hN1 lx h0 hl1 hze k0 k1 k2 k3
  by_cases hx : x < 0
  · have e1 : s1 = true := by rw [hS1]; simpa using hx
    subst e1
    rw [if_pos hx] at hz
    subst hz
    clear hS1 hx
    go_enter Tryz.func14, Tryz.ntmps14
    go_wp2_with fail
    rw [← HWe.out]
    refine (HO.out (-1) (by decide) (by decide)).mono ?_
    rintro e X ⟨b', a', m', c', rfl, hf⟩
    have hX := hf.out.2
    have hR := r1.below hX r1.lt
    have k0 := hR.cell_at 0
    have k1 := hR.cell_at 1
    have k2 := hR.free 0
    have k3 := hR.free 1
    simp only [List.getElem?_cons_zero, List.getElem?_cons_succ] at k0 k1
    have hBX := hW.trans (hX.mono hW.size)
    have e0 : (X.setCell ⟨w.heap.size + 1, 0, none⟩ (.bool b')).cell? ⟨w.heap.size + 1, 0, none⟩ = some (.bool b') := (hR.store_any 0 _).cell_at 0
    have e1 : ((X.setCell ⟨w.heap.size + 1, 0, none⟩ (.bool b')).setCell ⟨w.heap.size + 1, 1, none⟩ (.slice a' m' c')).cell? ⟨w.heap.size + 1, 1, none⟩ = some (.slice a' m' c') := ((hR.store_any 0 _).store_any 1 _).cell_at 1
    have HB := Lib.hid (below_store (below_store hBX (g := w.heap.size + 1) (i := 0) (by omega) (.bool b')) (g := w.heap.size + 1) (i := 1) (by omega) (.slice a' m' c'))
    have HF := Lib.hid (ApiV.to hf.out.1 (fun _ _ hl => hl.pair hR (.bool b') (.slice a' m' c')))
    clear hR hX hf
    go_wp2
    (try simp only [Exit.inBlock, Exit.then])
    refine bodyPost_ret (v := .tuple #[.agg #[.bool b', .slice a' m' c'], .bool true]) (by simp [results, Tryz.results14, go_sem, e0, e1]) rfl ?_
    exact ⟨_, _, _, _, rfl, HF.out, HB.out⟩
  · have e1 : s1 = false := by rw [hS1]; simpa using hx
    subst e1
    rw [if_neg hx] at hz
    subst hz
    clear hS1 hx
    go_enter Tryz.func14, Tryz.ntmps14
    go_wp2_with fail
    rw [← HWe.out]
    refine (HO.out 0 (by decide) (by decide)).mono ?_
    rintro e X ⟨b', a', m', c', rfl, hf⟩
    have hX := hf.out.2
    have hR := r1.below hX r1.lt
    have k0 := hR.cell_at 0
    have k1 := hR.cell_at 1
    have k2 := hR.free 0
    have k3 := hR.free 1
    simp only [List.getElem?_cons_zero, List.getElem?_cons_succ] at k0 k1
    have hBX := hW.trans (hX.mono hW.size)
    have e0 : (X.setCell ⟨w.heap.size + 1, 0, none⟩ (.bool b')).cell? ⟨w.heap.size + 1, 0, none⟩ = some (.bool b') := (hR.store_any 0 _).cell_at 0
    have e1 : ((X.setCell ⟨w.heap.size + 1, 0, none⟩ (.bool b')).setCell ⟨w.heap.size + 1, 1, none⟩ (.slice a' m' c')).cell? ⟨w.heap.size + 1, 1, none⟩ = some (.slice a' m' c') := ((hR.store_any 0 _).store_any 1 _).cell_at 1
    have HB := Lib.hid (below_store (below_store hBX (g := w.heap.size + 1) (i := 0) (by omega) (.bool b')) (g := w.heap.size + 1) (i := 1) (by omega) (.slice a' m' c'))
    have HF := Lib.hid (ApiV.to hf.out.1 (fun _ _ hl => hl.pair hR (.bool b') (.slice a' m' c')))
    clear hR hX hf
    go_wp2
    (try simp only [Exit.inBlock, Exit.then])
    refine bodyPost_ret (v := .tuple #[.agg #[.bool b', .slice a' m' c'], .bool true]) (by simp [results, Tryz.results14, go_sem, e0, e1]) rfl ?_
    exact ⟨_, _, _, _, rfl, HF.out, HB.out⟩

set_option maxHeartbeats 3200000 in
set_option maxRecDepth 1000000 in
theorem refshift_up (w : World) (v : Value) (x n : Int) (hv : ApiV w v x) (lx : (rep x.natAbs).length ≤ 1024) (hn1 : -9223372036854775808 ≤ n) (hn2 : n ≤ 9223372036854775807) (h0 : x ≠ 0) (hn0 : 0 ≤ n) (hn : n ≤ 32768) :
    Calls Tryz.prog 14 #[v, .int .i64 n] w fun e w' => ShiftRes w w' e x n := by
  have hv' := hv
  obtain ⟨a1, c1, rfl, hc1, hl1⟩ := hv
  obtain ⟨n1, hN1⟩ : ∃ k, k = (rep x.natAbs).length := ⟨_, rfl⟩
  obtain ⟨s1, hS1⟩ : ∃ s, s = decide (x < 0) := ⟨_, rfl⟩
  rw [← hS1, ← hN1] at hv' ⊢
  obtain ⟨W, hWe, r0, r1, hW, hsz⟩ := rows2 w 24 (.bool s1) (.slice a1 n1 c1) (.bool false) (.slice none 0 0)
  have HWe := Lib.hid hWe; clear hWe
  have hvW := hv'.below hW
  have HvW := Lib.hid hvW
  have q0 := r0.cell_at 0
  have q1 := r0.cell_at 1
  have k0 := r1.cell_at 0
  have k1 := r1.cell_at 1
  have k2 := r1.free 0
  have k3 := r1.free 1
  simp only [List.getElem?_cons_zero, List.getElem?_cons_succ] at q0 q1 k0 k1
  have d0 : ((n1 : Int) == 0) = false := by rw [beq_eq_false_iff_ne, hN1]; intro e0; exact h0 (by have := rep_length_zero (n := x.natAbs); omega)
  obtain ⟨k, hk⟩ := Int.eq_ofNat_of_zero_le hn0
  subst hk
  have hk : k ≤ 32768 := by omega
  have hz : shiftZ x (k : Int) = x * 2 ^ k := by unfold shiftZ; rw [if_pos (by omega)]; rfl
  obtain ⟨z, hze⟩ : ∃ z, z = x * 2 ^ k := ⟨_, rfl⟩
  unfold ShiftRes
  rw [hz, ← hze]
  have lk : (rep ((2 : Int) ^ k).natAbs).length ≤ 1025 := pow_len (show k < 32 * 1025 by omega)
  have HP := Lib.hid (fun X (h : Below W.heap.size W X) => (ref_power X k (by omega)).mono fun e X' he => show (∃ b a n c, e = .returned (.agg #[.bool b, .slice a n c]) ∧ ApiV X' (.agg #[.bool b, .slice a n c]) ((2 : Int) ^ k)) ∧ Below W.heap.size W X' from by
    obtain ⟨u, rfl, hu, hb⟩ := he
    obtain ⟨b, a, m, c, rfl, _⟩ := hu.open
    exact ⟨⟨_, _, _, _, rfl, hu⟩, h.trans (hb.mono h.size)⟩)
  have hM := fun X b a n c (hp : ApiV X (.agg #[.bool b, .slice a n c]) ((2 : Int) ^ k)) (h : Below W.heap.size W X) => (ref_mul X _ _ x ((2 : Int) ^ k) (hvW.below h) hp (by omega) (by omega)).mono fun e X' he => show (∃ a c, e = .returned (.agg #[.bool (decide (x * 2 ^ k < 0)), .slice a (rep (x * 2 ^ k).natAbs).length c]) ∧ Fin w X' (w.heap.size + 1) (x * 2 ^ k) a c) ∧ Below W.heap.size W X' from by
    obtain ⟨u, rfl, hu, hb⟩ := he
    have hb' := h.trans (hb.mono h.size)
    obtain ⟨a, c, rfl, hf⟩ := Fin.of r1 hW (by omega) hu hb'
    exact ⟨⟨a, c, rfl, hf⟩, hb'⟩
  rw [← hze] at hM
  have HM := Lib.hid hM; clear hM
  obtain ⟨hk1, hs1⟩ := rows2_keep r0 r1
  have HK := Lib.hid hk1; clear hk1
  have HS := Lib.hid hs1; clear hs1
  clear hvW hN1 hS1 lx h0 hl1 hze hz k0 k1 k2 k3 lk HvW
  have h := Below.refl W.heap.size W
  go_enter Tryz.func14, Tryz.ntmps14
  go_wp2_with fail
  rw [← HWe.out]
  go_region_held3 (fun X => (X.cell? ⟨w.heap.size, 0, none⟩ = some (.bool s1) ∧ X.cell? ⟨w.heap.size, 1, none⟩ = some (.slice a1 n1 c1)))
    (first | (apply HK.out; (repeat (first | exact h | apply Below.drew)); done) | (apply HS.out; apply below_store; apply below_store; apply Below.mono; (repeat (first | exact h | apply Below.drew)); omega; exact Nat.le_refl _; exact Nat.le_refl _))
    (first
      | (go_at_call 76; apply Calls.mono; apply HP.out; (repeat (first | exact h | apply Below.drew)); clear h; rintro e w' ⟨⟨b', a', n', c', rfl, hpw⟩, h⟩)
      | (go_at_call 25; apply Calls.mono; apply HM.out; exact hpw; (repeat (first | exact h | apply Below.drew)); clear h hpw; rintro e w' ⟨⟨a3, c3, rfl, hfin⟩, h⟩; obtain ⟨q0, q1, q2, q3, e0, e1, hf⟩ := hfin))
  go_wp2
  (try simp only [Exit.inBlock, Exit.then])
  refine bodyPost_ret (v := .tuple #[.agg #[.bool (decide (z < 0)), .slice a3 (rep z.natAbs).length c3], .bool true]) (by simp [results, Tryz.results14, go_sem, e0, e1]) rfl ?_
  exact ⟨_, _, _, _, rfl, hf.out⟩

set_option maxHeartbeats 3200000 in
set_option maxRecDepth 1000000 in
theorem refshift_down (w : World) (v : Value) (x n : Int) (hv : ApiV w v x) (lx : (rep x.natAbs).length ≤ 1024) (hn1 : -9223372036854775808 ≤ n) (hn2 : n ≤ 9223372036854775807) (h0 : x ≠ 0) (hn0 : n < 0) (hn : -32768 ≤ n) :
    Calls Tryz.prog 14 #[v, .int .i64 n] w fun e w' => ShiftRes w w' e x n := by
  have hv' := hv
  obtain ⟨a1, c1, rfl, hc1, hl1⟩ := hv
  obtain ⟨n1, hN1⟩ : ∃ k, k = (rep x.natAbs).length := ⟨_, rfl⟩
  obtain ⟨s1, hS1⟩ : ∃ s, s = decide (x < 0) := ⟨_, rfl⟩
  rw [← hS1, ← hN1] at hv' ⊢
  obtain ⟨W, hWe, r0, r1, hW, hsz⟩ := rows2 w 24 (.bool s1) (.slice a1 n1 c1) (.bool false) (.slice none 0 0)
  have HWe := Lib.hid hWe; clear hWe
  have hvW := hv'.below hW
  have HvW := Lib.hid hvW
  have q0 := r0.cell_at 0
  have q1 := r0.cell_at 1
  have k0 := r1.cell_at 0
  have k1 := r1.cell_at 1
  have k2 := r1.free 0
  have k3 := r1.free 1
  simp only [List.getElem?_cons_zero, List.getElem?_cons_succ] at q0 q1 k0 k1
  have d0 : ((n1 : Int) == 0) = false := by rw [beq_eq_false_iff_ne, hN1]; intro e0; exact h0 (by have := rep_length_zero (n := x.natAbs); omega)
  obtain ⟨k, hk⟩ : ∃ k : Nat, n = -(k : Int) := ⟨n.natAbs, by omega⟩
  subst hk
  have hk' : k ≤ 1048576 := by omega
  have hk0 : 0 < k := by omega
  have hwk : IntKind.i64.wrap (k : Int) = (k : Int) := by simp [IntKind.wrap, IntKind.bits, IntKind.signed]; omega
  have hz : shiftZ x (-(k : Int)) = x / 2 ^ k := by unfold shiftZ; rw [if_neg (by omega), Int.neg_neg]; rfl
  have hfd : x.fdiv ((2 : Int) ^ k) = x / 2 ^ k := Int.fdiv_eq_ediv_of_nonneg x (Int.pow_nonneg (by decide))
  have HZ := Lib.hid (hz.trans hfd.symm)
  have HL1 := Lib.hid (show (rep x.natAbs).length ≤ 1048576 by omega)
  have HL2 := Lib.hid (Nat.le_trans (pow_len (show k < 32 * 1025 by omega)) (by decide) : (rep ((2 : Int) ^ k).natAbs).length ≤ 1048576)
  have HNe := Lib.hid (show (2 : Int) ^ k ≠ 0 from Int.ne_of_gt (Int.pow_pos (by decide)))
  have HBx := Lib.hid (fun X (h : Below W.heap.size W X) => show X.cell? ⟨w.heap.size, 0, none⟩ = some (.bool s1) ∧ X.cell? ⟨w.heap.size, 1, none⟩ = some (.slice a1 n1 c1) from ⟨(r0.below h r0.lt).cell_at 0, (r0.below h r0.lt).cell_at 1⟩)
  have HR1 := Lib.hid (fun X (h : Below W.heap.size W X) => r1.below h r1.lt)
  clear hvW hN1 hS1 lx h0 hl1 hz hfd k0 k1 k2 k3 r0
  go_enter Tryz.func14, Tryz.ntmps14
  go_upto_region 11 with fail
  rw [← HWe.out]
  go_cut [6] (fun s6 wx => BoxAt W (x.fdiv ((2 : Int) ^ k)) s6 wx)
  case first =>
    clear q0 q1 r1 hW hsz
    have hX : Below W.heap.size W W.drew := (Below.refl _ _).drew
    refine wp_region_held (S := fun X => Below W.heap.size W X) (by kernel_rfl) ?_
    refine wpAnyH_take_at (i := 0) (v := .agg #[.bool s1, .slice a1 n1 c1]) 29 rfl rfl (by kernel_rfl) (by kernel_rfl) (by kernel_rfl) (fun _ _ _ h => h) (.inl ⟨rfl, fun X hX => by obtain ⟨i0, i1⟩ := HBx.out X hX; go_simp⟩) hX ?_
    simp only [Act.put, List.setIfInBounds_toArray, List.set_cons_zero, List.set_cons_succ]
    refine wpAnyH_take_at (i := 1) (v := .int .i64 (-(k : Int))) 30 rfl rfl (by kernel_rfl) (by kernel_rfl) (by kernel_rfl) (fun _ _ _ h => h) (.inl ⟨rfl, fun X hX => by go_simp⟩) hX ?_
    simp only [Act.put, List.setIfInBounds_toArray, List.set_cons_zero, List.set_cons_succ]
    refine wpAnyH_take_at (i := 2) (v := .int .i64 (k : Nat)) 31 rfl rfl (by kernel_rfl) (by kernel_rfl) (by kernel_rfl) (fun _ _ _ h => h) (.inl ⟨rfl, fun X hX => by go_simp⟩) hX ?_
    simp only [Act.put, List.setIfInBounds_toArray, List.set_cons_zero, List.set_cons_succ]
    refine wpAnyH_all (rs := [3, 8, 9]) (by kernel_rfl) (by decide) (fun i hi => ?_)
    simp only [List.mem_cons, List.not_mem_nil, or_false] at hi
    rcases hi with rfl | rfl | rfl
    · unfold wpOp
      go_simp
      refine .inl ((ref_power _ k hk').mono ?_)
      rintro e X1 ⟨u32, rfl, hu32, hb⟩
      replace hX := hX.trans (hb.mono hX.size)
      clear hb
      replace hu32 := Lib.hid hu32
      refine ⟨hX, ?_⟩
      refine wpAnyH_all (rs := [4, 8, 9]) (by kernel_rfl) (by decide) (fun i hi => ?_)
      simp only [List.mem_cons, List.not_mem_nil, or_false] at hi
      rcases hi with rfl | rfl | rfl
      · unfold wpOp
        go_simp
        refine .inl ((ref_div _ _ _ x ((2 : Int) ^ k) (HvW.out.below hX) hu32.out HL1.out HL2.out HNe.out).mono ?_)
        rintro e X2 ⟨bq, aq, nq, cq, br, ar, nr, cr, rfl, hq, hr, hb⟩
        replace hu32 := Lib.hid (hu32.out.below hb)
        replace hX := hX.trans (hb.mono hX.size)
        clear hb
        replace hq := Lib.hid hq
        replace hr := Lib.hid hr
        clear hu32
        refine ⟨hX, ?_⟩
        refine wpAnyH_take_at (i := 5) (v := .tuple #[.agg #[.bool bq, .slice aq nq cq], .agg #[.bool br, .slice ar nr cr]]) 28 rfl rfl (by kernel_rfl) (by kernel_rfl) (by kernel_rfl) (fun _ _ _ h => h) (.inl ⟨rfl, fun X hX => by go_simp⟩) hX ?_
        simp only [Act.put, List.setIfInBounds_toArray, List.set_cons_zero, List.set_cons_succ]
        refine wpAnyH_take_at (i := 6) (v := .agg #[.bool bq, .slice aq nq cq]) 34 rfl rfl (by kernel_rfl) (by kernel_rfl) (by kernel_rfl) (fun _ _ _ h => h) (.inl ⟨rfl, fun X hX => by go_simp⟩) hX ?_
        simp only [Act.put, List.setIfInBounds_toArray, List.set_cons_zero, List.set_cons_succ]
        refine wpAnyH_take_at (i := 7) (v := .agg #[.bool br, .slice ar nr cr]) 35 rfl rfl (by kernel_rfl) (by kernel_rfl) (by kernel_rfl) (fun _ _ _ h => h) (.inl ⟨rfl, fun X hX => by go_simp⟩) hX ?_
        simp only [Act.put, List.setIfInBounds_toArray, List.set_cons_zero, List.set_cons_succ]
        refine wpAnyH_all (rs := [8, 9]) (by kernel_rfl) (by decide) (fun i hi => ?_)
        simp only [List.mem_cons, List.not_mem_nil, or_false] at hi
        rcases hi with rfl | rfl
        · refine wpOp_alloc_int (o := _) rfl rfl rfl (fun X3 g6 rg6 hb hg6 hlt => ?_)
          clear hlt
          replace hg6 := Nat.le_trans hX.size hg6
          replace hq := Lib.hid (hq.out.below hb)
          replace hr := Lib.hid (hr.out.below hb)
          replace hX := hX.trans (hb.mono hX.size)
          clear hb
          refine ⟨hX, ?_⟩
          simp only [Act.put, List.setIfInBounds_toArray, List.set_cons_zero, List.set_cons_succ]
          refine wpAnyH_all (rs := [9]) (by kernel_rfl) (by decide) (fun i hi => ?_)
          rw [List.mem_singleton] at hi
          subst hi
          refine wpOp_alloc_int (o := _) rfl rfl rfl (fun X4 g7 rg7 hb hg7 hlt => ?_)
          clear hlt
          have hng : g7 ≠ g6 := by have := rg6.lt; omega
          replace hg7 := Nat.le_trans hX.size hg7
          replace hq := Lib.hid (hq.out.below hb)
          replace hr := Lib.hid (hr.out.below hb)
          replace rg6 := rg6.below hb rg6.lt
          replace hX := hX.trans (hb.mono hX.size)
          clear hb
          refine ⟨hX, ?_⟩
          simp only [Act.put, List.setIfInBounds_toArray, List.set_cons_zero, List.set_cons_succ]
          refine wpAnyH_all (rs := [10]) (by kernel_rfl) (by decide) (fun i hi => ?_)
          rw [List.mem_singleton] at hi
          subst hi
          have k0 := rg6.cell_at 0
          have k1 := rg6.cell_at 1
          have f0 := rg6.free 0
          have f1 := rg6.free 1
          simp only [List.getElem?_cons_zero, List.getElem?_cons_succ] at k0 k1
          unfold wpOp
          go_simp
          have HF := Lib.hid (box_store (U := W) rg6 hg6 hq.out hX)
          have hne := rg7.other (a := ⟨g6, 0, none⟩) hng (.bool bq)
          replace rg7 := hne.other (a := ⟨g6, 1, none⟩) hng (.slice aq nq cq)
          replace hX := below_store (below_store hX hg6 (i := 0) (.bool bq)) hg6 (i := 1) (.slice aq nq cq)
          clear k0 k1 f0 f1 rg6 hq hr hne
          refine .inl ⟨hX, ?_⟩
          refine wpAnyH_all (rs := [11]) (by kernel_rfl) (by decide) (fun i hi => ?_)
          rw [List.mem_singleton] at hi
          subst hi
          have k0 := rg7.cell_at 0
          have k1 := rg7.cell_at 1
          have f0 := rg7.free 0
          have f1 := rg7.free 1
          simp only [List.getElem?_cons_zero, List.getElem?_cons_succ] at k0 k1
          unfold wpOp
          go_simp
          replace HF := Lib.hid (box_other (u := .bool br) (v := .slice ar nr cr) HF.out rg7 hg7 (fun e => hng (by cases e; rfl)))
          replace hX := below_store (below_store hX hg7 (i := 0) (.bool br)) hg7 (i := 1) (.slice ar nr cr)
          clear k0 k1 f0 f1 rg7
          refine .inl ⟨hX, ?_⟩
          refine wpAnyH_done (by kernel_rfl) ?_ _
          go_wp2_with fail
          go_meet
          exact HF.out
        · refine wpOp_alloc_int (o := _) rfl rfl rfl (fun X7 g7 rg7 hb hg7 hlt => ?_)
          clear hlt
          replace hg7 := Nat.le_trans hX.size hg7
          replace hq := Lib.hid (hq.out.below hb)
          replace hr := Lib.hid (hr.out.below hb)
          replace hX := hX.trans (hb.mono hX.size)
          clear hb
          refine ⟨hX, ?_⟩
          simp only [Act.put, List.setIfInBounds_toArray, List.set_cons_zero, List.set_cons_succ]
          refine wpAnyH_all (rs := [8]) (by kernel_rfl) (by decide) (fun i hi => ?_)
          rw [List.mem_singleton] at hi
          subst hi
          refine wpOp_alloc_int (o := _) rfl rfl rfl (fun X8 g6 rg6 hb hg6 hlt => ?_)
          clear hlt
          have hng : g7 ≠ g6 := by have := rg7.lt; omega
          replace hg6 := Nat.le_trans hX.size hg6
          replace hq := Lib.hid (hq.out.below hb)
          replace hr := Lib.hid (hr.out.below hb)
          replace rg7 := rg7.below hb rg7.lt
          replace hX := hX.trans (hb.mono hX.size)
          clear hb
          refine ⟨hX, ?_⟩
          simp only [Act.put, List.setIfInBounds_toArray, List.set_cons_zero, List.set_cons_succ]
          refine wpAnyH_all (rs := [10]) (by kernel_rfl) (by decide) (fun i hi => ?_)
          rw [List.mem_singleton] at hi
          subst hi
          have k0 := rg6.cell_at 0
          have k1 := rg6.cell_at 1
          have f0 := rg6.free 0
          have f1 := rg6.free 1
          simp only [List.getElem?_cons_zero, List.getElem?_cons_succ] at k0 k1
          unfold wpOp
          go_simp
          have HF := Lib.hid (box_store (U := W) rg6 hg6 hq.out hX)
          have hne := rg7.other (a := ⟨g6, 0, none⟩) hng (.bool bq)
          replace rg7 := hne.other (a := ⟨g6, 1, none⟩) hng (.slice aq nq cq)
          replace hX := below_store (below_store hX hg6 (i := 0) (.bool bq)) hg6 (i := 1) (.slice aq nq cq)
          clear k0 k1 f0 f1 rg6 hq hr hne
          refine .inl ⟨hX, ?_⟩
          refine wpAnyH_all (rs := [11]) (by kernel_rfl) (by decide) (fun i hi => ?_)
          rw [List.mem_singleton] at hi
          subst hi
          have k0 := rg7.cell_at 0
          have k1 := rg7.cell_at 1
          have f0 := rg7.free 0
          have f1 := rg7.free 1
          simp only [List.getElem?_cons_zero, List.getElem?_cons_succ] at k0 k1
          unfold wpOp
          go_simp
          replace HF := Lib.hid (box_other (u := .bool br) (v := .slice ar nr cr) HF.out rg7 hg7 (fun e => hng (by cases e; rfl)))
          replace hX := below_store (below_store hX hg7 (i := 0) (.bool br)) hg7 (i := 1) (.slice ar nr cr)
          clear k0 k1 f0 f1 rg7
          refine .inl ⟨hX, ?_⟩
          refine wpAnyH_done (by kernel_rfl) ?_ _
          go_wp2_with fail
          go_meet
          exact HF.out
      · refine wpOp_alloc_int (o := _) rfl rfl rfl (fun X11 g6 rg6 hb hg6 hlt => ?_)
        clear hlt
        replace hg6 := Nat.le_trans hX.size hg6
        replace hu32 := Lib.hid (hu32.out.below hb)
        replace hX := hX.trans (hb.mono hX.size)
        clear hb
        refine ⟨hX, ?_⟩
        simp only [Act.put, List.setIfInBounds_toArray, List.set_cons_zero, List.set_cons_succ]
        refine wpAnyH_all (rs := [4, 9]) (by kernel_rfl) (by decide) (fun i hi => ?_)
        simp only [List.mem_cons, List.not_mem_nil, or_false] at hi
        rcases hi with rfl | rfl
        · unfold wpOp
          go_simp
          refine .inl ((ref_div _ _ _ x ((2 : Int) ^ k) (HvW.out.below hX) hu32.out HL1.out HL2.out HNe.out).mono ?_)
          rintro e X12 ⟨bq, aq, nq, cq, br, ar, nr, cr, rfl, hq, hr, hb⟩
          replace hu32 := Lib.hid (hu32.out.below hb)
          replace rg6 := rg6.below hb rg6.lt
          replace hX := hX.trans (hb.mono hX.size)
          clear hb
          replace hq := Lib.hid hq
          replace hr := Lib.hid hr
          clear hu32
          refine ⟨hX, ?_⟩
          refine wpAnyH_take_at (i := 5) (v := .tuple #[.agg #[.bool bq, .slice aq nq cq], .agg #[.bool br, .slice ar nr cr]]) 28 rfl rfl (by kernel_rfl) (by kernel_rfl) (by kernel_rfl) (fun _ _ _ h => h) (.inl ⟨rfl, fun X hX => by go_simp⟩) hX ?_
          simp only [Act.put, List.setIfInBounds_toArray, List.set_cons_zero, List.set_cons_succ]
          refine wpAnyH_take_at (i := 6) (v := .agg #[.bool bq, .slice aq nq cq]) 34 rfl rfl (by kernel_rfl) (by kernel_rfl) (by kernel_rfl) (fun _ _ _ h => h) (.inl ⟨rfl, fun X hX => by go_simp⟩) hX ?_
          simp only [Act.put, List.setIfInBounds_toArray, List.set_cons_zero, List.set_cons_succ]
          refine wpAnyH_take_at (i := 7) (v := .agg #[.bool br, .slice ar nr cr]) 35 rfl rfl (by kernel_rfl) (by kernel_rfl) (by kernel_rfl) (fun _ _ _ h => h) (.inl ⟨rfl, fun X hX => by go_simp⟩) hX ?_
          simp only [Act.put, List.setIfInBounds_toArray, List.set_cons_zero, List.set_cons_succ]
          refine wpAnyH_all (rs := [9]) (by kernel_rfl) (by decide) (fun i hi => ?_)
          rw [List.mem_singleton] at hi
          subst hi
          refine wpOp_alloc_int (o := _) rfl rfl rfl (fun X13 g7 rg7 hb hg7 hlt => ?_)
          clear hlt
          have hng : g7 ≠ g6 := by have := rg6.lt; omega
          replace hg7 := Nat.le_trans hX.size hg7
          replace hq := Lib.hid (hq.out.below hb)
          replace hr := Lib.hid (hr.out.below hb)
          replace rg6 := rg6.below hb rg6.lt
          replace hX := hX.trans (hb.mono hX.size)
          clear hb
          refine ⟨hX, ?_⟩
          simp only [Act.put, List.setIfInBounds_toArray, List.set_cons_zero, List.set_cons_succ]
          refine wpAnyH_all (rs := [10]) (by kernel_rfl) (by decide) (fun i hi => ?_)
          rw [List.mem_singleton] at hi
          subst hi
          have k0 := rg6.cell_at 0
          have k1 := rg6.cell_at 1
          have f0 := rg6.free 0
          have f1 := rg6.free 1
          simp only [List.getElem?_cons_zero, List.getElem?_cons_succ] at k0 k1
          unfold wpOp
          go_simp
          have HF := Lib.hid (box_store (U := W) rg6 hg6 hq.out hX)
          have hne := rg7.other (a := ⟨g6, 0, none⟩) hng (.bool bq)
          replace rg7 := hne.other (a := ⟨g6, 1, none⟩) hng (.slice aq nq cq)
          replace hX := below_store (below_store hX hg6 (i := 0) (.bool bq)) hg6 (i := 1) (.slice aq nq cq)
          clear k0 k1 f0 f1 rg6 hq hr hne
          refine .inl ⟨hX, ?_⟩
          refine wpAnyH_all (rs := [11]) (by kernel_rfl) (by decide) (fun i hi => ?_)
          rw [List.mem_singleton] at hi
          subst hi
          have k0 := rg7.cell_at 0
          have k1 := rg7.cell_at 1
          have f0 := rg7.free 0
          have f1 := rg7.free 1
          simp only [List.getElem?_cons_zero, List.getElem?_cons_succ] at k0 k1
          unfold wpOp
          go_simp
          replace HF := Lib.hid (box_other (u := .bool br) (v := .slice ar nr cr) HF.out rg7 hg7 (fun e => hng (by cases e; rfl)))
          replace hX := below_store (below_store hX hg7 (i := 0) (.bool br)) hg7 (i := 1) (.slice ar nr cr)
          clear k0 k1 f0 f1 rg7
          refine .inl ⟨hX, ?_⟩
          refine wpAnyH_done (by kernel_rfl) ?_ _
          go_wp2_with fail
          go_meet
          exact HF.out
        · refine wpOp_alloc_int (o := _) rfl rfl rfl (fun X16 g7 rg7 hb hg7 hlt => ?_)
          clear hlt
          have hng : g7 ≠ g6 := by have := rg6.lt; omega
          replace hg7 := Nat.le_trans hX.size hg7
          replace hu32 := Lib.hid (hu32.out.below hb)
          replace rg6 := rg6.below hb rg6.lt
          replace hX := hX.trans (hb.mono hX.size)
          clear hb
          refine ⟨hX, ?_⟩
          simp only [Act.put, List.setIfInBounds_toArray, List.set_cons_zero, List.set_cons_succ]
          refine wpAnyH_all (rs := [4]) (by kernel_rfl) (by decide) (fun i hi => ?_)
          rw [List.mem_singleton] at hi
          subst hi
          unfold wpOp
          go_simp
          refine .inl ((ref_div _ _ _ x ((2 : Int) ^ k) (HvW.out.below hX) hu32.out HL1.out HL2.out HNe.out).mono ?_)
          rintro e X17 ⟨bq, aq, nq, cq, br, ar, nr, cr, rfl, hq, hr, hb⟩
          replace hu32 := Lib.hid (hu32.out.below hb)
          replace rg6 := rg6.below hb rg6.lt
          replace rg7 := rg7.below hb rg7.lt
          replace hX := hX.trans (hb.mono hX.size)
          clear hb
          replace hq := Lib.hid hq
          replace hr := Lib.hid hr
          clear hu32
          refine ⟨hX, ?_⟩
          refine wpAnyH_take_at (i := 5) (v := .tuple #[.agg #[.bool bq, .slice aq nq cq], .agg #[.bool br, .slice ar nr cr]]) 28 rfl rfl (by kernel_rfl) (by kernel_rfl) (by kernel_rfl) (fun _ _ _ h => h) (.inl ⟨rfl, fun X hX => by go_simp⟩) hX ?_
          simp only [Act.put, List.setIfInBounds_toArray, List.set_cons_zero, List.set_cons_succ]
          refine wpAnyH_take_at (i := 6) (v := .agg #[.bool bq, .slice aq nq cq]) 34 rfl rfl (by kernel_rfl) (by kernel_rfl) (by kernel_rfl) (fun _ _ _ h => h) (.inl ⟨rfl, fun X hX => by go_simp⟩) hX ?_
          simp only [Act.put, List.setIfInBounds_toArray, List.set_cons_zero, List.set_cons_succ]
          refine wpAnyH_take_at (i := 7) (v := .agg #[.bool br, .slice ar nr cr]) 35 rfl rfl (by kernel_rfl) (by kernel_rfl) (by kernel_rfl) (fun _ _ _ h => h) (.inl ⟨rfl, fun X hX => by go_simp⟩) hX ?_
          simp only [Act.put, List.setIfInBounds_toArray, List.set_cons_zero, List.set_cons_succ]
          refine wpAnyH_all (rs := [10]) (by kernel_rfl) (by decide) (fun i hi => ?_)
          rw [List.mem_singleton] at hi
          subst hi
          have k0 := rg6.cell_at 0
          have k1 := rg6.cell_at 1
          have f0 := rg6.free 0
          have f1 := rg6.free 1
          simp only [List.getElem?_cons_zero, List.getElem?_cons_succ] at k0 k1
          unfold wpOp
          go_simp
          have HF := Lib.hid (box_store (U := W) rg6 hg6 hq.out hX)
          have hne := rg7.other (a := ⟨g6, 0, none⟩) hng (.bool bq)
          replace rg7 := hne.other (a := ⟨g6, 1, none⟩) hng (.slice aq nq cq)
          replace hX := below_store (below_store hX hg6 (i := 0) (.bool bq)) hg6 (i := 1) (.slice aq nq cq)
          clear k0 k1 f0 f1 rg6 hq hr hne
          refine .inl ⟨hX, ?_⟩
          refine wpAnyH_all (rs := [11]) (by kernel_rfl) (by decide) (fun i hi => ?_)
          rw [List.mem_singleton] at hi
          subst hi
          have k0 := rg7.cell_at 0
          have k1 := rg7.cell_at 1
          have f0 := rg7.free 0
          have f1 := rg7.free 1
          simp only [List.getElem?_cons_zero, List.getElem?_cons_succ] at k0 k1
          unfold wpOp
          go_simp
          replace HF := Lib.hid (box_other (u := .bool br) (v := .slice ar nr cr) HF.out rg7 hg7 (fun e => hng (by cases e; rfl)))
          replace hX := below_store (below_store hX hg7 (i := 0) (.bool br)) hg7 (i := 1) (.slice ar nr cr)
          clear k0 k1 f0 f1 rg7
          refine .inl ⟨hX, ?_⟩
          refine wpAnyH_done (by kernel_rfl) ?_ _
          go_wp2_with fail
          go_meet
          exact HF.out
      · refine wpOp_alloc_int (o := _) rfl rfl rfl (fun X20 g7 rg7 hb hg7 hlt => ?_)
        clear hlt
        replace hg7 := Nat.le_trans hX.size hg7
        replace hu32 := Lib.hid (hu32.out.below hb)
        replace hX := hX.trans (hb.mono hX.size)
        clear hb
        refine ⟨hX, ?_⟩
        simp only [Act.put, List.setIfInBounds_toArray, List.set_cons_zero, List.set_cons_succ]
        refine wpAnyH_all (rs := [4, 8]) (by kernel_rfl) (by decide) (fun i hi => ?_)
        simp only [List.mem_cons, List.not_mem_nil, or_false] at hi
        rcases hi with rfl | rfl
        · unfold wpOp
          go_simp
          refine .inl ((ref_div _ _ _ x ((2 : Int) ^ k) (HvW.out.below hX) hu32.out HL1.out HL2.out HNe.out).mono ?_)
          rintro e X21 ⟨bq, aq, nq, cq, br, ar, nr, cr, rfl, hq, hr, hb⟩
          replace hu32 := Lib.hid (hu32.out.below hb)
          replace rg7 := rg7.below hb rg7.lt
          replace hX := hX.trans (hb.mono hX.size)
          clear hb
          replace hq := Lib.hid hq
          replace hr := Lib.hid hr
          clear hu32
          refine ⟨hX, ?_⟩
          refine wpAnyH_take_at (i := 5) (v := .tuple #[.agg #[.bool bq, .slice aq nq cq], .agg #[.bool br, .slice ar nr cr]]) 28 rfl rfl (by kernel_rfl) (by kernel_rfl) (by kernel_rfl) (fun _ _ _ h => h) (.inl ⟨rfl, fun X hX => by go_simp⟩) hX ?_
          simp only [Act.put, List.setIfInBounds_toArray, List.set_cons_zero, List.set_cons_succ]
          refine wpAnyH_take_at (i := 6) (v := .agg #[.bool bq, .slice aq nq cq]) 34 rfl rfl (by kernel_rfl) (by kernel_rfl) (by kernel_rfl) (fun _ _ _ h => h) (.inl ⟨rfl, fun X hX => by go_simp⟩) hX ?_
          simp only [Act.put, List.setIfInBounds_toArray, List.set_cons_zero, List.set_cons_succ]
          refine wpAnyH_take_at (i := 7) (v := .agg #[.bool br, .slice ar nr cr]) 35 rfl rfl (by kernel_rfl) (by kernel_rfl) (by kernel_rfl) (fun _ _ _ h => h) (.inl ⟨rfl, fun X hX => by go_simp⟩) hX ?_
          simp only [Act.put, List.setIfInBounds_toArray, List.set_cons_zero, List.set_cons_succ]
          refine wpAnyH_all (rs := [8]) (by kernel_rfl) (by decide) (fun i hi => ?_)
          rw [List.mem_singleton] at hi
          subst hi
          refine wpOp_alloc_int (o := _) rfl rfl rfl (fun X22 g6 rg6 hb hg6 hlt => ?_)
          clear hlt
          have hng : g7 ≠ g6 := by have := rg7.lt; omega
          replace hg6 := Nat.le_trans hX.size hg6
          replace hq := Lib.hid (hq.out.below hb)
          replace hr := Lib.hid (hr.out.below hb)
          replace rg7 := rg7.below hb rg7.lt
          replace hX := hX.trans (hb.mono hX.size)
          clear hb
          refine ⟨hX, ?_⟩
          simp only [Act.put, List.setIfInBounds_toArray, List.set_cons_zero, List.set_cons_succ]
          refine wpAnyH_all (rs := [10]) (by kernel_rfl) (by decide) (fun i hi => ?_)
          rw [List.mem_singleton] at hi
          subst hi
          have k0 := rg6.cell_at 0
          have k1 := rg6.cell_at 1
          have f0 := rg6.free 0
          have f1 := rg6.free 1
          simp only [List.getElem?_cons_zero, List.getElem?_cons_succ] at k0 k1
          unfold wpOp
          go_simp
          have HF := Lib.hid (box_store (U := W) rg6 hg6 hq.out hX)
          have hne := rg7.other (a := ⟨g6, 0, none⟩) hng (.bool bq)
          replace rg7 := hne.other (a := ⟨g6, 1, none⟩) hng (.slice aq nq cq)
          replace hX := below_store (below_store hX hg6 (i := 0) (.bool bq)) hg6 (i := 1) (.slice aq nq cq)
          clear k0 k1 f0 f1 rg6 hq hr hne
          refine .inl ⟨hX, ?_⟩
          refine wpAnyH_all (rs := [11]) (by kernel_rfl) (by decide) (fun i hi => ?_)
          rw [List.mem_singleton] at hi
          subst hi
          have k0 := rg7.cell_at 0
          have k1 := rg7.cell_at 1
          have f0 := rg7.free 0
          have f1 := rg7.free 1
          simp only [List.getElem?_cons_zero, List.getElem?_cons_succ] at k0 k1
          unfold wpOp
          go_simp
          replace HF := Lib.hid (box_other (u := .bool br) (v := .slice ar nr cr) HF.out rg7 hg7 (fun e => hng (by cases e; rfl)))
          replace hX := below_store (below_store hX hg7 (i := 0) (.bool br)) hg7 (i := 1) (.slice ar nr cr)
          clear k0 k1 f0 f1 rg7
          refine .inl ⟨hX, ?_⟩
          refine wpAnyH_done (by kernel_rfl) ?_ _
          go_wp2_with fail
          go_meet
          exact HF.out
        · refine wpOp_alloc_int (o := _) rfl rfl rfl (fun X25 g6 rg6 hb hg6 hlt => ?_)
          clear hlt
          have hng : g7 ≠ g6 := by have := rg7.lt; omega
          replace hg6 := Nat.le_trans hX.size hg6
          replace hu32 := Lib.hid (hu32.out.below hb)
          replace rg7 := rg7.below hb rg7.lt
          replace hX := hX.trans (hb.mono hX.size)
          clear hb
          refine ⟨hX, ?_⟩
          simp only [Act.put, List.setIfInBounds_toArray, List.set_cons_zero, List.set_cons_succ]
          refine wpAnyH_all (rs := [4]) (by kernel_rfl) (by decide) (fun i hi => ?_)
          rw [List.mem_singleton] at hi
          subst hi
          unfold wpOp
          go_simp
          refine .inl ((ref_div _ _ _ x ((2 : Int) ^ k) (HvW.out.below hX) hu32.out HL1.out HL2.out HNe.out).mono ?_)
          rintro e X26 ⟨bq, aq, nq, cq, br, ar, nr, cr, rfl, hq, hr, hb⟩
          replace hu32 := Lib.hid (hu32.out.below hb)
          replace rg6 := rg6.below hb rg6.lt
          replace rg7 := rg7.below hb rg7.lt
          replace hX := hX.trans (hb.mono hX.size)
          clear hb
          replace hq := Lib.hid hq
          replace hr := Lib.hid hr
          clear hu32
          refine ⟨hX, ?_⟩
          refine wpAnyH_take_at (i := 5) (v := .tuple #[.agg #[.bool bq, .slice aq nq cq], .agg #[.bool br, .slice ar nr cr]]) 28 rfl rfl (by kernel_rfl) (by kernel_rfl) (by kernel_rfl) (fun _ _ _ h => h) (.inl ⟨rfl, fun X hX => by go_simp⟩) hX ?_
          simp only [Act.put, List.setIfInBounds_toArray, List.set_cons_zero, List.set_cons_succ]
          refine wpAnyH_take_at (i := 6) (v := .agg #[.bool bq, .slice aq nq cq]) 34 rfl rfl (by kernel_rfl) (by kernel_rfl) (by kernel_rfl) (fun _ _ _ h => h) (.inl ⟨rfl, fun X hX => by go_simp⟩) hX ?_
          simp only [Act.put, List.setIfInBounds_toArray, List.set_cons_zero, List.set_cons_succ]
          refine wpAnyH_take_at (i := 7) (v := .agg #[.bool br, .slice ar nr cr]) 35 rfl rfl (by kernel_rfl) (by kernel_rfl) (by kernel_rfl) (fun _ _ _ h => h) (.inl ⟨rfl, fun X hX => by go_simp⟩) hX ?_
          simp only [Act.put, List.setIfInBounds_toArray, List.set_cons_zero, List.set_cons_succ]
          refine wpAnyH_all (rs := [10]) (by kernel_rfl) (by decide) (fun i hi => ?_)
          rw [List.mem_singleton] at hi
          subst hi
          have k0 := rg6.cell_at 0
          have k1 := rg6.cell_at 1
          have f0 := rg6.free 0
          have f1 := rg6.free 1
          simp only [List.getElem?_cons_zero, List.getElem?_cons_succ] at k0 k1
          unfold wpOp
          go_simp
          have HF := Lib.hid (box_store (U := W) rg6 hg6 hq.out hX)
          have hne := rg7.other (a := ⟨g6, 0, none⟩) hng (.bool bq)
          replace rg7 := hne.other (a := ⟨g6, 1, none⟩) hng (.slice aq nq cq)
          replace hX := below_store (below_store hX hg6 (i := 0) (.bool bq)) hg6 (i := 1) (.slice aq nq cq)
          clear k0 k1 f0 f1 rg6 hq hr hne
          refine .inl ⟨hX, ?_⟩
          refine wpAnyH_all (rs := [11]) (by kernel_rfl) (by decide) (fun i hi => ?_)
          rw [List.mem_singleton] at hi
          subst hi
          have k0 := rg7.cell_at 0
          have k1 := rg7.cell_at 1
          have f0 := rg7.free 0
          have f1 := rg7.free 1
          simp only [List.getElem?_cons_zero, List.getElem?_cons_succ] at k0 k1
          unfold wpOp
          go_simp
          replace HF := Lib.hid (box_other (u := .bool br) (v := .slice ar nr cr) HF.out rg7 hg7 (fun e => hng (by cases e; rfl)))
          replace hX := below_store (below_store hX hg7 (i := 0) (.bool br)) hg7 (i := 1) (.slice ar nr cr)
          clear k0 k1 f0 f1 rg7
          refine .inl ⟨hX, ?_⟩
          refine wpAnyH_done (by kernel_rfl) ?_ _
          go_wp2_with fail
          go_meet
          exact HF.out
    · refine wpOp_alloc_int (o := _) rfl rfl rfl (fun X29 g6 rg6 hb hg6 hlt => ?_)
      clear hlt
      replace hg6 := Nat.le_trans hX.size hg6
      replace hX := hX.trans (hb.mono hX.size)
      clear hb
      refine ⟨hX, ?_⟩
      simp only [Act.put, List.setIfInBounds_toArray, List.set_cons_zero, List.set_cons_succ]
      refine wpAnyH_all (rs := [3, 9]) (by kernel_rfl) (by decide) (fun i hi => ?_)
      simp only [List.mem_cons, List.not_mem_nil, or_false] at hi
      rcases hi with rfl | rfl
      · unfold wpOp
        go_simp
        refine .inl ((ref_power _ k hk').mono ?_)
        rintro e X30 ⟨u32, rfl, hu32, hb⟩
        replace rg6 := rg6.below hb rg6.lt
        replace hX := hX.trans (hb.mono hX.size)
        clear hb
        replace hu32 := Lib.hid hu32
        refine ⟨hX, ?_⟩
        refine wpAnyH_all (rs := [4, 9]) (by kernel_rfl) (by decide) (fun i hi => ?_)
        simp only [List.mem_cons, List.not_mem_nil, or_false] at hi
        rcases hi with rfl | rfl
        · unfold wpOp
          go_simp
          refine .inl ((ref_div _ _ _ x ((2 : Int) ^ k) (HvW.out.below hX) hu32.out HL1.out HL2.out HNe.out).mono ?_)
          rintro e X31 ⟨bq, aq, nq, cq, br, ar, nr, cr, rfl, hq, hr, hb⟩
          replace hu32 := Lib.hid (hu32.out.below hb)
          replace rg6 := rg6.below hb rg6.lt
          replace hX := hX.trans (hb.mono hX.size)
          clear hb
          replace hq := Lib.hid hq
          replace hr := Lib.hid hr
          clear hu32
          refine ⟨hX, ?_⟩
          refine wpAnyH_take_at (i := 5) (v := .tuple #[.agg #[.bool bq, .slice aq nq cq], .agg #[.bool br, .slice ar nr cr]]) 28 rfl rfl (by kernel_rfl) (by kernel_rfl) (by kernel_rfl) (fun _ _ _ h => h) (.inl ⟨rfl, fun X hX => by go_simp⟩) hX ?_
          simp only [Act.put, List.setIfInBounds_toArray, List.set_cons_zero, List.set_cons_succ]
          refine wpAnyH_take_at (i := 6) (v := .agg #[.bool bq, .slice aq nq cq]) 34 rfl rfl (by kernel_rfl) (by kernel_rfl) (by kernel_rfl) (fun _ _ _ h => h) (.inl ⟨rfl, fun X hX => by go_simp⟩) hX ?_
          simp only [Act.put, List.setIfInBounds_toArray, List.set_cons_zero, List.set_cons_succ]
          refine wpAnyH_take_at (i := 7) (v := .agg #[.bool br, .slice ar nr cr]) 35 rfl rfl (by kernel_rfl) (by kernel_rfl) (by kernel_rfl) (fun _ _ _ h => h) (.inl ⟨rfl, fun X hX => by go_simp⟩) hX ?_
          simp only [Act.put, List.setIfInBounds_toArray, List.set_cons_zero, List.set_cons_succ]
          refine wpAnyH_all (rs := [9]) (by kernel_rfl) (by decide) (fun i hi => ?_)
          rw [List.mem_singleton] at hi
          subst hi
          refine wpOp_alloc_int (o := _) rfl rfl rfl (fun X32 g7 rg7 hb hg7 hlt => ?_)
          clear hlt
          have hng : g7 ≠ g6 := by have := rg6.lt; omega
          replace hg7 := Nat.le_trans hX.size hg7
          replace hq := Lib.hid (hq.out.below hb)
          replace hr := Lib.hid (hr.out.below hb)
          replace rg6 := rg6.below hb rg6.lt
          replace hX := hX.trans (hb.mono hX.size)
          clear hb
          refine ⟨hX, ?_⟩
          simp only [Act.put, List.setIfInBounds_toArray, List.set_cons_zero, List.set_cons_succ]
          refine wpAnyH_all (rs := [10]) (by kernel_rfl) (by decide) (fun i hi => ?_)
          rw [List.mem_singleton] at hi
          subst hi
          have k0 := rg6.cell_at 0
          have k1 := rg6.cell_at 1
          have f0 := rg6.free 0
          have f1 := rg6.free 1
          simp only [List.getElem?_cons_zero, List.getElem?_cons_succ] at k0 k1
          unfold wpOp
          go_simp
          have HF := Lib.hid (box_store (U := W) rg6 hg6 hq.out hX)
          have hne := rg7.other (a := ⟨g6, 0, none⟩) hng (.bool bq)
          replace rg7 := hne.other (a := ⟨g6, 1, none⟩) hng (.slice aq nq cq)
          replace hX := below_store (below_store hX hg6 (i := 0) (.bool bq)) hg6 (i := 1) (.slice aq nq cq)
          clear k0 k1 f0 f1 rg6 hq hr hne
          refine .inl ⟨hX, ?_⟩
          refine wpAnyH_all (rs := [11]) (by kernel_rfl) (by decide) (fun i hi => ?_)
          rw [List.mem_singleton] at hi
          subst hi
          have k0 := rg7.cell_at 0
          have k1 := rg7.cell_at 1
          have f0 := rg7.free 0
          have f1 := rg7.free 1
          simp only [List.getElem?_cons_zero, List.getElem?_cons_succ] at k0 k1
          unfold wpOp
          go_simp
          replace HF := Lib.hid (box_other (u := .bool br) (v := .slice ar nr cr) HF.out rg7 hg7 (fun e => hng (by cases e; rfl)))
          replace hX := below_store (below_store hX hg7 (i := 0) (.bool br)) hg7 (i := 1) (.slice ar nr cr)
          clear k0 k1 f0 f1 rg7
          refine .inl ⟨hX, ?_⟩
          refine wpAnyH_done (by kernel_rfl) ?_ _
          go_wp2_with fail
          go_meet
          exact HF.out
        · refine wpOp_alloc_int (o := _) rfl rfl rfl (fun X35 g7 rg7 hb hg7 hlt => ?_)
          clear hlt
          have hng : g7 ≠ g6 := by have := rg6.lt; omega
          replace hg7 := Nat.le_trans hX.size hg7
          replace hu32 := Lib.hid (hu32.out.below hb)
          replace rg6 := rg6.below hb rg6.lt
          replace hX := hX.trans (hb.mono hX.size)
          clear hb
          refine ⟨hX, ?_⟩
          simp only [Act.put, List.setIfInBounds_toArray, List.set_cons_zero, List.set_cons_succ]
          refine wpAnyH_all (rs := [4]) (by kernel_rfl) (by decide) (fun i hi => ?_)
          rw [List.mem_singleton] at hi
          subst hi
          unfold wpOp
          go_simp
          refine .inl ((ref_div _ _ _ x ((2 : Int) ^ k) (HvW.out.below hX) hu32.out HL1.out HL2.out HNe.out).mono ?_)
          rintro e X36 ⟨bq, aq, nq, cq, br, ar, nr, cr, rfl, hq, hr, hb⟩
          replace hu32 := Lib.hid (hu32.out.below hb)
          replace rg6 := rg6.below hb rg6.lt
          replace rg7 := rg7.below hb rg7.lt
          replace hX := hX.trans (hb.mono hX.size)
          clear hb
          replace hq := Lib.hid hq
          replace hr := Lib.hid hr
          clear hu32
          refine ⟨hX, ?_⟩
          refine wpAnyH_take_at (i := 5) (v := .tuple #[.agg #[.bool bq, .slice aq nq cq], .agg #[.bool br, .slice ar nr cr]]) 28 rfl rfl (by kernel_rfl) (by kernel_rfl) (by kernel_rfl) (fun _ _ _ h => h) (.inl ⟨rfl, fun X hX => by go_simp⟩) hX ?_
          simp only [Act.put, List.setIfInBounds_toArray, List.set_cons_zero, List.set_cons_succ]
          refine wpAnyH_take_at (i := 6) (v := .agg #[.bool bq, .slice aq nq cq]) 34 rfl rfl (by kernel_rfl) (by kernel_rfl) (by kernel_rfl) (fun _ _ _ h => h) (.inl ⟨rfl, fun X hX => by go_simp⟩) hX ?_
          simp only [Act.put, List.setIfInBounds_toArray, List.set_cons_zero, List.set_cons_succ]
          refine wpAnyH_take_at (i := 7) (v := .agg #[.bool br, .slice ar nr cr]) 35 rfl rfl (by kernel_rfl) (by kernel_rfl) (by kernel_rfl) (fun _ _ _ h => h) (.inl ⟨rfl, fun X hX => by go_simp⟩) hX ?_
          simp only [Act.put, List.setIfInBounds_toArray, List.set_cons_zero, List.set_cons_succ]
          refine wpAnyH_all (rs := [10]) (by kernel_rfl) (by decide) (fun i hi => ?_)
          rw [List.mem_singleton] at hi
          subst hi
          have k0 := rg6.cell_at 0
          have k1 := rg6.cell_at 1
          have f0 := rg6.free 0
          have f1 := rg6.free 1
          simp only [List.getElem?_cons_zero, List.getElem?_cons_succ] at k0 k1
          unfold wpOp
          go_simp
          have HF := Lib.hid (box_store (U := W) rg6 hg6 hq.out hX)
          have hne := rg7.other (a := ⟨g6, 0, none⟩) hng (.bool bq)
          replace rg7 := hne.other (a := ⟨g6, 1, none⟩) hng (.slice aq nq cq)
          replace hX := below_store (below_store hX hg6 (i := 0) (.bool bq)) hg6 (i := 1) (.slice aq nq cq)
          clear k0 k1 f0 f1 rg6 hq hr hne
          refine .inl ⟨hX, ?_⟩
          refine wpAnyH_all (rs := [11]) (by kernel_rfl) (by decide) (fun i hi => ?_)
          rw [List.mem_singleton] at hi
          subst hi
          have k0 := rg7.cell_at 0
          have k1 := rg7.cell_at 1
          have f0 := rg7.free 0
          have f1 := rg7.free 1
          simp only [List.getElem?_cons_zero, List.getElem?_cons_succ] at k0 k1
          unfold wpOp
          go_simp
          replace HF := Lib.hid (box_other (u := .bool br) (v := .slice ar nr cr) HF.out rg7 hg7 (fun e => hng (by cases e; rfl)))
          replace hX := below_store (below_store hX hg7 (i := 0) (.bool br)) hg7 (i := 1) (.slice ar nr cr)
          clear k0 k1 f0 f1 rg7
          refine .inl ⟨hX, ?_⟩
          refine wpAnyH_done (by kernel_rfl) ?_ _
          go_wp2_with fail
          go_meet
          exact HF.out
      · refine wpOp_alloc_int (o := _) rfl rfl rfl (fun X39 g7 rg7 hb hg7 hlt => ?_)
        clear hlt
        have hng : g7 ≠ g6 := by have := rg6.lt; omega
        replace hg7 := Nat.le_trans hX.size hg7
        replace rg6 := rg6.below hb rg6.lt
        replace hX := hX.trans (hb.mono hX.size)
        clear hb
        refine ⟨hX, ?_⟩
        simp only [Act.put, List.setIfInBounds_toArray, List.set_cons_zero, List.set_cons_succ]
        refine wpAnyH_all (rs := [3]) (by kernel_rfl) (by decide) (fun i hi => ?_)
        rw [List.mem_singleton] at hi
        subst hi
        unfold wpOp
        go_simp
        refine .inl ((ref_power _ k hk').mono ?_)
        rintro e X40 ⟨u32, rfl, hu32, hb⟩
        replace rg6 := rg6.below hb rg6.lt
        replace rg7 := rg7.below hb rg7.lt
        replace hX := hX.trans (hb.mono hX.size)
        clear hb
        replace hu32 := Lib.hid hu32
        refine ⟨hX, ?_⟩
        refine wpAnyH_all (rs := [4]) (by kernel_rfl) (by decide) (fun i hi => ?_)
        rw [List.mem_singleton] at hi
        subst hi
        unfold wpOp
        go_simp
        refine .inl ((ref_div _ _ _ x ((2 : Int) ^ k) (HvW.out.below hX) hu32.out HL1.out HL2.out HNe.out).mono ?_)
        rintro e X41 ⟨bq, aq, nq, cq, br, ar, nr, cr, rfl, hq, hr, hb⟩
        replace hu32 := Lib.hid (hu32.out.below hb)
        replace rg6 := rg6.below hb rg6.lt
        replace rg7 := rg7.below hb rg7.lt
        replace hX := hX.trans (hb.mono hX.size)
        clear hb
        replace hq := Lib.hid hq
        replace hr := Lib.hid hr
        clear hu32
        refine ⟨hX, ?_⟩
        refine wpAnyH_take_at (i := 5) (v := .tuple #[.agg #[.bool bq, .slice aq nq cq], .agg #[.bool br, .slice ar nr cr]]) 28 rfl rfl (by kernel_rfl) (by kernel_rfl) (by kernel_rfl) (fun _ _ _ h => h) (.inl ⟨rfl, fun X hX => by go_simp⟩) hX ?_
        simp only [Act.put, List.setIfInBounds_toArray, List.set_cons_zero, List.set_cons_succ]
        refine wpAnyH_take_at (i := 6) (v := .agg #[.bool bq, .slice aq nq cq]) 34 rfl rfl (by kernel_rfl) (by kernel_rfl) (by kernel_rfl) (fun _ _ _ h => h) (.inl ⟨rfl, fun X hX => by go_simp⟩) hX ?_
        simp only [Act.put, List.setIfInBounds_toArray, List.set_cons_zero, List.set_cons_succ]
        refine wpAnyH_take_at (i := 7) (v := .agg #[.bool br, .slice ar nr cr]) 35 rfl rfl (by kernel_rfl) (by kernel_rfl) (by kernel_rfl) (fun _ _ _ h => h) (.inl ⟨rfl, fun X hX => by go_simp⟩) hX ?_
        simp only [Act.put, List.setIfInBounds_toArray, List.set_cons_zero, List.set_cons_succ]
        refine wpAnyH_all (rs := [10]) (by kernel_rfl) (by decide) (fun i hi => ?_)
        rw [List.mem_singleton] at hi
        subst hi
        have k0 := rg6.cell_at 0
        have k1 := rg6.cell_at 1
        have f0 := rg6.free 0
        have f1 := rg6.free 1
        simp only [List.getElem?_cons_zero, List.getElem?_cons_succ] at k0 k1
        unfold wpOp
        go_simp
        have HF := Lib.hid (box_store (U := W) rg6 hg6 hq.out hX)
        have hne := rg7.other (a := ⟨g6, 0, none⟩) hng (.bool bq)
        replace rg7 := hne.other (a := ⟨g6, 1, none⟩) hng (.slice aq nq cq)
        replace hX := below_store (below_store hX hg6 (i := 0) (.bool bq)) hg6 (i := 1) (.slice aq nq cq)
        clear k0 k1 f0 f1 rg6 hq hr hne
        refine .inl ⟨hX, ?_⟩
        refine wpAnyH_all (rs := [11]) (by kernel_rfl) (by decide) (fun i hi => ?_)
        rw [List.mem_singleton] at hi
        subst hi
        have k0 := rg7.cell_at 0
        have k1 := rg7.cell_at 1
        have f0 := rg7.free 0
        have f1 := rg7.free 1
        simp only [List.getElem?_cons_zero, List.getElem?_cons_succ] at k0 k1
        unfold wpOp
        go_simp
        replace HF := Lib.hid (box_other (u := .bool br) (v := .slice ar nr cr) HF.out rg7 hg7 (fun e => hng (by cases e; rfl)))
        replace hX := below_store (below_store hX hg7 (i := 0) (.bool br)) hg7 (i := 1) (.slice ar nr cr)
        clear k0 k1 f0 f1 rg7
        refine .inl ⟨hX, ?_⟩
        refine wpAnyH_done (by kernel_rfl) ?_ _
        go_wp2_with fail
        go_meet
        exact HF.out
    · refine wpOp_alloc_int (o := _) rfl rfl rfl (fun X44 g7 rg7 hb hg7 hlt => ?_)
      clear hlt
      replace hg7 := Nat.le_trans hX.size hg7
      replace hX := hX.trans (hb.mono hX.size)
      clear hb
      refine ⟨hX, ?_⟩
      simp only [Act.put, List.setIfInBounds_toArray, List.set_cons_zero, List.set_cons_succ]
      refine wpAnyH_all (rs := [3, 8]) (by kernel_rfl) (by decide) (fun i hi => ?_)
      simp only [List.mem_cons, List.not_mem_nil, or_false] at hi
      rcases hi with rfl | rfl
      · unfold wpOp
        go_simp
        refine .inl ((ref_power _ k hk').mono ?_)
        rintro e X45 ⟨u32, rfl, hu32, hb⟩
        replace rg7 := rg7.below hb rg7.lt
        replace hX := hX.trans (hb.mono hX.size)
        clear hb
        replace hu32 := Lib.hid hu32
        refine ⟨hX, ?_⟩
        refine wpAnyH_all (rs := [4, 8]) (by kernel_rfl) (by decide) (fun i hi => ?_)
        simp only [List.mem_cons, List.not_mem_nil, or_false] at hi
        rcases hi with rfl | rfl
        · unfold wpOp
          go_simp
          refine .inl ((ref_div _ _ _ x ((2 : Int) ^ k) (HvW.out.below hX) hu32.out HL1.out HL2.out HNe.out).mono ?_)
          rintro e X46 ⟨bq, aq, nq, cq, br, ar, nr, cr, rfl, hq, hr, hb⟩
          replace hu32 := Lib.hid (hu32.out.below hb)
          replace rg7 := rg7.below hb rg7.lt
          replace hX := hX.trans (hb.mono hX.size)
          clear hb
          replace hq := Lib.hid hq
          replace hr := Lib.hid hr
          clear hu32
          refine ⟨hX, ?_⟩
          refine wpAnyH_take_at (i := 5) (v := .tuple #[.agg #[.bool bq, .slice aq nq cq], .agg #[.bool br, .slice ar nr cr]]) 28 rfl rfl (by kernel_rfl) (by kernel_rfl) (by kernel_rfl) (fun _ _ _ h => h) (.inl ⟨rfl, fun X hX => by go_simp⟩) hX ?_
          simp only [Act.put, List.setIfInBounds_toArray, List.set_cons_zero, List.set_cons_succ]
          refine wpAnyH_take_at (i := 6) (v := .agg #[.bool bq, .slice aq nq cq]) 34 rfl rfl (by kernel_rfl) (by kernel_rfl) (by kernel_rfl) (fun _ _ _ h => h) (.inl ⟨rfl, fun X hX => by go_simp⟩) hX ?_
          simp only [Act.put, List.setIfInBounds_toArray, List.set_cons_zero, List.set_cons_succ]
          refine wpAnyH_take_at (i := 7) (v := .agg #[.bool br, .slice ar nr cr]) 35 rfl rfl (by kernel_rfl) (by kernel_rfl) (by kernel_rfl) (fun _ _ _ h => h) (.inl ⟨rfl, fun X hX => by go_simp⟩) hX ?_
          simp only [Act.put, List.setIfInBounds_toArray, List.set_cons_zero, List.set_cons_succ]
          refine wpAnyH_all (rs := [8]) (by kernel_rfl) (by decide) (fun i hi => ?_)
          rw [List.mem_singleton] at hi
          subst hi
          refine wpOp_alloc_int (o := _) rfl rfl rfl (fun X47 g6 rg6 hb hg6 hlt => ?_)
          clear hlt
          have hng : g7 ≠ g6 := by have := rg7.lt; omega
          replace hg6 := Nat.le_trans hX.size hg6
          replace hq := Lib.hid (hq.out.below hb)
          replace hr := Lib.hid (hr.out.below hb)
          replace rg7 := rg7.below hb rg7.lt
          replace hX := hX.trans (hb.mono hX.size)
          clear hb
          refine ⟨hX, ?_⟩
          simp only [Act.put, List.setIfInBounds_toArray, List.set_cons_zero, List.set_cons_succ]
          refine wpAnyH_all (rs := [10]) (by kernel_rfl) (by decide) (fun i hi => ?_)
          rw [List.mem_singleton] at hi
          subst hi
          have k0 := rg6.cell_at 0
          have k1 := rg6.cell_at 1
          have f0 := rg6.free 0
          have f1 := rg6.free 1
          simp only [List.getElem?_cons_zero, List.getElem?_cons_succ] at k0 k1
          unfold wpOp
          go_simp
          have HF := Lib.hid (box_store (U := W) rg6 hg6 hq.out hX)
          have hne := rg7.other (a := ⟨g6, 0, none⟩) hng (.bool bq)
          replace rg7 := hne.other (a := ⟨g6, 1, none⟩) hng (.slice aq nq cq)
          replace hX := below_store (below_store hX hg6 (i := 0) (.bool bq)) hg6 (i := 1) (.slice aq nq cq)
          clear k0 k1 f0 f1 rg6 hq hr hne
          refine .inl ⟨hX, ?_⟩
          refine wpAnyH_all (rs := [11]) (by kernel_rfl) (by decide) (fun i hi => ?_)
          rw [List.mem_singleton] at hi
          subst hi
          have k0 := rg7.cell_at 0
          have k1 := rg7.cell_at 1
          have f0 := rg7.free 0
          have f1 := rg7.free 1
          simp only [List.getElem?_cons_zero, List.getElem?_cons_succ] at k0 k1
          unfold wpOp
          go_simp
          replace HF := Lib.hid (box_other (u := .bool br) (v := .slice ar nr cr) HF.out rg7 hg7 (fun e => hng (by cases e; rfl)))
          replace hX := below_store (below_store hX hg7 (i := 0) (.bool br)) hg7 (i := 1) (.slice ar nr cr)
          clear k0 k1 f0 f1 rg7
          refine .inl ⟨hX, ?_⟩
          refine wpAnyH_done (by kernel_rfl) ?_ _
          go_wp2_with fail
          go_meet
          exact HF.out
        · refine wpOp_alloc_int (o := _) rfl rfl rfl (fun X50 g6 rg6 hb hg6 hlt => ?_)
          clear hlt
          have hng : g7 ≠ g6 := by have := rg7.lt; omega
          replace hg6 := Nat.le_trans hX.size hg6
          replace hu32 := Lib.hid (hu32.out.below hb)
          replace rg7 := rg7.below hb rg7.lt
          replace hX := hX.trans (hb.mono hX.size)
          clear hb
          refine ⟨hX, ?_⟩
          simp only [Act.put, List.setIfInBounds_toArray, List.set_cons_zero, List.set_cons_succ]
          refine wpAnyH_all (rs := [4]) (by kernel_rfl) (by decide) (fun i hi => ?_)
          rw [List.mem_singleton] at hi
          subst hi
          unfold wpOp
          go_simp
          refine .inl ((ref_div _ _ _ x ((2 : Int) ^ k) (HvW.out.below hX) hu32.out HL1.out HL2.out HNe.out).mono ?_)
          rintro e X51 ⟨bq, aq, nq, cq, br, ar, nr, cr, rfl, hq, hr, hb⟩
          replace hu32 := Lib.hid (hu32.out.below hb)
          replace rg6 := rg6.below hb rg6.lt
          replace rg7 := rg7.below hb rg7.lt
          replace hX := hX.trans (hb.mono hX.size)
          clear hb
          replace hq := Lib.hid hq
          replace hr := Lib.hid hr
          clear hu32
          refine ⟨hX, ?_⟩
          refine wpAnyH_take_at (i := 5) (v := .tuple #[.agg #[.bool bq, .slice aq nq cq], .agg #[.bool br, .slice ar nr cr]]) 28 rfl rfl (by kernel_rfl) (by kernel_rfl) (by kernel_rfl) (fun _ _ _ h => h) (.inl ⟨rfl, fun X hX => by go_simp⟩) hX ?_
          simp only [Act.put, List.setIfInBounds_toArray, List.set_cons_zero, List.set_cons_succ]
          refine wpAnyH_take_at (i := 6) (v := .agg #[.bool bq, .slice aq nq cq]) 34 rfl rfl (by kernel_rfl) (by kernel_rfl) (by kernel_rfl) (fun _ _ _ h => h) (.inl ⟨rfl, fun X hX => by go_simp⟩) hX ?_
          simp only [Act.put, List.setIfInBounds_toArray, List.set_cons_zero, List.set_cons_succ]
          refine wpAnyH_take_at (i := 7) (v := .agg #[.bool br, .slice ar nr cr]) 35 rfl rfl (by kernel_rfl) (by kernel_rfl) (by kernel_rfl) (fun _ _ _ h => h) (.inl ⟨rfl, fun X hX => by go_simp⟩) hX ?_
          simp only [Act.put, List.setIfInBounds_toArray, List.set_cons_zero, List.set_cons_succ]
          refine wpAnyH_all (rs := [10]) (by kernel_rfl) (by decide) (fun i hi => ?_)
          rw [List.mem_singleton] at hi
          subst hi
          have k0 := rg6.cell_at 0
          have k1 := rg6.cell_at 1
          have f0 := rg6.free 0
          have f1 := rg6.free 1
          simp only [List.getElem?_cons_zero, List.getElem?_cons_succ] at k0 k1
          unfold wpOp
          go_simp
          have HF := Lib.hid (box_store (U := W) rg6 hg6 hq.out hX)
          have hne := rg7.other (a := ⟨g6, 0, none⟩) hng (.bool bq)
          replace rg7 := hne.other (a := ⟨g6, 1, none⟩) hng (.slice aq nq cq)
          replace hX := below_store (below_store hX hg6 (i := 0) (.bool bq)) hg6 (i := 1) (.slice aq nq cq)
          clear k0 k1 f0 f1 rg6 hq hr hne
          refine .inl ⟨hX, ?_⟩
          refine wpAnyH_all (rs := [11]) (by kernel_rfl) (by decide) (fun i hi => ?_)
          rw [List.mem_singleton] at hi
          subst hi
          have k0 := rg7.cell_at 0
          have k1 := rg7.cell_at 1
          have f0 := rg7.free 0
          have f1 := rg7.free 1
          simp only [List.getElem?_cons_zero, List.getElem?_cons_succ] at k0 k1
          unfold wpOp
          go_simp
          replace HF := Lib.hid (box_other (u := .bool br) (v := .slice ar nr cr) HF.out rg7 hg7 (fun e => hng (by cases e; rfl)))
          replace hX := below_store (below_store hX hg7 (i := 0) (.bool br)) hg7 (i := 1) (.slice ar nr cr)
          clear k0 k1 f0 f1 rg7
          refine .inl ⟨hX, ?_⟩
          refine wpAnyH_done (by kernel_rfl) ?_ _
          go_wp2_with fail
          go_meet
          exact HF.out
      · refine wpOp_alloc_int (o := _) rfl rfl rfl (fun X54 g6 rg6 hb hg6 hlt => ?_)
        clear hlt
        have hng : g7 ≠ g6 := by have := rg7.lt; omega
        replace hg6 := Nat.le_trans hX.size hg6
        replace rg7 := rg7.below hb rg7.lt
        replace hX := hX.trans (hb.mono hX.size)
        clear hb
        refine ⟨hX, ?_⟩
        simp only [Act.put, List.setIfInBounds_toArray, List.set_cons_zero, List.set_cons_succ]
        refine wpAnyH_all (rs := [3]) (by kernel_rfl) (by decide) (fun i hi => ?_)
        rw [List.mem_singleton] at hi
        subst hi
        unfold wpOp
        go_simp
        refine .inl ((ref_power _ k hk').mono ?_)
        rintro e X55 ⟨u32, rfl, hu32, hb⟩
        replace rg6 := rg6.below hb rg6.lt
        replace rg7 := rg7.below hb rg7.lt
        replace hX := hX.trans (hb.mono hX.size)
        clear hb
        replace hu32 := Lib.hid hu32
        refine ⟨hX, ?_⟩
        refine wpAnyH_all (rs := [4]) (by kernel_rfl) (by decide) (fun i hi => ?_)
        rw [List.mem_singleton] at hi
        subst hi
        unfold wpOp
        go_simp
        refine .inl ((ref_div _ _ _ x ((2 : Int) ^ k) (HvW.out.below hX) hu32.out HL1.out HL2.out HNe.out).mono ?_)
        rintro e X56 ⟨bq, aq, nq, cq, br, ar, nr, cr, rfl, hq, hr, hb⟩
        replace hu32 := Lib.hid (hu32.out.below hb)
        replace rg6 := rg6.below hb rg6.lt
        replace rg7 := rg7.below hb rg7.lt
        replace hX := hX.trans (hb.mono hX.size)
        clear hb
        replace hq := Lib.hid hq
        replace hr := Lib.hid hr
        clear hu32
        refine ⟨hX, ?_⟩
        refine wpAnyH_take_at (i := 5) (v := .tuple #[.agg #[.bool bq, .slice aq nq cq], .agg #[.bool br, .slice ar nr cr]]) 28 rfl rfl (by kernel_rfl) (by kernel_rfl) (by kernel_rfl) (fun _ _ _ h => h) (.inl ⟨rfl, fun X hX => by go_simp⟩) hX ?_
        simp only [Act.put, List.setIfInBounds_toArray, List.set_cons_zero, List.set_cons_succ]
        refine wpAnyH_take_at (i := 6) (v := .agg #[.bool bq, .slice aq nq cq]) 34 rfl rfl (by kernel_rfl) (by kernel_rfl) (by kernel_rfl) (fun _ _ _ h => h) (.inl ⟨rfl, fun X hX => by go_simp⟩) hX ?_
        simp only [Act.put, List.setIfInBounds_toArray, List.set_cons_zero, List.set_cons_succ]
        refine wpAnyH_take_at (i := 7) (v := .agg #[.bool br, .slice ar nr cr]) 35 rfl rfl (by kernel_rfl) (by kernel_rfl) (by kernel_rfl) (fun _ _ _ h => h) (.inl ⟨rfl, fun X hX => by go_simp⟩) hX ?_
        simp only [Act.put, List.setIfInBounds_toArray, List.set_cons_zero, List.set_cons_succ]
        refine wpAnyH_all (rs := [10]) (by kernel_rfl) (by decide) (fun i hi => ?_)
        rw [List.mem_singleton] at hi
        subst hi
        have k0 := rg6.cell_at 0
        have k1 := rg6.cell_at 1
        have f0 := rg6.free 0
        have f1 := rg6.free 1
        simp only [List.getElem?_cons_zero, List.getElem?_cons_succ] at k0 k1
        unfold wpOp
        go_simp
        have HF := Lib.hid (box_store (U := W) rg6 hg6 hq.out hX)
        have hne := rg7.other (a := ⟨g6, 0, none⟩) hng (.bool bq)
        replace rg7 := hne.other (a := ⟨g6, 1, none⟩) hng (.slice aq nq cq)
        replace hX := below_store (below_store hX hg6 (i := 0) (.bool bq)) hg6 (i := 1) (.slice aq nq cq)
        clear k0 k1 f0 f1 rg6 hq hr hne
        refine .inl ⟨hX, ?_⟩
        refine wpAnyH_all (rs := [11]) (by kernel_rfl) (by decide) (fun i hi => ?_)
        rw [List.mem_singleton] at hi
        subst hi
        have k0 := rg7.cell_at 0
        have k1 := rg7.cell_at 1
        have f0 := rg7.free 0
        have f1 := rg7.free 1
        simp only [List.getElem?_cons_zero, List.getElem?_cons_succ] at k0 k1
        unfold wpOp
        go_simp
        replace HF := Lib.hid (box_other (u := .bool br) (v := .slice ar nr cr) HF.out rg7 hg7 (fun e => hng (by cases e; rfl)))
        replace hX := below_store (below_store hX hg7 (i := 0) (.bool br)) hg7 (i := 1) (.slice ar nr cr)
        clear k0 k1 f0 f1 rg7
        refine .inl ⟨hX, ?_⟩
        refine wpAnyH_done (by kernel_rfl) ?_ _
        go_wp2_with fail
        go_meet
        exact HF.out
  case rest =>
    obtain ⟨g, b', a', m', c', rfl, hg, hrg, hapi, hX⟩ := hcut
    have j0 := hrg.cell_at 0
    have j1 := hrg.cell_at 1
    simp only [List.getElem?_cons_zero, List.getElem?_cons_succ] at j0 j1
    have hR := HR1.out _ hX
    have k0 := hR.cell_at 0
    have k1 := hR.cell_at 1
    have k2 := hR.free 0
    have k3 := hR.free 1
    simp only [List.getElem?_cons_zero, List.getElem?_cons_succ] at k0 k1
    have hBX := hW.trans (hX.mono hW.size)
    have e0 : (wc.setCell ⟨w.heap.size + 1, 0, none⟩ (.bool b')).cell? ⟨w.heap.size + 1, 0, none⟩ = some (.bool b') := (hR.store_any 0 _).cell_at 0
    have e1 : ((wc.setCell ⟨w.heap.size + 1, 0, none⟩ (.bool b')).setCell ⟨w.heap.size + 1, 1, none⟩ (.slice a' m' c')).cell? ⟨w.heap.size + 1, 1, none⟩ = some (.slice a' m' c') := ((hR.store_any 0 _).store_any 1 _).cell_at 1
    have HB := Lib.hid (below_store (below_store hBX (g := w.heap.size + 1) (i := 0) (by omega) (.bool b')) (g := w.heap.size + 1) (i := 1) (by omega) (.slice a' m' c'))
    have HF := Lib.hid (ApiV.to hapi (fun _ _ hl => hl.pair hR (.bool b') (.slice a' m' c')))
    clear hR hX hapi hrg q0 q1 hBX
    go_wp2
    (try simp only [Exit.inBlock, Exit.then])
    refine bodyPost_ret (v := .tuple #[.agg #[.bool b', .slice a' m' c'], .bool true]) (by simp [results, Tryz.results14, go_sem, e0, e1]) rfl ?_
    exact ⟨_, _, _, _, rfl, by rw [HZ.out]; exact HF.out, HB.out⟩

end Go.Proofs.YtbffpkmfhkphdaaGreatDoor
