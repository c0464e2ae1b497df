/- The walks of the reference's Sub and Mul. -/
import Derived.Test.YtbffpkmfhkphdaaGreatDoorRefAddC
import Derived.Test.YtbffpkmfhkphdaaGreatDoorGX32
set_option linter.unusedVariables false
set_option linter.unusedSimpArgs false
namespace Go.Proofs.YtbffpkmfhkphdaaGreatDoor
open Go Go.RowKit Limb

theorem Fin.of {w W X : World} {g : Nat} {z : Int} {u : Value} (r0 : Row W g 24 [.bool false, .slice none 0 0]) (hW : Below w.heap.size w W) (hg : w.heap.size ≤ g) (hu : ApiV X u z) (h : Below W.heap.size W X) :
    ∃ a c, u = .agg #[.bool (decide (z < 0)), .slice a (rep z.natAbs).length c] ∧ Fin w X g z a c := by
  obtain ⟨a, c, e, hf⟩ := api_store r0 hW hg hu h
  exact ⟨a, c, e, hf⟩

theorem since_neg {W X : World} {v : Value} {y : Int} (h2 : ApiV W v y) (ly : (rep y.natAbs).length ≤ 1073741824) (h : Below W.heap.size W X) :
    Calls Tryz.prog 239 #[v] X fun e X' => (∃ s a n c, e = .returned (.agg #[.bool s, .slice a n c]) ∧ ApiV X' (.agg #[.bool s, .slice a n c]) (-y)) ∧ Below W.heap.size W X' := by
  refine (ref_neg X v y (h2.below h) (by omega)).mono ?_
  rintro e X' ⟨u, rfl, hu, hb⟩
  obtain ⟨a, c, rfl, h3⟩ := id hu
  exact ⟨⟨_, _, _, _, rfl, hu⟩, h.trans (hb.mono h.size)⟩
theorem since_add {w W X : World} {g : Nat} {v1 v2 : Value} {x y : Int} (r0 : Row W g 24 [.bool false, .slice none 0 0]) (hW : Below w.heap.size w W) (hg : w.heap.size ≤ g) (h1 : ApiV W v1 x) (lx : (rep x.natAbs).length ≤ 1073741824) (ly : (rep y.natAbs).length ≤ 1073741824) (h2 : ApiV X v2 y) (h : Below W.heap.size W X) :
    Calls Tryz.prog 22 #[v1, v2] X fun e X' => (∃ a c, e = .returned (.agg #[.bool (decide (x + y < 0)), .slice a (rep (x + y).natAbs).length c]) ∧ Fin w X' g (x + y) a c) ∧ Below W.heap.size W X' := by
  refine (ref_add X v1 v2 x y (h1.below h) h2 lx ly).mono ?_
  rintro e X' ⟨u, rfl, hu, hb⟩
  have hb' := h.trans (hb.mono h.size)
  obtain ⟨a, c, rfl, hf⟩ := Fin.of r0 hW hg hu hb'
  exact ⟨⟨a, c, rfl, hf⟩, hb'⟩

set_option maxHeartbeats 1600000 in
set_option maxRecDepth 1000000 in
theorem ref_sub (w : World) (v1 v2 : Value) (x y : Int) (h1 : ApiV w v1 x) (h2 : ApiV w v2 y) (lx : (rep x.natAbs).length ≤ 1073741824) (ly : (rep y.natAbs).length ≤ 1073741824) :
    Calls Tryz.prog 157 #[v1, v2] w fun e w' => ∃ u, e = .returned u ∧ ApiV w' u (x - y) ∧ Below w.heap.size w w' := by
  have h1' := h1
  have h2' := h2
  obtain ⟨a1, c1, rfl, hc1, hl1⟩ := h1
  obtain ⟨a2, c2, rfl, hc2, hl2⟩ := h2
  obtain ⟨n1, hn1⟩ : ∃ n, n = (rep x.natAbs).length := ⟨_, rfl⟩
  obtain ⟨n2, hn2⟩ : ∃ n, n = (rep y.natAbs).length := ⟨_, rfl⟩
  obtain ⟨s1, hs1⟩ : ∃ s, s = decide (x < 0) := ⟨_, rfl⟩
  obtain ⟨s2, hs2⟩ : ∃ s, s = decide (y < 0) := ⟨_, rfl⟩
  rw [← hs1, ← hn1] at h1' ⊢
  rw [← hs2, ← hn2] at h2' ⊢
  obtain ⟨r0, r1, r2, hW, hsz⟩ := rows3 w 24 (.bool s1) (.slice a1 n1 c1) (.bool s2) (.slice a2 n2 c2) (.bool false) (.slice none 0 0)
  obtain ⟨W, hWe⟩ : ∃ W, W = ((w.alloc (.cells #[.bool s1, .slice a1 n1 c1] 24)).alloc (.cells #[.bool s2, .slice a2 n2 c2] 24)).alloc (.cells #[.bool false, .slice none 0 0] 24) := ⟨_, rfl⟩
  rw [← hWe] at r0 r1 r2 hW hsz
  have HWe := Lib.hid hWe; clear hWe
  obtain ⟨z, hz⟩ : ∃ z, z = x + -y := ⟨_, rfl⟩
  rw [show x - y = z from by omega]
  have c0 := r0.cell_at 0
  have c01 := r0.cell_at 1
  have c10 := r1.cell_at 0
  have c11 := r1.cell_at 1
  simp only [List.getElem?_cons_zero, List.getElem?_cons_succ] at c0 c01 c10 c11
  obtain ⟨hk, hs⟩ := rows3_keep r0 r1 r2
  have HN := Lib.hid (fun X (h : Below W.heap.size W X) => since_neg (h2'.below hW) ly h)
  have ha := fun X s a n c (hv : ApiV X (.agg #[.bool s, .slice a n c]) (-y)) (h : Below W.heap.size W X) => since_add r2 hW (by omega) (h1'.below hW) lx (by rw [Int.natAbs_neg]; exact ly) hv h
  rw [← hz] at ha
  have HA := Lib.hid ha; clear ha
  have HK := Lib.hid hk; clear hk
  have HS := Lib.hid hs; clear hs
  clear hn1 hn2 hs1 hs2 hz
  have h := Below.refl W.heap.size W
  go_enter Tryz.func157, Tryz.ntmps157
  go_wp2_with fail
  rw [← HWe.out]
  go_region_held3 (fun X => (X.cell? ⟨w.heap.size, 0, none⟩ = some (.bool s1) ∧ X.cell? ⟨w.heap.size, 1, none⟩ = some (.slice a1 n1 c1) ∧ X.cell? ⟨w.heap.size + 1, 0, none⟩ = some (.bool s2) ∧ X.cell? ⟨w.heap.size + 1, 1, none⟩ = some (.slice a2 n2 c2)))
    (first | (apply HK.out; (repeat (first | exact h | apply Below.drew)); done) | (apply HS.out; apply below_store; apply below_store; apply Below.mono; (repeat (first | exact h | apply Below.drew)); omega; exact Nat.le_refl _; exact Nat.le_refl _))
    (first
      | (go_at_call 239; apply Calls.mono; apply HN.out; (repeat (first | exact h | apply Below.drew)); clear h; rintro e w' ⟨⟨s', a', n', c', rfl, hneg⟩, h⟩)
      | (go_at_call 22; apply Calls.mono; apply HA.out; exact hneg; (repeat (first | exact h | apply Below.drew)); clear h hneg; rintro e w' ⟨⟨a3, c3, rfl, hfin⟩, h⟩; obtain ⟨q0, q1, q2, q3, e0, e1, hf⟩ := hfin))
  go_wp2
  (try simp only [Exit.inBlock, Exit.then])
  refine bodyPost_ret (v := .agg #[.bool (decide (z < 0)), .slice a3 (rep z.natAbs).length c3]) (by simp [results, Tryz.results157, go_sem, e0, e1]) rfl ?_
  exact ⟨_, rfl, hf.out⟩

theorem since_times {W X : World} {a b : Option Addr} {x y n m ca cb : Nat} (ha : Lay .u32 W a (rep x)) (hb : Lay .u32 W b (rep y)) (hn : n = (rep x).length) (hm : m = (rep y).length) (ln : n ≤ 1073741824) (lm : m ≤ 1073741824) (h : Below W.heap.size W X) :
    Calls Tryz.prog 89 #[.slice a n ca, .slice b m cb] X fun e X' => (∃ a' n' c', e = .returned (.slice a' n' c') ∧ Raw X' a' n' c' (x * y)) ∧ Below W.heap.size W X' := by
  refine (ref_times X a b (rep x) (rep y) n m ca cb (ha.below h) (hb.below h) (rep_lim _) (rep_lim _) hn hm (by omega) (by omega)).mono ?_
  rw [val_rep, val_rep]
  rintro e X' ⟨a', c', rfl, h2, h3, h6, h7⟩
  exact ⟨⟨a', _, c', rfl, rep (x * y), rfl, h2, by omega, rep_lim _, val_rep _, h6⟩, h.trans (h7.mono h.size)⟩
theorem mul_sign {x y : Int} : ((decide (x < 0) != decide (y < 0)) = true → x * y ≤ 0) ∧ ((decide (x < 0) != decide (y < 0)) = false → 0 ≤ x * y) := by
  rcases Int.lt_or_le x 0 with hx | hx <;> rcases Int.lt_or_le y 0 with hy | hy
  · have : 0 ≤ x * y := Int.mul_nonneg_of_nonpos_of_nonpos (by omega) (by omega)
    simp [hx, hy]; omega
  · have : x * y ≤ 0 := Int.mul_nonpos_of_nonpos_of_nonneg (by omega) hy
    have h2 : ¬ y < 0 := by omega
    simp [hx, h2]; omega
  · have : x * y ≤ 0 := Int.mul_nonpos_of_nonneg_of_nonpos hx (by omega)
    have h2 : ¬ x < 0 := by omega
    simp [hy, h2]; omega
  · have : 0 ≤ x * y := Int.mul_nonneg hx hy
    have h2 : ¬ y < 0 := by omega
    have h3 : ¬ x < 0 := by omega
    simp [h2, h3]; omega

set_option maxHeartbeats 1600000 in
set_option maxRecDepth 1000000 in
theorem ref_mul (w : World) (v1 v2 : Value) (x y : Int) (h1 : ApiV w v1 x) (h2 : ApiV w v2 y) (lx : (rep x.natAbs).length ≤ 1073741824) (ly : (rep y.natAbs).length ≤ 1073741824) :
    Calls Tryz.prog 25 #[v1, v2] w fun e w' => ∃ u, e = .returned u ∧ ApiV w' u (x * y) ∧ Below w.heap.size w w' := by
  obtain ⟨a1, c1, rfl, hc1, hl1⟩ := h1
  obtain ⟨a2, c2, rfl, hc2, hl2⟩ := h2
  obtain ⟨n1, hn1⟩ : ∃ n, n = (rep x.natAbs).length := ⟨_, rfl⟩
  obtain ⟨n2, hn2⟩ : ∃ n, n = (rep y.natAbs).length := ⟨_, rfl⟩
  obtain ⟨s1, hs1⟩ : ∃ s, s = decide (x < 0) := ⟨_, rfl⟩
  obtain ⟨s2, hs2⟩ : ∃ s, s = decide (y < 0) := ⟨_, rfl⟩
  have hsg := @mul_sign x y
  rw [← hs1, ← hs2] at hsg
  rw [← hn1] at lx
  rw [← hn2] at ly
  rw [← hs1, ← hs2, ← hn1, ← hn2]
  obtain ⟨r0, r1, r2, hW, hsz⟩ := rows3 w 24 (.bool s1) (.slice a1 n1 c1) (.bool s2) (.slice a2 n2 c2) (.bool false) (.slice none 0 0)
  obtain ⟨W, hWe⟩ : ∃ W, W = ((w.alloc (.cells #[.bool s1, .slice a1 n1 c1] 24)).alloc (.cells #[.bool s2, .slice a2 n2 c2] 24)).alloc (.cells #[.bool false, .slice none 0 0] 24) := ⟨_, rfl⟩
  rw [← hWe] at r0 r1 r2 hW hsz
  have HWe := Lib.hid hWe; clear hWe
  have hab : x.natAbs * y.natAbs = (x * y).natAbs := (Int.natAbs_mul x y).symm
  obtain ⟨z, hz⟩ : ∃ z, z = x * y := ⟨_, rfl⟩
  rw [← hz] at hab hsg ⊢
  have c0 := r0.cell_at 0
  have c01 := r0.cell_at 1
  have c10 := r1.cell_at 0
  have c11 := r1.cell_at 1
  simp only [List.getElem?_cons_zero, List.getElem?_cons_succ] at c0 c01 c10 c11
  obtain ⟨hk, hs⟩ := rows3_keep r0 r1 r2
  have hp := fun X (h : Below W.heap.size W X) => since_times (ca := c1) (cb := c2) (hl1.below hW) (hl2.below hW) hn1 hn2 lx ly h
  rw [hab] at hp
  have HP := Lib.hid hp; clear hp
  have HM := Lib.hid (fun X a n c (h1 : Raw X a n c z.natAbs) (h : Below W.heap.size W X) => since_made r2 hW (by omega) hsg h1 h)
  have HK := Lib.hid hk; clear hk
  have HS := Lib.hid hs; clear hs
  clear hn1 hn2 hs1 hs2 hz hab hsg
  have h := Below.refl W.heap.size W
  go_enter Tryz.func25, Tryz.ntmps25
  go_wp2_with fail
  rw [← HWe.out]
  go_region_held3 (fun X => (X.cell? ⟨w.heap.size, 0, none⟩ = some (.bool s1) ∧ X.cell? ⟨w.heap.size, 1, none⟩ = some (.slice a1 n1 c1) ∧ X.cell? ⟨w.heap.size + 1, 0, none⟩ = some (.bool s2) ∧ X.cell? ⟨w.heap.size + 1, 1, none⟩ = some (.slice a2 n2 c2)))
    (first | (apply HK.out; (repeat (first | exact h | apply Below.drew)); done) | (apply HS.out; apply below_store; apply below_store; apply Below.mono; (repeat (first | exact h | apply Below.drew)); omega; exact Nat.le_refl _; exact Nat.le_refl _))
    (first
      | (go_at_call 89; apply Calls.mono; apply HP.out; (repeat (first | exact h | apply Below.drew)); clear h; rintro e w' ⟨⟨a', n', c', rfl, hraw⟩, h⟩)
      | (go_at_call 79; apply Calls.mono; apply HM.out; exact hraw; (repeat (first | exact h | apply Below.drew)); clear h hraw; rintro e w' ⟨⟨a3, c3, rfl, hfin⟩, h⟩; obtain ⟨q0, q1, q2, q3, e0, e1, hf⟩ := hfin))
  go_wp2
  (try simp only [Exit.inBlock, Exit.then])
  refine bodyPost_ret (v := .agg #[.bool (decide (z < 0)), .slice a3 (rep z.natAbs).length c3]) (by simp [results, Tryz.results25, go_sem, e0, e1]) rfl ?_
  exact ⟨_, rfl, hf.out⟩

end Go.Proofs.YtbffpkmfhkphdaaGreatDoor
