/- The walk of GCD of package big's integers. The walks of the reference's Sub and Mul. The walks of the closures that join two words, and of joined of package large. -/
import Derived.Test.YtbffpkmfhkphdaaGreatDoorDivisorC
import Derived.Test.YtbffpkmfhkphdaaGreatDoorAtC
import Derived.Test.YtbffpkmfhkphdaaGreatDoorGX29
import Derived.Test.YtbffpkmfhkphdaaGreatDoorGX35
import Derived.Test.YtbffpkmfhkphdaaGreatDoorGX28
import Derived.Test.YtbffpkmfhkphdaaGreatDoorGX03
import Derived.Test.YtbffpkmfhkphdaaGreatDoorGX05
import Derived.Laws.AppendOwn
import Derived.Maps.AppendAt
set_option linter.unusedVariables false
set_option linter.unusedSimpArgs false
namespace Go.Proofs.YtbffpkmfhkphdaaGreatDoor
open Go Go.RowKit Limb

theorem IntAt.num {w X : World} {p q : Nat} {v z : Int} (hp : IntAt w p v) (hq : IntAt w q z) (hpq : q ≠ p) : ∃ a n c, (∀ X, Only [p] w X → X.cell? ⟨q, 1, none⟩ = some (.slice a n c) ∧ Num X z.natAbs a n c) ∧ n = (rep z.natAbs).length := by
  obtain ⟨a, c, hr, hl, hc⟩ := hq
  refine ⟨a, _, c, fun X h => ⟨(hr.only h (by simpa using hpq)).cell_at 1, rfl, hc, hl.only h (hl.notInt (IntBlocks.one hp))⟩, rfl⟩

set_option maxHeartbeats 1600000 in
set_option maxRecDepth 100000 in
theorem int_gcd (w : World) (p q r : Nat) (v x y : Int) (hp : IntAt w p v) (hq : IntAt w q x) (hr : IntAt w r y) (hpq : q ≠ p) (hpr : r ≠ p) (lx : (rep x.natAbs).length ≤ 1048576) (ly : (rep y.natAbs).length ≤ 1048576) :
    Calls Tryz.prog 84 #[.pointer (some ⟨p, 0, none⟩), .pointer none, .pointer none, .pointer (some ⟨q, 0, none⟩), .pointer (some ⟨r, 0, none⟩)] w fun e w' => IntRes w w' e p (Nat.gcd x.natAbs y.natAbs : Nat) := by
  obtain ⟨a1, n1, k1, hn1, e1⟩ := hp.num (X := w) hq hpq
  obtain ⟨a2, n2, k2, hn2, e2⟩ := hp.num (X := w) hr hpr
  rw [← e1] at lx
  rw [← e2] at ly
  have HN1 := Lib.hid hn1
  have HN2 := Lib.hid hn2
  obtain ⟨G, hG⟩ : ∃ G, G = Nat.gcd x.natAbs y.natAbs := ⟨_, rfl⟩
  rw [← hG]
  have HG := Lib.hid hG
  have HP := Lib.hid hp
  have hGl : (rep G).length ≤ 1048576 ∨ (rep G).length ≤ 1048576 := by
    left
    rw [hG]
    rcases Nat.eq_zero_or_pos x.natAbs with h | h
    · rw [h, Nat.gcd_zero_left, ← e2]; exact ly
    · exact Nat.le_trans (rep_mono (Nat.gcd_le_left _ h)) (by rw [← e1]; exact lx)
  have hGl : (rep G).length ≤ 1048576 := by rcases hGl with h | h <;> exact h
  have HGl := Lib.hid hGl
  clear hn1 hn2 hG hp hq hr e1 e2 hGl hpq hpr
  go_enter Tryz.func84, Tryz.ntmps84
  go_upto_region 1 with fail
  have hX : Only [p] w w.drew := (Only.refl _ _).drew
  have hBl : Below w.heap.size w w.drew := (Below.refl _ _).drew
  refine wp_region_held (S := fun X => Only [p] w X) (by kernel_rfl) ?_
  refine wpAnyH_take_at (i := 0) (v := .pointer (some ⟨p, 0, none⟩)) 11 rfl rfl (by kernel_rfl) (by kernel_rfl) (by kernel_rfl) (fun _ _ _ h => h) (.inl ⟨rfl, fun X hX => by go_simp⟩) hX ?_
  simp only [Act.put, List.setIfInBounds_toArray, List.set_cons_zero, List.set_cons_succ]
  refine wpAnyH_take_at (i := 1) (v := .pointer (some ⟨q, 0, none⟩)) 12 rfl rfl (by kernel_rfl) (by kernel_rfl) (by kernel_rfl) (fun _ _ _ h => h) (.inl ⟨rfl, fun X hX => by go_simp⟩) hX ?_
  simp only [Act.put, List.setIfInBounds_toArray, List.set_cons_zero, List.set_cons_succ]
  refine wpAnyH_take_at (i := 2) (v := .pointer (some ⟨q, 0, none⟩)) 13 rfl rfl (by kernel_rfl) (by kernel_rfl) (by kernel_rfl) (fun _ _ _ h => h) (.inl ⟨rfl, fun X hX => by go_simp⟩) hX ?_
  simp only [Act.put, List.setIfInBounds_toArray, List.set_cons_zero, List.set_cons_succ]
  refine wpAnyH_take_at (i := 3) (v := .pointer (some ⟨q, 1, none⟩)) 14 rfl rfl (by kernel_rfl) (by kernel_rfl) (by kernel_rfl) (fun _ _ _ h => h) (.inl ⟨rfl, fun X hX => by go_simp⟩) hX ?_
  simp only [Act.put, List.setIfInBounds_toArray, List.set_cons_zero, List.set_cons_succ]
  refine wpAnyH_take_at (i := 4) (v := .slice a1 n1 k1) 15 rfl rfl (by kernel_rfl) (by kernel_rfl) (by kernel_rfl) (fun _ _ _ h => h) (.inl ⟨rfl, fun X hX => by obtain ⟨i0, -⟩ := HN1.out X hX; go_simp⟩) hX ?_
  simp only [Act.put, List.setIfInBounds_toArray, List.set_cons_zero, List.set_cons_succ]
  refine wpAnyH_take_at (i := 5) (v := .pointer (some ⟨r, 0, none⟩)) 16 rfl rfl (by kernel_rfl) (by kernel_rfl) (by kernel_rfl) (fun _ _ _ h => h) (.inl ⟨rfl, fun X hX => by go_simp⟩) hX ?_
  simp only [Act.put, List.setIfInBounds_toArray, List.set_cons_zero, List.set_cons_succ]
  refine wpAnyH_take_at (i := 6) (v := .pointer (some ⟨r, 0, none⟩)) 17 rfl rfl (by kernel_rfl) (by kernel_rfl) (by kernel_rfl) (fun _ _ _ h => h) (.inl ⟨rfl, fun X hX => by go_simp⟩) hX ?_
  simp only [Act.put, List.setIfInBounds_toArray, List.set_cons_zero, List.set_cons_succ]
  refine wpAnyH_take_at (i := 7) (v := .pointer (some ⟨r, 1, none⟩)) 18 rfl rfl (by kernel_rfl) (by kernel_rfl) (by kernel_rfl) (fun _ _ _ h => h) (.inl ⟨rfl, fun X hX => by go_simp⟩) hX ?_
  simp only [Act.put, List.setIfInBounds_toArray, List.set_cons_zero, List.set_cons_succ]
  refine wpAnyH_take_at (i := 8) (v := .slice a2 n2 k2) 19 rfl rfl (by kernel_rfl) (by kernel_rfl) (by kernel_rfl) (fun _ _ _ h => h) (.inl ⟨rfl, fun X hX => by obtain ⟨i0, -⟩ := HN2.out X hX; go_simp⟩) hX ?_
  simp only [Act.put, List.setIfInBounds_toArray, List.set_cons_zero, List.set_cons_succ]
  refine wpAnyH_all (rs := [9]) (by kernel_rfl) (by decide) (fun i hi => ?_)
  rw [List.mem_singleton] at hi
  subst hi
  unfold wpOp
  go_simp
  refine .inl ((big_divisor _ a1 a2 x.natAbs y.natAbs n1 n2 k1 k2 (HN1.out _ hX).2 (HN2.out _ hX).2 lx ly).mono ?_)
  rintro e X1 ⟨a3, s3, c3, rfl, HD, hb⟩
  replace hX := hX.trans (Only.of_below (ps := [p]) hb) (fun q hq => .inl hq)
  replace hBl := hBl.trans (hb.mono hBl.size)
  clear hb
  rw [← HG.out] at HD
  refine ⟨hX, ?_⟩
  refine wpAnyH_all (rs := [10]) (by kernel_rfl) (by decide) (fun i hi => ?_)
  rw [List.mem_singleton] at hi
  subst hi
  unfold wpOp
  go_simp
  refine .inl ((big_clone _ a3 (rep G) s3 c3 HD.out.2.2 HD.out.1 (by rw [HD.out.1]; exact Nat.le_trans HGl.out (by decide))).mono ?_)
  rintro e X2 ⟨a4, c4, rfl, hc4, hl4, hb⟩
  replace hX := hX.trans (Only.of_below (ps := [p]) hb) (fun q hq => .inl hq)
  replace hBl := hBl.trans (hb.mono hBl.size)
  clear hb
  refine ⟨hX, ?_⟩
  refine wpAnyH_all (rs := [11]) (by kernel_rfl) (by decide) (fun i hi => ?_)
  rw [List.mem_singleton] at hi
  subst hi
  unfold wpOp
  go_simp
  refine .inl ((big_made _ p v (G : Nat) false a4 s3 c4 (HP.out.below hBl) (by rw [Int.natAbs_natCast]; exact hl4) (by rw [Int.natAbs_natCast]; exact HD.out.1) hc4 ⟨(fun h => by cases h), fun _ => Int.natCast_nonneg _⟩).mono ?_)
  rintro e X3 ⟨rfl, hz, hb⟩
  replace hX := hX.trans hb (fun q hq => .inl hq)
  clear hb
  refine ⟨hX, ?_⟩
  refine wpAnyH_take_at (i := 12) (v := .pointer (some ⟨p, 0, none⟩)) 10 rfl rfl (by kernel_rfl) (by kernel_rfl) (by kernel_rfl) (fun _ _ _ h => h) (.inl ⟨rfl, fun X hX => by go_simp⟩) hX ?_
  simp only [Act.put, List.setIfInBounds_toArray, List.set_cons_zero, List.set_cons_succ]
  refine wpAnyH_done (by kernel_rfl) ?_ _
  go_wp2
  go_ret
  exact ⟨rfl, hz, hX⟩

end Go.Proofs.YtbffpkmfhkphdaaGreatDoor

namespace Go.Proofs.YtbffpkmfhkphdaaGreatDoor
open Go Go.RowKit Limb

theorem Fin.of {w W X : World} {g : Nat} {z : Int} {u : Value} (r0 : Row W g 24 [.bool false, .slice none 0 0]) (hW : Below w.heap.size w W) (hg : w.heap.size ≤ g) (hu : ApiV X u z) (h : Below W.heap.size W X) :
    ∃ a c, u = .agg #[.bool (decide (z < 0)), .slice a (rep z.natAbs).length c] ∧ Fin w X g z a c := by
  obtain ⟨a, c, e, hf⟩ := api_store r0 hW hg hu h
  exact ⟨a, c, e, hf⟩

theorem since_neg {W X : World} {v : Value} {y : Int} (h2 : ApiV W v y) (ly : (rep y.natAbs).length ≤ 1073741824) (h : Below W.heap.size W X) :
    Calls Tryz.prog 239 #[v] X fun e X' => (∃ s a n c, e = .returned (.agg #[.bool s, .slice a n c]) ∧ ApiV X' (.agg #[.bool s, .slice a n c]) (-y)) ∧ Below W.heap.size W X' := by
  refine (ref_neg X v y (h2.below h) (by omega)).mono ?_
  rintro e X' ⟨u, rfl, hu, hb⟩
  obtain ⟨a, c, rfl, h3⟩ := id hu
  exact ⟨⟨_, _, _, _, rfl, hu⟩, h.trans (hb.mono h.size)⟩
theorem since_add {w W X : World} {g : Nat} {v1 v2 : Value} {x y : Int} (r0 : Row W g 24 [.bool false, .slice none 0 0]) (hW : Below w.heap.size w W) (hg : w.heap.size ≤ g) (h1 : ApiV W v1 x) (lx : (rep x.natAbs).length ≤ 1073741824) (ly : (rep y.natAbs).length ≤ 1073741824) (h2 : ApiV X v2 y) (h : Below W.heap.size W X) :
    Calls Tryz.prog 22 #[v1, v2] X fun e X' => (∃ a c, e = .returned (.agg #[.bool (decide (x + y < 0)), .slice a (rep (x + y).natAbs).length c]) ∧ Fin w X' g (x + y) a c) ∧ Below W.heap.size W X' := by
  refine (ref_add X v1 v2 x y (h1.below h) h2 lx ly).mono ?_
  rintro e X' ⟨u, rfl, hu, hb⟩
  have hb' := h.trans (hb.mono h.size)
  obtain ⟨a, c, rfl, hf⟩ := Fin.of r0 hW hg hu hb'
  exact ⟨⟨a, c, rfl, hf⟩, hb'⟩

set_option maxHeartbeats 1600000 in
set_option maxRecDepth 1000000 in
theorem ref_sub (w : World) (v1 v2 : Value) (x y : Int) (h1 : ApiV w v1 x) (h2 : ApiV w v2 y) (lx : (rep x.natAbs).length ≤ 1073741824) (ly : (rep y.natAbs).length ≤ 1073741824) :
    Calls Tryz.prog 157 #[v1, v2] w fun e w' => ∃ u, e = .returned u ∧ ApiV w' u (x - y) ∧ Below w.heap.size w w' := by
  have h1' := h1
  have h2' := h2
  obtain ⟨a1, c1, rfl, hc1, hl1⟩ := h1
  obtain ⟨a2, c2, rfl, hc2, hl2⟩ := h2
  obtain ⟨n1, hn1⟩ : ∃ n, n = (rep x.natAbs).length := ⟨_, rfl⟩
  obtain ⟨n2, hn2⟩ : ∃ n, n = (rep y.natAbs).length := ⟨_, rfl⟩
  obtain ⟨s1, hs1⟩ : ∃ s, s = decide (x < 0) := ⟨_, rfl⟩
  obtain ⟨s2, hs2⟩ : ∃ s, s = decide (y < 0) := ⟨_, rfl⟩
  rw [← hs1, ← hn1] at h1' ⊢
  rw [← hs2, ← hn2] at h2' ⊢
  obtain ⟨r0, r1, r2, hW, hsz⟩ := rows3 w 24 (.bool s1) (.slice a1 n1 c1) (.bool s2) (.slice a2 n2 c2) (.bool false) (.slice none 0 0)
  obtain ⟨W, hWe⟩ : ∃ W, W = ((w.alloc (.cells #[.bool s1, .slice a1 n1 c1] 24)).alloc (.cells #[.bool s2, .slice a2 n2 c2] 24)).alloc (.cells #[.bool false, .slice none 0 0] 24) := ⟨_, rfl⟩
  rw [← hWe] at r0 r1 r2 hW hsz
  have HWe := Lib.hid hWe; clear hWe
  obtain ⟨z, hz⟩ : ∃ z, z = x + -y := ⟨_, rfl⟩
  rw [show x - y = z from by omega]
  have c0 := r0.cell_at 0
  have c01 := r0.cell_at 1
  have c10 := r1.cell_at 0
  have c11 := r1.cell_at 1
  simp only [List.getElem?_cons_zero, List.getElem?_cons_succ] at c0 c01 c10 c11
  obtain ⟨hk, hs⟩ := rows3_keep r0 r1 r2
  have HN := Lib.hid (fun X (h : Below W.heap.size W X) => since_neg (h2'.below hW) ly h)
  have ha := fun X s a n c (hv : ApiV X (.agg #[.bool s, .slice a n c]) (-y)) (h : Below W.heap.size W X) => since_add r2 hW (by omega) (h1'.below hW) lx (by rw [Int.natAbs_neg]; exact ly) hv h
  rw [← hz] at ha
  have HA := Lib.hid ha; clear ha
  have HK := Lib.hid hk; clear hk
  have HS := Lib.hid hs; clear hs
  clear hn1 hn2 hs1 hs2 hz
  have h := Below.refl W.heap.size W
  go_enter Tryz.func157, Tryz.ntmps157
  go_wp2_with fail
  rw [← HWe.out]
  go_region_held3 (fun X => (X.cell? ⟨w.heap.size, 0, none⟩ = some (.bool s1) ∧ X.cell? ⟨w.heap.size, 1, none⟩ = some (.slice a1 n1 c1) ∧ X.cell? ⟨w.heap.size + 1, 0, none⟩ = some (.bool s2) ∧ X.cell? ⟨w.heap.size + 1, 1, none⟩ = some (.slice a2 n2 c2)))
    (first | (apply HK.out; (repeat (first | exact h | apply Below.drew)); done) | (apply HS.out; apply below_store; apply below_store; apply Below.mono; (repeat (first | exact h | apply Below.drew)); omega; exact Nat.le_refl _; exact Nat.le_refl _))
    (first
      | (go_at_call 239; apply Calls.mono; apply HN.out; (repeat (first | exact h | apply Below.drew)); clear h; rintro e w' ⟨⟨s', a', n', c', rfl, hneg⟩, h⟩)
      | (go_at_call 22; apply Calls.mono; apply HA.out; exact hneg; (repeat (first | exact h | apply Below.drew)); clear h hneg; rintro e w' ⟨⟨a3, c3, rfl, hfin⟩, h⟩; obtain ⟨q0, q1, q2, q3, e0, e1, hf⟩ := hfin))
  go_wp2
  (try simp only [Exit.inBlock, Exit.then])
  refine bodyPost_ret (v := .agg #[.bool (decide (z < 0)), .slice a3 (rep z.natAbs).length c3]) (by simp [results, Tryz.results157, go_sem, e0, e1]) rfl ?_
  exact ⟨_, rfl, hf.out⟩

theorem since_times {W X : World} {a b : Option Addr} {x y n m ca cb : Nat} (ha : Lay .u32 W a (rep x)) (hb : Lay .u32 W b (rep y)) (hn : n = (rep x).length) (hm : m = (rep y).length) (ln : n ≤ 1073741824) (lm : m ≤ 1073741824) (h : Below W.heap.size W X) :
    Calls Tryz.prog 89 #[.slice a n ca, .slice b m cb] X fun e X' => (∃ a' n' c', e = .returned (.slice a' n' c') ∧ Raw X' a' n' c' (x * y)) ∧ Below W.heap.size W X' := by
  refine (ref_times X a b (rep x) (rep y) n m ca cb (ha.below h) (hb.below h) (rep_lim _) (rep_lim _) hn hm (by omega) (by omega)).mono ?_
  rw [val_rep, val_rep]
  rintro e X' ⟨a', c', rfl, h2, h3, h6, h7⟩
  exact ⟨⟨a', _, c', rfl, rep (x * y), rfl, h2, by omega, rep_lim _, val_rep _, h6⟩, h.trans (h7.mono h.size)⟩
theorem mul_sign {x y : Int} : ((decide (x < 0) != decide (y < 0)) = true → x * y ≤ 0) ∧ ((decide (x < 0) != decide (y < 0)) = false → 0 ≤ x * y) := by
  rcases Int.lt_or_le x 0 with hx | hx <;> rcases Int.lt_or_le y 0 with hy | hy
  · have : 0 ≤ x * y := Int.mul_nonneg_of_nonpos_of_nonpos (by omega) (by omega)
    simp [hx, hy]; omega
  · have : x * y ≤ 0 := Int.mul_nonpos_of_nonpos_of_nonneg (by omega) hy
    have h2 : ¬ y < 0 := by omega
    simp [hx, h2]; omega
  · have : x * y ≤ 0 := Int.mul_nonpos_of_nonneg_of_nonpos hx (by omega)
    have h2 : ¬ x < 0 := by omega
    simp [hy, h2]; omega
  · have : 0 ≤ x * y := Int.mul_nonneg hx hy
    have h2 : ¬ y < 0 := by omega
    have h3 : ¬ x < 0 := by omega
    simp [h2, h3]; omega

set_option maxHeartbeats 1600000 in
set_option maxRecDepth 1000000 in
theorem ref_mul (w : World) (v1 v2 : Value) (x y : Int) (h1 : ApiV w v1 x) (h2 : ApiV w v2 y) (lx : (rep x.natAbs).length ≤ 1073741824) (ly : (rep y.natAbs).length ≤ 1073741824) :
    Calls Tryz.prog 25 #[v1, v2] w fun e w' => ∃ u, e = .returned u ∧ ApiV w' u (x * y) ∧ Below w.heap.size w w' := by
  obtain ⟨a1, c1, rfl, hc1, hl1⟩ := h1
  obtain ⟨a2, c2, rfl, hc2, hl2⟩ := h2
  obtain ⟨n1, hn1⟩ : ∃ n, n = (rep x.natAbs).length := ⟨_, rfl⟩
  obtain ⟨n2, hn2⟩ : ∃ n, n = (rep y.natAbs).length := ⟨_, rfl⟩
  obtain ⟨s1, hs1⟩ : ∃ s, s = decide (x < 0) := ⟨_, rfl⟩
  obtain ⟨s2, hs2⟩ : ∃ s, s = decide (y < 0) := ⟨_, rfl⟩
  have hsg := @mul_sign x y
  rw [← hs1, ← hs2] at hsg
  rw [← hn1] at lx
  rw [← hn2] at ly
  rw [← hs1, ← hs2, ← hn1, ← hn2]
  obtain ⟨r0, r1, r2, hW, hsz⟩ := rows3 w 24 (.bool s1) (.slice a1 n1 c1) (.bool s2) (.slice a2 n2 c2) (.bool false) (.slice none 0 0)
  obtain ⟨W, hWe⟩ : ∃ W, W = ((w.alloc (.cells #[.bool s1, .slice a1 n1 c1] 24)).alloc (.cells #[.bool s2, .slice a2 n2 c2] 24)).alloc (.cells #[.bool false, .slice none 0 0] 24) := ⟨_, rfl⟩
  rw [← hWe] at r0 r1 r2 hW hsz
  have HWe := Lib.hid hWe; clear hWe
  have hab : x.natAbs * y.natAbs = (x * y).natAbs := (Int.natAbs_mul x y).symm
  obtain ⟨z, hz⟩ : ∃ z, z = x * y := ⟨_, rfl⟩
  rw [← hz] at hab hsg ⊢
  have c0 := r0.cell_at 0
  have c01 := r0.cell_at 1
  have c10 := r1.cell_at 0
  have c11 := r1.cell_at 1
  simp only [List.getElem?_cons_zero, List.getElem?_cons_succ] at c0 c01 c10 c11
  obtain ⟨hk, hs⟩ := rows3_keep r0 r1 r2
  have hp := fun X (h : Below W.heap.size W X) => since_times (ca := c1) (cb := c2) (hl1.below hW) (hl2.below hW) hn1 hn2 lx ly h
  rw [hab] at hp
  have HP := Lib.hid hp; clear hp
  have HM := Lib.hid (fun X a n c (h1 : Raw X a n c z.natAbs) (h : Below W.heap.size W X) => since_made r2 hW (by omega) hsg h1 h)
  have HK := Lib.hid hk; clear hk
  have HS := Lib.hid hs; clear hs
  clear hn1 hn2 hs1 hs2 hz hab hsg
  have h := Below.refl W.heap.size W
  go_enter Tryz.func25, Tryz.ntmps25
  go_wp2_with fail
  rw [← HWe.out]
  go_region_held3 (fun X => (X.cell? ⟨w.heap.size, 0, none⟩ = some (.bool s1) ∧ X.cell? ⟨w.heap.size, 1, none⟩ = some (.slice a1 n1 c1) ∧ X.cell? ⟨w.heap.size + 1, 0, none⟩ = some (.bool s2) ∧ X.cell? ⟨w.heap.size + 1, 1, none⟩ = some (.slice a2 n2 c2)))
    (first | (apply HK.out; (repeat (first | exact h | apply Below.drew)); done) | (apply HS.out; apply below_store; apply below_store; apply Below.mono; (repeat (first | exact h | apply Below.drew)); omega; exact Nat.le_refl _; exact Nat.le_refl _))
    (first
      | (go_at_call 89; apply Calls.mono; apply HP.out; (repeat (first | exact h | apply Below.drew)); clear h; rintro e w' ⟨⟨a', n', c', rfl, hraw⟩, h⟩)
      | (go_at_call 79; apply Calls.mono; apply HM.out; exact hraw; (repeat (first | exact h | apply Below.drew)); clear h hraw; rintro e w' ⟨⟨a3, c3, rfl, hfin⟩, h⟩; obtain ⟨q0, q1, q2, q3, e0, e1, hf⟩ := hfin))
  go_wp2
  (try simp only [Exit.inBlock, Exit.then])
  refine bodyPost_ret (v := .agg #[.bool (decide (z < 0)), .slice a3 (rep z.natAbs).length c3]) (by simp [results, Tryz.results25, go_sem, e0, e1]) rfl ?_
  exact ⟨_, rfl, hf.out⟩

end Go.Proofs.YtbffpkmfhkphdaaGreatDoor

namespace Go.Proofs.YtbffpkmfhkphdaaGreatDoor
open Go Go.RowKit Limb

theorem wpOp_call_val {P : Program} {ops : Array Oper} {Q : Exit → Act → World → Prop} {K : Act → World → Prop} {i : Nat} {o : Oper} {a : Act} {w : World} {x : Operand} {xs : Array Operand} {ts : Array TypeId} {k : FuncId} {cap : Array Value} (hi : ops[i]? = some o) (hg : o.guard = none)
    (ho : o.op = .call { callee := .value x, args := xs, argTypes := ts }) (hx : a.eval x = .func (.func k) #[] cap) (hk : entersB P k = true) (h : Calls P k (xs.map a.eval ++ cap) w fun e w' => ∃ v, e = .returned v ∧ K (a.put o.dst v) w') : wpOp P ops Q i K a w := by
  refine wpOp_plain hi hg ?_
  unfold Oper.wp
  simp only [exec_call ho hx hk, Oper.upon]
  refine h.mono ?_
  rintro e w' ⟨v, rfl, h1⟩
  exact h1

theorem nums_one (K : IntKind) (x : Nat) : nums K [x] = [.int K (x : Nat)] := rfl
theorem ownsRow_drew {w : World} {B e s n : Nat} {v : Value} {xs : List Value} (h : w.ownsRow B e s v n xs) : w.drew.ownsRow B e s v n xs := h

theorem bits_and (w : World) (x y : Nat) (hx : x < 4294967296) (hy : y < 4294967296) : Calls Tryz.prog 66 #[.int .u32 (x : Nat), .int .u32 (y : Nat)] w fun e w' => e = .returned (.int .u32 (bop 1 x y : Nat)) ∧ w' = w := by
  have e1 := u32_and_nat x y hx hy
  go_enter Tryz.func66, Tryz.ntmps66
  go_wp2
  go_ret
  exact ⟨rfl, rfl⟩
theorem bits_or (w : World) (x y : Nat) (hx : x < 4294967296) (hy : y < 4294967296) : Calls Tryz.prog 67 #[.int .u32 (x : Nat), .int .u32 (y : Nat)] w fun e w' => e = .returned (.int .u32 (bop 2 x y : Nat)) ∧ w' = w := by
  have e1 := u32_or_nat x y hx hy
  go_enter Tryz.func67, Tryz.ntmps67
  go_wp2
  go_ret
  exact ⟨rfl, rfl⟩
theorem bits_xor (w : World) (x y : Nat) (hx : x < 4294967296) (hy : y < 4294967296) : Calls Tryz.prog 68 #[.int .u32 (x : Nat), .int .u32 (y : Nat)] w fun e w' => e = .returned (.int .u32 (bop 3 x y : Nat)) ∧ w' = w := by
  have e1 := u32_xor_nat x y hx hy
  go_enter Tryz.func68, Tryz.ntmps68
  go_wp2
  go_ret
  exact ⟨rfl, rfl⟩

theorem bjoin_take {op : Nat} {xs ys : List Nat} {j : Nat} (h1 : j < xs.length) (h2 : j < ys.length) : (bjoin op xs ys).take (j + 1) = (bjoin op xs ys).take j ++ [bop op (wd xs j) (wd ys j)] := by
  rw [take_wd (by unfold bjoin; rw [List.length_zipWith]; omega), wd_bjoin h1 h2]

set_option maxHeartbeats 3200000 in
set_option maxRecDepth 100000 in
theorem large_joined (w : World) (op : Nat) (g : FuncId) (hen : entersB Tryz.prog g = true) (hf : ∀ (X : World) (x y : Nat), x < 4294967296 → y < 4294967296 → Calls Tryz.prog g #[.int .u32 (x : Nat), .int .u32 (y : Nat)] X fun e X' => e = .returned (.int .u32 (bop op x y : Nat)) ∧ X' = X)
    (a b : Option Addr) (xs ys : List Nat) (n ca cb : Nat) (ha : Lay .u32 w a xs) (hb : Lay .u32 w b ys) (hx : Lim xs) (hy : Lim ys) (hn : n = xs.length) (hm : n = ys.length) (ln : n ≤ 1099511627776) :
    Calls Tryz.prog 69 #[.slice a n ca, .slice b n cb, .func (.func g) #[] #[]] w fun e w' => ∃ v, e = .returned v ∧ w'.ownsRow w.heap.size 60 1 v n (nums .u32 (bjoin op xs ys)) ∧ Below w.heap.size w w' := by
  obtain ⟨i0, hi, hz0, hz1, hz2⟩ := info_parts info32
  obtain ⟨b1, off1, hix, hcx, _⟩ := ha.use 22 60 Tryz.underlying22 size32 ca
  obtain ⟨b2, off2, hiy, hcy, _⟩ := hb.use 22 60 Tryz.underlying22 size32 cb
  rw [← hn] at hix hcx
  rw [← hm] at hiy hcy
  have Hn := Lib.hid hn; clear hn
  have Hm := Lib.hid hm; clear hm
  have HIX := Lib.hid hix; clear hix
  have HCX := Lib.hid hcx; clear hcx
  have HIY := Lib.hid hiy; clear hiy
  have HCY := Lib.hid hcy; clear hcy
  have hall : Hid ((bjoin op xs ys).take n = bjoin op xs ys) := Lib.hid (List.take_of_length_le (by rw [bjoin_length (by rw [← Hn.out, ← Hm.out]), ← Hn.out]; exact Nat.le_refl _))
  clear ha hb
  go_enter Tryz.func69, Tryz.ntmps69
  go_wp2
  go_loopw [7, 11] (fun lv i wr => ∃ j : Nat, j ≤ n ∧ i = .int .i64 j ∧ wr.ownsRow w.heap.size 60 1 lv j (nums .u32 ((bjoin op xs ys).take j)) ∧ Below w.heap.size w wr) (fun _ i _ => n - (intOf i).toNat)
  case atStart => exact ⟨0, by omega, rfl, World.ownsRow_nil _ _ _ _, Below.refl _ _⟩
  case round =>
    obtain ⟨j, hj, rfl, hown, hB⟩ := hrel
    by_cases hj1 : j < n
    · have Hst := Lib.hid (bjoin_take (op := op) (xs := xs) (ys := ys) (j := j) (by rw [← Hn.out]; exact hj1) (by rw [← Hm.out]; exact hj1))
      go_upto_region 5 with fail
      have hX : Below w.heap.size w wr.drew := hB.drew
      have hown' := ownsRow_drew hown
      refine wp_region_held (S := fun X => Below w.heap.size w X) (by kernel_rfl) ?_
      refine wpAnyH_take_at (i := 0) (v := u7) 14 rfl rfl (by kernel_rfl) (by kernel_rfl) (by kernel_rfl) (fun _ _ _ h => h) (.inl ⟨rfl, fun X hX => by go_simp⟩) hX ?_
      simp only [Act.put, List.setIfInBounds_toArray, List.set_cons_zero, List.set_cons_succ]
      refine wpAnyH_take_at (i := 1) (v := .func (.func g) #[] #[]) 15 rfl rfl (by kernel_rfl) (by kernel_rfl) (by kernel_rfl) (fun _ _ _ h => h) (.inl ⟨rfl, fun X hX => by go_simp⟩) hX ?_
      simp only [Act.put, List.setIfInBounds_toArray, List.set_cons_zero, List.set_cons_succ]
      refine wpAnyH_take_at (i := 2) (v := .slice a n ca) 16 rfl rfl (by kernel_rfl) (by kernel_rfl) (by kernel_rfl) (fun _ _ _ h => h) (.inl ⟨rfl, fun X hX => by go_simp⟩) hX ?_
      simp only [Act.put, List.setIfInBounds_toArray, List.set_cons_zero, List.set_cons_succ]
      refine wpAnyH_take_at (i := 3) (v := .int .i64 (j : Nat)) 17 rfl rfl (by kernel_rfl) (by kernel_rfl) (by kernel_rfl) (fun _ _ _ h => h) (.inl ⟨rfl, fun X hX => by go_simp⟩) hX ?_
      simp only [Act.put, List.setIfInBounds_toArray, List.set_cons_zero, List.set_cons_succ]
      refine wpAnyH_take_at (i := 4) (v := .pointer (some ⟨b1, off1 + j, none⟩)) 18 rfl rfl (by kernel_rfl) (by kernel_rfl) (by kernel_rfl) (fun _ _ _ h => h) (.inl ⟨rfl, fun X hX => by have i1 := HIX.out X .i64 j (by omega) (by omega); rw [Int.toNat_natCast] at i1; go_simp⟩) hX ?_
      simp only [Act.put, List.setIfInBounds_toArray, List.set_cons_zero, List.set_cons_succ]
      refine wpAnyH_take_at (i := 5) (v := .int .u32 (wd xs j : Nat)) 19 rfl rfl (by kernel_rfl) (by kernel_rfl) (by kernel_rfl) (fun _ _ _ h => h) (.inl ⟨rfl, fun X hX => by have i1 := HCX.out X hX j hj1; go_simp⟩) hX ?_
      simp only [Act.put, List.setIfInBounds_toArray, List.set_cons_zero, List.set_cons_succ]
      refine wpAnyH_take_at (i := 6) (v := .slice b n cb) 20 rfl rfl (by kernel_rfl) (by kernel_rfl) (by kernel_rfl) (fun _ _ _ h => h) (.inl ⟨rfl, fun X hX => by go_simp⟩) hX ?_
      simp only [Act.put, List.setIfInBounds_toArray, List.set_cons_zero, List.set_cons_succ]
      refine wpAnyH_take_at (i := 7) (v := .int .i64 (j : Nat)) 21 rfl rfl (by kernel_rfl) (by kernel_rfl) (by kernel_rfl) (fun _ _ _ h => h) (.inl ⟨rfl, fun X hX => by go_simp⟩) hX ?_
      simp only [Act.put, List.setIfInBounds_toArray, List.set_cons_zero, List.set_cons_succ]
      refine wpAnyH_take_at (i := 8) (v := .pointer (some ⟨b2, off2 + j, none⟩)) 22 rfl rfl (by kernel_rfl) (by kernel_rfl) (by kernel_rfl) (fun _ _ _ h => h) (.inl ⟨rfl, fun X hX => by have i1 := HIY.out X .i64 j (by omega) (by omega); rw [Int.toNat_natCast] at i1; go_simp⟩) hX ?_
      simp only [Act.put, List.setIfInBounds_toArray, List.set_cons_zero, List.set_cons_succ]
      refine wpAnyH_take_at (i := 9) (v := .int .u32 (wd ys j : Nat)) 23 rfl rfl (by kernel_rfl) (by kernel_rfl) (by kernel_rfl) (fun _ _ _ h => h) (.inl ⟨rfl, fun X hX => by have i1 := HCY.out X hX j hj1; go_simp⟩) hX ?_
      simp only [Act.put, List.setIfInBounds_toArray, List.set_cons_zero, List.set_cons_succ]
      refine wpAnyH_all (rs := [10]) (by kernel_rfl) (by decide) (fun i hi => ?_)
      rw [List.mem_singleton] at hi
      subst hi
      refine wpOp_call_val (k := g) (cap := #[]) rfl rfl rfl (by rfl) hen ?_
      simp only [List.map_toArray, List.map_cons, List.map_nil, Array.append_empty]
      refine (hf _ (wd xs j) (wd ys j) (hx.wd j) (hy.wd j)).mono ?_
      rintro e X1 ⟨rfl, rfl⟩
      refine ⟨_, rfl, hX, ?_⟩
      simp only [Act.put, List.setIfInBounds_toArray, List.set_cons_zero, List.set_cons_succ]
      refine wpAnyH_all (rs := [11]) (by kernel_rfl) (by decide) (fun i hi => ?_)
      rw [List.mem_singleton] at hi
      subst hi
      have hs := hX.size
      replace hX := hX.alloc hs (.cells #[.int .u32 (bop op (wd xs j) (wd ys j) : Nat)] 60)
      replace hown' := hown'.alloc (.cells #[.int .u32 (bop op (wd xs j) (wd ys j) : Nat)] 60)
      unfold wpOp
      go_simp
      refine .inl ⟨hX, ?_⟩
      refine wpAnyH_all (rs := [12]) (by kernel_rfl) (by decide) (fun i hi => ?_)
      rw [List.mem_singleton] at hi
      subst hi
      refine wpOp_plain rfl rfl ?_
      refine wp_append_own _ (.tmp 14) (.tmp 25) 22 rfl w.heap.size 60 i0 (.int .u32 0) 1 4 Tryz.underlying22 hi hz0 hz1 hz2 rfl (by decide) u7 j _ rfl hown' ⟨wr.heap.size, 0, none⟩ 1 1 [.int .u32 (bop op (wd xs j) (wd ys j) : Nat)] rfl rfl (cell_one_new _ _ _) (by simp [Value.oneCell']) (Nat.le_trans (show j + 1 ≤ 1099511627777 by omega) (by decide)) (by omega) hX.size ?_
      intro v' X3 hown2 hgr _
      have hb2 := below_grown hown' hgr hX.size
      replace hX := hX.trans hb2
      rw [← nums_one, ← nums_append] at hown2
      refine ⟨hX, ?_⟩
      simp only [Act.put, List.setIfInBounds_toArray, List.set_cons_zero, List.set_cons_succ]
      refine wpAnyH_take_at (i := 13) (v := v') 7 rfl rfl (by kernel_rfl) (by kernel_rfl) (by kernel_rfl) (fun _ _ _ h => h) (.inl ⟨rfl, fun X hX => by go_simp⟩) hX ?_
      simp only [Act.put, List.setIfInBounds_toArray, List.set_cons_zero, List.set_cons_succ]
      refine wpAnyH_done (by kernel_rfl) ?_ _
      go_wp2
      go_roundw
      case rel => exact ⟨j + 1, by omega, by go_num, by rw [Hst.out]; exact hown2, hX⟩
      case measure => simp [intOf]; omega
    · obtain rfl : j = n := by omega
      rw [hall.out] at hown
      go_wp2
      go_ret
      exact ⟨_, rfl, hown, hB⟩

end Go.Proofs.YtbffpkmfhkphdaaGreatDoor
