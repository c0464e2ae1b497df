/- The walk of (coming).after: the numbers behind such steps. -/
import Derived.Test.YtbffpkmfhkphdaaGreatDoorGX01
import Derived.Test.YtbffpkmfhkphdaaGreatDoorGX14
import Derived.Test.YtbffpkmfhkphdaaGreatDoorPlusC
import Derived.Test.YtbffpkmfhkphdaaGreatDoorGX29
set_option linter.unusedVariables false
set_option linter.unusedSimpArgs false
namespace Go.Proofs.YtbffpkmfhkphdaaGreatDoor
open Go Go.RowKit Limb

theorem rows5 (w : World) (t : TypeId) (a0 a1 a2 a3 a4 : Value) : ∃ W, W = w.alloc (.cells #[a0, a1, a2, a3, a4] t) ∧ Row W w.heap.size t [a0, a1, a2, a3, a4] ∧ Below w.heap.size w W ∧ W.heap.size = w.heap.size + 1 :=
  ⟨_, rfl, by unfold Row; exact heap_alloc_new _ _, (Below.refl _ _).alloc (Nat.le_refl _) _, by rw [World.size_alloc]⟩
theorem len_digit {x c d : Nat} (hx : (rep x).length ≤ c) (hd : d < 4294967296) : (rep (x * d)).length ≤ c + 1 := by
  refine rep_length_le.2 ?_
  have h1 := rep_length_le.1 hx
  rw [W_succ, Nat.mul_comm 4294967296]
  exact Nat.mul_lt_mul_of_lt_of_lt h1 hd
theorem big_many' (w : World) (a : Option Addr) (x n ca d C : Nat) (ha : Lay .u32 w a (rep x)) (hn : n = (rep x).length) (ln : n ≤ C) (lC : C ≤ 1099511627776) (hd : d < 4294967296) :
    Calls Tryz.prog 284 #[.slice a n ca, .int .u64 d] w fun e w' => ∃ a' n' c', e = .returned (.slice a' n' c') ∧ Hid (n' = (rep (x * d)).length ∧ n' ≤ C + 1 ∧ Lay .u32 w' a' (rep (x * d))) ∧ Below w.heap.size w w' := by
  have h := big_many w a (rep x) n ca d ha (rep_lim _) hn (by omega) hd
  rw [val_rep] at h
  refine h.mono ?_
  rintro e w' ⟨a', c', rfl, h1, h2, h3, h4⟩
  exact ⟨a', _, c', rfl, Lib.hid ⟨rfl, len_digit (by rw [← hn]; exact ln) hd, h3⟩, h4⟩
theorem many_below {X X' : World} {a' : Option Addr} {n' z C : Nat} (h : Hid (n' = (rep z).length ∧ n' ≤ C ∧ Lay .u32 X a' (rep z))) (hb : Below X.heap.size X X') : Hid (n' = (rep z).length ∧ n' ≤ C ∧ Lay .u32 X' a' (rep z)) := Lib.hid ⟨h.out.1, h.out.2.1, h.out.2.2.below hb⟩
theorem big_less2 (w : World) (a b : Option Addr) (x y z n m : Nat) (ca cb C : Nat) (ha : Hid (n = (rep x).length ∧ n ≤ C ∧ Lay .u32 w a (rep x))) (hb : Hid (m = (rep y).length ∧ m ≤ C ∧ Lay .u32 w b (rep y))) (lC : C ≤ 1099511627776) (hz : x = y + z) :
    Calls Tryz.prog 167 #[.slice a n ca, .slice b m cb] w fun e w' => ∃ a c s, e = .returned (.slice a s c) ∧ Hid (s = (rep z).length ∧ s ≤ c ∧ Lay .u32 w' a (rep z)) ∧ Below w.heap.size w w' := by
  refine (big_less' w a b x y n m ca cb ha.out.2.2 hb.out.2.2 ha.out.1 hb.out.1 (by have := ha.out.2.1; omega) (by omega)).mono ?_
  rw [show x - y = z by omega]
  rintro e w' ⟨a, c, s, rfl, h1, h2, h3, h4⟩
  exact ⟨a, c, s, rfl, Lib.hid ⟨h1, h2, h3⟩, h4⟩
theorem less_below {X X' : World} {a' : Option Addr} {n' z c : Nat} (h : Hid (n' = (rep z).length ∧ n' ≤ c ∧ Lay .u32 X a' (rep z))) (hb : Below X.heap.size X X') : Hid (n' = (rep z).length ∧ n' ≤ c ∧ Lay .u32 X' a' (rep z)) := Lib.hid ⟨h.out.1, h.out.2.1, h.out.2.2.below hb⟩

set_option maxHeartbeats 3200000 in
set_option maxRecDepth 1000000 in
theorem after_odd (w : World) (A B C D X Y X' Y' : Nat) (ax ay : Option Addr) (nx ny cx cy : Nat) (hx : Lay .u32 w ax (rep X)) (hy : Lay .u32 w ay (rep Y)) (hnx : nx = (rep X).length) (hny : ny = (rep Y).length) (lx : nx ≤ 1073741824) (ly : ny ≤ 1073741824)
    (lA : A < 4294967296) (lB : B < 4294967296) (lC : C < 4294967296) (lD : D < 4294967296) (h1 : Y * B = X * A + X') (h2 : X * C = Y * D + Y') :
    Calls Tryz.prog 246 #[.agg #[.int .u64 (A : Nat), .int .u64 (B : Nat), .int .u64 (C : Nat), .int .u64 (D : Nat), .bool true], .slice ax nx cx, .slice ay ny cy] w fun e w' => ∃ a1 s1 d1 a2 s2 d2, e = .returned (.tuple #[.slice a1 s1 d1, .slice a2 s2 d2]) ∧
      Hid (s1 = (rep X').length ∧ s1 ≤ d1 ∧ Lay .u32 w' a1 (rep X')) ∧ Hid (s2 = (rep Y').length ∧ s2 ≤ d2 ∧ Lay .u32 w' a2 (rep Y')) ∧ Below w.heap.size w w' := by
  obtain ⟨W, hWe, r3, hW, hsz⟩ := rows5 w 282 (.int .u64 (A : Nat)) (.int .u64 (B : Nat)) (.int .u64 (C : Nat)) (.int .u64 (D : Nat)) (.bool true)
  have HWe := Lib.hid hWe; clear hWe
  have hxW := hx.below hW
  have hyW := hy.below hW
  have HX := Lib.hid (fun V (h : Below W.heap.size W V) => hxW.below h)
  have HY := Lib.hid (fun V (h : Below W.heap.size W V) => hyW.below h)
  have HR := Lib.hid (fun V (h : Below W.heap.size W V) => show V.cell? ⟨w.heap.size, 0, none⟩ = some (.int .u64 (A : Nat)) ∧ V.cell? ⟨w.heap.size, 1, none⟩ = some (.int .u64 (B : Nat)) ∧ V.cell? ⟨w.heap.size, 2, none⟩ = some (.int .u64 (C : Nat)) ∧ V.cell? ⟨w.heap.size, 3, none⟩ = some (.int .u64 (D : Nat)) from
    ⟨(r3.below h r3.lt).cell_at 0, (r3.below h r3.lt).cell_at 1, (r3.below h r3.lt).cell_at 2, (r3.below h r3.lt).cell_at 3⟩)
  have HN1 := Lib.hid hnx
  have HN2 := Lib.hid hny
  have H1 := Lib.hid h1
  have H2 := Lib.hid h2
  have q4 := r3.cell_at 4
  simp only [List.getElem?_cons_zero, List.getElem?_cons_succ] at q4
  have HB := Lib.hid hW
  clear hx hy hxW hyW hnx hny h1 h2 hW hsz r3
  go_enter Tryz.func246, Tryz.ntmps246
  go_upto_region 2 with fail
  rw [← HWe.out]
  clear q4
  have hX : Below W.heap.size W W.drew := (Below.refl _ _).drew
  refine wp_region_held (S := fun V => Below W.heap.size W V) (by kernel_rfl) ?_
  refine wpAnyH_take_at (i := 0) (v := .slice ay ny cy) 10 rfl rfl (by kernel_rfl) (by kernel_rfl) (by kernel_rfl) (fun _ _ _ h => h) (.inl ⟨rfl, fun X hX => by go_simp⟩) hX ?_
  simp only [Act.put, List.setIfInBounds_toArray, List.set_cons_zero, List.set_cons_succ]
  refine wpAnyH_take_at (i := 1) (v := .pointer (some ⟨w.heap.size, 1, none⟩)) 11 rfl rfl (by kernel_rfl) (by kernel_rfl) (by kernel_rfl) (fun _ _ _ h => h) (.inl ⟨rfl, fun X hX => by go_simp⟩) hX ?_
  simp only [Act.put, List.setIfInBounds_toArray, List.set_cons_zero, List.set_cons_succ]
  refine wpAnyH_take_at (i := 2) (v := .int .u64 (B : Nat)) 12 rfl rfl (by kernel_rfl) (by kernel_rfl) (by kernel_rfl) (fun _ _ _ h => h) (.inl ⟨rfl, fun X hX => by obtain ⟨i0, i1, i2, i3⟩ := HR.out X hX; go_simp⟩) hX ?_
  simp only [Act.put, List.setIfInBounds_toArray, List.set_cons_zero, List.set_cons_succ]
  refine wpAnyH_take_at (i := 4) (v := .slice ax nx cx) 14 rfl rfl (by kernel_rfl) (by kernel_rfl) (by kernel_rfl) (fun _ _ _ h => h) (.inl ⟨rfl, fun X hX => by go_simp⟩) hX ?_
  simp only [Act.put, List.setIfInBounds_toArray, List.set_cons_zero, List.set_cons_succ]
  refine wpAnyH_take_at (i := 5) (v := .pointer (some ⟨w.heap.size, 0, none⟩)) 15 rfl rfl (by kernel_rfl) (by kernel_rfl) (by kernel_rfl) (fun _ _ _ h => h) (.inl ⟨rfl, fun X hX => by go_simp⟩) hX ?_
  simp only [Act.put, List.setIfInBounds_toArray, List.set_cons_zero, List.set_cons_succ]
  refine wpAnyH_take_at (i := 6) (v := .int .u64 (A : Nat)) 16 rfl rfl (by kernel_rfl) (by kernel_rfl) (by kernel_rfl) (fun _ _ _ h => h) (.inl ⟨rfl, fun X hX => by obtain ⟨i0, i1, i2, i3⟩ := HR.out X hX; go_simp⟩) hX ?_
  simp only [Act.put, List.setIfInBounds_toArray, List.set_cons_zero, List.set_cons_succ]
  refine wpAnyH_take_at (i := 9) (v := .slice ax nx cx) 19 rfl rfl (by kernel_rfl) (by kernel_rfl) (by kernel_rfl) (fun _ _ _ h => h) (.inl ⟨rfl, fun X hX => by go_simp⟩) hX ?_
  simp only [Act.put, List.setIfInBounds_toArray, List.set_cons_zero, List.set_cons_succ]
  refine wpAnyH_take_at (i := 10) (v := .pointer (some ⟨w.heap.size, 2, none⟩)) 20 rfl rfl (by kernel_rfl) (by kernel_rfl) (by kernel_rfl) (fun _ _ _ h => h) (.inl ⟨rfl, fun X hX => by go_simp⟩) hX ?_
  simp only [Act.put, List.setIfInBounds_toArray, List.set_cons_zero, List.set_cons_succ]
  refine wpAnyH_take_at (i := 11) (v := .int .u64 (C : Nat)) 21 rfl rfl (by kernel_rfl) (by kernel_rfl) (by kernel_rfl) (fun _ _ _ h => h) (.inl ⟨rfl, fun X hX => by obtain ⟨i0, i1, i2, i3⟩ := HR.out X hX; go_simp⟩) hX ?_
  simp only [Act.put, List.setIfInBounds_toArray, List.set_cons_zero, List.set_cons_succ]
  refine wpAnyH_take_at (i := 13) (v := .slice ay ny cy) 23 rfl rfl (by kernel_rfl) (by kernel_rfl) (by kernel_rfl) (fun _ _ _ h => h) (.inl ⟨rfl, fun X hX => by go_simp⟩) hX ?_
  simp only [Act.put, List.setIfInBounds_toArray, List.set_cons_zero, List.set_cons_succ]
  refine wpAnyH_take_at (i := 14) (v := .pointer (some ⟨w.heap.size, 3, none⟩)) 24 rfl rfl (by kernel_rfl) (by kernel_rfl) (by kernel_rfl) (fun _ _ _ h => h) (.inl ⟨rfl, fun X hX => by go_simp⟩) hX ?_
  simp only [Act.put, List.setIfInBounds_toArray, List.set_cons_zero, List.set_cons_succ]
  refine wpAnyH_take_at (i := 15) (v := .int .u64 (D : Nat)) 25 rfl rfl (by kernel_rfl) (by kernel_rfl) (by kernel_rfl) (fun _ _ _ h => h) (.inl ⟨rfl, fun X hX => by obtain ⟨i0, i1, i2, i3⟩ := HR.out X hX; go_simp⟩) hX ?_
  simp only [Act.put, List.setIfInBounds_toArray, List.set_cons_zero, List.set_cons_succ]
  refine wpAnyH_all (rs := [3]) (by kernel_rfl) (by decide) (fun i hi => ?_)
  rw [List.mem_singleton] at hi
  subst hi
  unfold wpOp
  go_simp
  refine .inl ((big_many' _ ay Y ny cy B 1073741824 (HY.out _ hX) HN2.out ly (by decide) lB).mono ?_)
  rintro e X1 ⟨m1, n1, c1, rfl, K1, hb⟩
  replace hX := hX.trans (hb.mono hX.size)
  clear hb
  refine ⟨hX, ?_⟩
  refine wpAnyH_all (rs := [7]) (by kernel_rfl) (by decide) (fun i hi => ?_)
  rw [List.mem_singleton] at hi
  subst hi
  unfold wpOp
  go_simp
  refine .inl ((big_many' _ ax X nx cx A 1073741824 (HX.out _ hX) HN1.out lx (by decide) lA).mono ?_)
  rintro e X2 ⟨m2, n2, c2, rfl, K2, hb⟩
  replace K1 := many_below K1 hb
  replace hX := hX.trans (hb.mono hX.size)
  clear hb
  refine ⟨hX, ?_⟩
  refine wpAnyH_all (rs := [8]) (by kernel_rfl) (by decide) (fun i hi => ?_)
  rw [List.mem_singleton] at hi
  subst hi
  unfold wpOp
  go_simp
  refine .inl ((big_less2 _ m1 m2 _ _ X' n1 n2 c1 c2 1073741825 K1 K2 (by decide) H1.out).mono ?_)
  rintro e X3 ⟨r1, d1, s1, rfl, R1, hb⟩
  replace K1 := many_below K1 hb
  replace K2 := many_below K2 hb
  replace hX := hX.trans (hb.mono hX.size)
  clear hb
  clear K1 K2
  refine ⟨hX, ?_⟩
  refine wpAnyH_all (rs := [12]) (by kernel_rfl) (by decide) (fun i hi => ?_)
  rw [List.mem_singleton] at hi
  subst hi
  unfold wpOp
  go_simp
  refine .inl ((big_many' _ ax X nx cx C 1073741824 (HX.out _ hX) HN1.out lx (by decide) lC).mono ?_)
  rintro e X4 ⟨m3, n3, c3, rfl, K3, hb⟩
  replace R1 := less_below R1 hb
  replace hX := hX.trans (hb.mono hX.size)
  clear hb
  refine ⟨hX, ?_⟩
  refine wpAnyH_all (rs := [16]) (by kernel_rfl) (by decide) (fun i hi => ?_)
  rw [List.mem_singleton] at hi
  subst hi
  unfold wpOp
  go_simp
  refine .inl ((big_many' _ ay Y ny cy D 1073741824 (HY.out _ hX) HN2.out ly (by decide) lD).mono ?_)
  rintro e X5 ⟨m4, n4, c4, rfl, K4, hb⟩
  replace R1 := less_below R1 hb
  replace K3 := many_below K3 hb
  replace hX := hX.trans (hb.mono hX.size)
  clear hb
  refine ⟨hX, ?_⟩
  refine wpAnyH_all (rs := [17]) (by kernel_rfl) (by decide) (fun i hi => ?_)
  rw [List.mem_singleton] at hi
  subst hi
  unfold wpOp
  go_simp
  refine .inl ((big_less2 _ m3 m4 _ _ Y' n3 n4 c3 c4 1073741825 K3 K4 (by decide) H2.out).mono ?_)
  rintro e X6 ⟨r2, d2, s2, rfl, R2, hb⟩
  replace R1 := less_below R1 hb
  replace K3 := many_below K3 hb
  replace K4 := many_below K4 hb
  replace hX := hX.trans (hb.mono hX.size)
  clear hb
  clear K3 K4
  refine ⟨hX, ?_⟩
  refine wpAnyH_take_at (i := 18) (v := .slice r1 s1 d1) 6 rfl rfl (by kernel_rfl) (by kernel_rfl) (by kernel_rfl) (fun _ _ _ h => h) (.inl ⟨rfl, fun X hX => by go_simp⟩) hX ?_
  simp only [Act.put, List.setIfInBounds_toArray, List.set_cons_zero, List.set_cons_succ]
  refine wpAnyH_take_at (i := 19) (v := .slice r2 s2 d2) 7 rfl rfl (by kernel_rfl) (by kernel_rfl) (by kernel_rfl) (fun _ _ _ h => h) (.inl ⟨rfl, fun X hX => by go_simp⟩) hX ?_
  simp only [Act.put, List.setIfInBounds_toArray, List.set_cons_zero, List.set_cons_succ]
  refine wpAnyH_done (by kernel_rfl) ?_ _
  go_wp2
  go_ret2
  exact ⟨_, _, _, _, _, _, rfl, R1, R2, HB.out.trans (hX.mono HB.out.size)⟩

set_option maxHeartbeats 3200000 in
set_option maxRecDepth 1000000 in
theorem after_even (w : World) (A B C D X Y X' Y' : Nat) (ax ay : Option Addr) (nx ny cx cy : Nat) (hx : Lay .u32 w ax (rep X)) (hy : Lay .u32 w ay (rep Y)) (hnx : nx = (rep X).length) (hny : ny = (rep Y).length) (lx : nx ≤ 1073741824) (ly : ny ≤ 1073741824)
    (lA : A < 4294967296) (lB : B < 4294967296) (lC : C < 4294967296) (lD : D < 4294967296) (h1 : X * A = Y * B + X') (h2 : Y * D = X * C + Y') :
    Calls Tryz.prog 246 #[.agg #[.int .u64 (A : Nat), .int .u64 (B : Nat), .int .u64 (C : Nat), .int .u64 (D : Nat), .bool false], .slice ax nx cx, .slice ay ny cy] w fun e w' => ∃ a1 s1 d1 a2 s2 d2, e = .returned (.tuple #[.slice a1 s1 d1, .slice a2 s2 d2]) ∧
      Hid (s1 = (rep X').length ∧ s1 ≤ d1 ∧ Lay .u32 w' a1 (rep X')) ∧ Hid (s2 = (rep Y').length ∧ s2 ≤ d2 ∧ Lay .u32 w' a2 (rep Y')) ∧ Below w.heap.size w w' := by
  obtain ⟨W, hWe, r3, hW, hsz⟩ := rows5 w 282 (.int .u64 (A : Nat)) (.int .u64 (B : Nat)) (.int .u64 (C : Nat)) (.int .u64 (D : Nat)) (.bool false)
  have HWe := Lib.hid hWe; clear hWe
  have hxW := hx.below hW
  have hyW := hy.below hW
  have HX := Lib.hid (fun V (h : Below W.heap.size W V) => hxW.below h)
  have HY := Lib.hid (fun V (h : Below W.heap.size W V) => hyW.below h)
  have HR := Lib.hid (fun V (h : Below W.heap.size W V) => show V.cell? ⟨w.heap.size, 0, none⟩ = some (.int .u64 (A : Nat)) ∧ V.cell? ⟨w.heap.size, 1, none⟩ = some (.int .u64 (B : Nat)) ∧ V.cell? ⟨w.heap.size, 2, none⟩ = some (.int .u64 (C : Nat)) ∧ V.cell? ⟨w.heap.size, 3, none⟩ = some (.int .u64 (D : Nat)) from
    ⟨(r3.below h r3.lt).cell_at 0, (r3.below h r3.lt).cell_at 1, (r3.below h r3.lt).cell_at 2, (r3.below h r3.lt).cell_at 3⟩)
  have HN1 := Lib.hid hnx
  have HN2 := Lib.hid hny
  have H1 := Lib.hid h1
  have H2 := Lib.hid h2
  have q4 := r3.cell_at 4
  simp only [List.getElem?_cons_zero, List.getElem?_cons_succ] at q4
  have HB := Lib.hid hW
  clear hx hy hxW hyW hnx hny h1 h2 hW hsz r3
  go_enter Tryz.func246, Tryz.ntmps246
  go_upto_region 3 with fail
  rw [← HWe.out]
  clear q4
  have hX : Below W.heap.size W W.drew := (Below.refl _ _).drew
  refine wp_region_held (S := fun V => Below W.heap.size W V) (by kernel_rfl) ?_
  refine wpAnyH_take_at (i := 0) (v := .slice ax nx cx) 28 rfl rfl (by kernel_rfl) (by kernel_rfl) (by kernel_rfl) (fun _ _ _ h => h) (.inl ⟨rfl, fun X hX => by go_simp⟩) hX ?_
  simp only [Act.put, List.setIfInBounds_toArray, List.set_cons_zero, List.set_cons_succ]
  refine wpAnyH_take_at (i := 1) (v := .pointer (some ⟨w.heap.size, 0, none⟩)) 29 rfl rfl (by kernel_rfl) (by kernel_rfl) (by kernel_rfl) (fun _ _ _ h => h) (.inl ⟨rfl, fun X hX => by go_simp⟩) hX ?_
  simp only [Act.put, List.setIfInBounds_toArray, List.set_cons_zero, List.set_cons_succ]
  refine wpAnyH_take_at (i := 2) (v := .int .u64 (A : Nat)) 30 rfl rfl (by kernel_rfl) (by kernel_rfl) (by kernel_rfl) (fun _ _ _ h => h) (.inl ⟨rfl, fun X hX => by obtain ⟨i0, i1, i2, i3⟩ := HR.out X hX; go_simp⟩) hX ?_
  simp only [Act.put, List.setIfInBounds_toArray, List.set_cons_zero, List.set_cons_succ]
  refine wpAnyH_take_at (i := 4) (v := .slice ay ny cy) 32 rfl rfl (by kernel_rfl) (by kernel_rfl) (by kernel_rfl) (fun _ _ _ h => h) (.inl ⟨rfl, fun X hX => by go_simp⟩) hX ?_
  simp only [Act.put, List.setIfInBounds_toArray, List.set_cons_zero, List.set_cons_succ]
  refine wpAnyH_take_at (i := 5) (v := .pointer (some ⟨w.heap.size, 1, none⟩)) 33 rfl rfl (by kernel_rfl) (by kernel_rfl) (by kernel_rfl) (fun _ _ _ h => h) (.inl ⟨rfl, fun X hX => by go_simp⟩) hX ?_
  simp only [Act.put, List.setIfInBounds_toArray, List.set_cons_zero, List.set_cons_succ]
  refine wpAnyH_take_at (i := 6) (v := .int .u64 (B : Nat)) 34 rfl rfl (by kernel_rfl) (by kernel_rfl) (by kernel_rfl) (fun _ _ _ h => h) (.inl ⟨rfl, fun X hX => by obtain ⟨i0, i1, i2, i3⟩ := HR.out X hX; go_simp⟩) hX ?_
  simp only [Act.put, List.setIfInBounds_toArray, List.set_cons_zero, List.set_cons_succ]
  refine wpAnyH_take_at (i := 9) (v := .slice ay ny cy) 37 rfl rfl (by kernel_rfl) (by kernel_rfl) (by kernel_rfl) (fun _ _ _ h => h) (.inl ⟨rfl, fun X hX => by go_simp⟩) hX ?_
  simp only [Act.put, List.setIfInBounds_toArray, List.set_cons_zero, List.set_cons_succ]
  refine wpAnyH_take_at (i := 10) (v := .pointer (some ⟨w.heap.size, 3, none⟩)) 38 rfl rfl (by kernel_rfl) (by kernel_rfl) (by kernel_rfl) (fun _ _ _ h => h) (.inl ⟨rfl, fun X hX => by go_simp⟩) hX ?_
  simp only [Act.put, List.setIfInBounds_toArray, List.set_cons_zero, List.set_cons_succ]
  refine wpAnyH_take_at (i := 11) (v := .int .u64 (D : Nat)) 39 rfl rfl (by kernel_rfl) (by kernel_rfl) (by kernel_rfl) (fun _ _ _ h => h) (.inl ⟨rfl, fun X hX => by obtain ⟨i0, i1, i2, i3⟩ := HR.out X hX; go_simp⟩) hX ?_
  simp only [Act.put, List.setIfInBounds_toArray, List.set_cons_zero, List.set_cons_succ]
  refine wpAnyH_take_at (i := 13) (v := .slice ax nx cx) 41 rfl rfl (by kernel_rfl) (by kernel_rfl) (by kernel_rfl) (fun _ _ _ h => h) (.inl ⟨rfl, fun X hX => by go_simp⟩) hX ?_
  simp only [Act.put, List.setIfInBounds_toArray, List.set_cons_zero, List.set_cons_succ]
  refine wpAnyH_take_at (i := 14) (v := .pointer (some ⟨w.heap.size, 2, none⟩)) 42 rfl rfl (by kernel_rfl) (by kernel_rfl) (by kernel_rfl) (fun _ _ _ h => h) (.inl ⟨rfl, fun X hX => by go_simp⟩) hX ?_
  simp only [Act.put, List.setIfInBounds_toArray, List.set_cons_zero, List.set_cons_succ]
  refine wpAnyH_take_at (i := 15) (v := .int .u64 (C : Nat)) 43 rfl rfl (by kernel_rfl) (by kernel_rfl) (by kernel_rfl) (fun _ _ _ h => h) (.inl ⟨rfl, fun X hX => by obtain ⟨i0, i1, i2, i3⟩ := HR.out X hX; go_simp⟩) hX ?_
  simp only [Act.put, List.setIfInBounds_toArray, List.set_cons_zero, List.set_cons_succ]
  refine wpAnyH_all (rs := [3]) (by kernel_rfl) (by decide) (fun i hi => ?_)
  rw [List.mem_singleton] at hi
  subst hi
  unfold wpOp
  go_simp
  refine .inl ((big_many' _ ax X nx cx A 1073741824 (HX.out _ hX) HN1.out lx (by decide) lA).mono ?_)
  rintro e X1 ⟨m1, n1, c1, rfl, K1, hb⟩
  replace hX := hX.trans (hb.mono hX.size)
  clear hb
  refine ⟨hX, ?_⟩
  refine wpAnyH_all (rs := [7]) (by kernel_rfl) (by decide) (fun i hi => ?_)
  rw [List.mem_singleton] at hi
  subst hi
  unfold wpOp
  go_simp
  refine .inl ((big_many' _ ay Y ny cy B 1073741824 (HY.out _ hX) HN2.out ly (by decide) lB).mono ?_)
  rintro e X2 ⟨m2, n2, c2, rfl, K2, hb⟩
  replace K1 := many_below K1 hb
  replace hX := hX.trans (hb.mono hX.size)
  clear hb
  refine ⟨hX, ?_⟩
  refine wpAnyH_all (rs := [8]) (by kernel_rfl) (by decide) (fun i hi => ?_)
  rw [List.mem_singleton] at hi
  subst hi
  unfold wpOp
  go_simp
  refine .inl ((big_less2 _ m1 m2 _ _ X' n1 n2 c1 c2 1073741825 K1 K2 (by decide) H1.out).mono ?_)
  rintro e X3 ⟨r1, d1, s1, rfl, R1, hb⟩
  replace K1 := many_below K1 hb
  replace K2 := many_below K2 hb
  replace hX := hX.trans (hb.mono hX.size)
  clear hb
  clear K1 K2
  refine ⟨hX, ?_⟩
  refine wpAnyH_all (rs := [12]) (by kernel_rfl) (by decide) (fun i hi => ?_)
  rw [List.mem_singleton] at hi
  subst hi
  unfold wpOp
  go_simp
  refine .inl ((big_many' _ ay Y ny cy D 1073741824 (HY.out _ hX) HN2.out ly (by decide) lD).mono ?_)
  rintro e X4 ⟨m3, n3, c3, rfl, K3, hb⟩
  replace R1 := less_below R1 hb
  replace hX := hX.trans (hb.mono hX.size)
  clear hb
  refine ⟨hX, ?_⟩
  refine wpAnyH_all (rs := [16]) (by kernel_rfl) (by decide) (fun i hi => ?_)
  rw [List.mem_singleton] at hi
  subst hi
  unfold wpOp
  go_simp
  refine .inl ((big_many' _ ax X nx cx C 1073741824 (HX.out _ hX) HN1.out lx (by decide) lC).mono ?_)
  rintro e X5 ⟨m4, n4, c4, rfl, K4, hb⟩
  replace R1 := less_below R1 hb
  replace K3 := many_below K3 hb
  replace hX := hX.trans (hb.mono hX.size)
  clear hb
  refine ⟨hX, ?_⟩
  refine wpAnyH_all (rs := [17]) (by kernel_rfl) (by decide) (fun i hi => ?_)
  rw [List.mem_singleton] at hi
  subst hi
  unfold wpOp
  go_simp
  refine .inl ((big_less2 _ m3 m4 _ _ Y' n3 n4 c3 c4 1073741825 K3 K4 (by decide) H2.out).mono ?_)
  rintro e X6 ⟨r2, d2, s2, rfl, R2, hb⟩
  replace R1 := less_below R1 hb
  replace K3 := many_below K3 hb
  replace K4 := many_below K4 hb
  replace hX := hX.trans (hb.mono hX.size)
  clear hb
  clear K3 K4
  refine ⟨hX, ?_⟩
  refine wpAnyH_take_at (i := 18) (v := .slice r1 s1 d1) 6 rfl rfl (by kernel_rfl) (by kernel_rfl) (by kernel_rfl) (fun _ _ _ h => h) (.inl ⟨rfl, fun X hX => by go_simp⟩) hX ?_
  simp only [Act.put, List.setIfInBounds_toArray, List.set_cons_zero, List.set_cons_succ]
  refine wpAnyH_take_at (i := 19) (v := .slice r2 s2 d2) 7 rfl rfl (by kernel_rfl) (by kernel_rfl) (by kernel_rfl) (fun _ _ _ h => h) (.inl ⟨rfl, fun X hX => by go_simp⟩) hX ?_
  simp only [Act.put, List.setIfInBounds_toArray, List.set_cons_zero, List.set_cons_succ]
  refine wpAnyH_done (by kernel_rfl) ?_ _
  go_wp2
  go_ret2
  exact ⟨_, _, _, _, _, _, rfl, R1, R2, HB.out.trans (hX.mono HB.out.size)⟩

end Go.Proofs.YtbffpkmfhkphdaaGreatDoor
