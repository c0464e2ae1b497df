/- The walk of (coming).after: the numbers behind such steps. The walk of the reference's parts: quotient and remainder, bit by bit. -/
import Derived.Test.YtbffpkmfhkphdaaGreatDoorGX01
import Derived.Test.YtbffpkmfhkphdaaGreatDoorGX15
import Derived.Test.YtbffpkmfhkphdaaGreatDoorPlusC
import Derived.Test.YtbffpkmfhkphdaaGreatDoorGX29
import Derived.Test.YtbffpkmfhkphdaaGreatDoorGX28
import Derived.Test.YtbffpkmfhkphdaaGreatDoorGX08
import Derived.Test.YtbffpkmfhkphdaaGreatDoorGX13
import Derived.Test.YtbffpkmfhkphdaaGreatDoorGX04
set_option linter.unusedVariables false
set_option linter.unusedSimpArgs false
namespace Go.Proofs.YtbffpkmfhkphdaaGreatDoor
open Go Go.RowKit Limb

theorem rows5 (w : World) (t : TypeId) (a0 a1 a2 a3 a4 : Value) : ∃ W, W = w.alloc (.cells #[a0, a1, a2, a3, a4] t) ∧ Row W w.heap.size t [a0, a1, a2, a3, a4] ∧ Below w.heap.size w W ∧ W.heap.size = w.heap.size + 1 :=
  ⟨_, rfl, by unfold Row; exact heap_alloc_new _ _, (Below.refl _ _).alloc (Nat.le_refl _) _, by rw [World.size_alloc]⟩
theorem len_digit {x c d : Nat} (hx : (rep x).length ≤ c) (hd : d < 4294967296) : (rep (x * d)).length ≤ c + 1 := by
  refine rep_length_le.2 ?_
  have h1 := rep_length_le.1 hx
  rw [W_succ, Nat.mul_comm 4294967296]
  exact Nat.mul_lt_mul_of_lt_of_lt h1 hd
theorem big_many' (w : World) (a : Option Addr) (x n ca d C : Nat) (ha : Lay .u32 w a (rep x)) (hn : n = (rep x).length) (ln : n ≤ C) (lC : C ≤ 1099511627776) (hd : d < 4294967296) :
    Calls Tryz.prog 284 #[.slice a n ca, .int .u64 d] w fun e w' => ∃ a' n' c', e = .returned (.slice a' n' c') ∧ Hid (n' = (rep (x * d)).length ∧ n' ≤ C + 1 ∧ Lay .u32 w' a' (rep (x * d))) ∧ Below w.heap.size w w' := by
  have h := big_many w a (rep x) n ca d ha (rep_lim _) hn (by omega) hd
  rw [val_rep] at h
  refine h.mono ?_
  rintro e w' ⟨a', c', rfl, h1, h2, h3, h4⟩
  exact ⟨a', _, c', rfl, Lib.hid ⟨rfl, len_digit (by rw [← hn]; exact ln) hd, h3⟩, h4⟩
theorem many_below {X X' : World} {a' : Option Addr} {n' z C : Nat} (h : Hid (n' = (rep z).length ∧ n' ≤ C ∧ Lay .u32 X a' (rep z))) (hb : Below X.heap.size X X') : Hid (n' = (rep z).length ∧ n' ≤ C ∧ Lay .u32 X' a' (rep z)) := Lib.hid ⟨h.out.1, h.out.2.1, h.out.2.2.below hb⟩
theorem big_less2 (w : World) (a b : Option Addr) (x y z n m : Nat) (ca cb C : Nat) (ha : Hid (n = (rep x).length ∧ n ≤ C ∧ Lay .u32 w a (rep x))) (hb : Hid (m = (rep y).length ∧ m ≤ C ∧ Lay .u32 w b (rep y))) (lC : C ≤ 1099511627776) (hz : x = y + z) :
    Calls Tryz.prog 167 #[.slice a n ca, .slice b m cb] w fun e w' => ∃ a c s, e = .returned (.slice a s c) ∧ Hid (s = (rep z).length ∧ s ≤ c ∧ Lay .u32 w' a (rep z)) ∧ Below w.heap.size w w' := by
  refine (big_less' w a b x y n m ca cb ha.out.2.2 hb.out.2.2 ha.out.1 hb.out.1 (by have := ha.out.2.1; omega) (by omega)).mono ?_
  rw [show x - y = z by omega]
  rintro e w' ⟨a, c, s, rfl, h1, h2, h3, h4⟩
  exact ⟨a, c, s, rfl, Lib.hid ⟨h1, h2, h3⟩, h4⟩
theorem less_below {X X' : World} {a' : Option Addr} {n' z c : Nat} (h : Hid (n' = (rep z).length ∧ n' ≤ c ∧ Lay .u32 X a' (rep z))) (hb : Below X.heap.size X X') : Hid (n' = (rep z).length ∧ n' ≤ c ∧ Lay .u32 X' a' (rep z)) := Lib.hid ⟨h.out.1, h.out.2.1, h.out.2.2.below hb⟩

set_option maxHeartbeats 3200000 in
set_option maxRecDepth 1000000 in
theorem after_odd (w : World) (A B C D X Y X' Y' : Nat) (ax ay : Option Addr) (nx ny cx cy : Nat) (hx : Lay .u32 w ax (rep X)) (hy : Lay .u32 w ay (rep Y)) (hnx : nx = (rep X).length) (hny : ny = (rep Y).length) (lx : nx ≤ 1073741824) (ly : ny ≤ 1073741824)
    (lA : A < 4294967296) (lB : B < 4294967296) (lC : C < 4294967296) (lD : D < 4294967296) (h1 : Y * B = X * A + X') (h2 : X * C = Y * D + Y') :
    Calls Tryz.prog 246 #[.agg #[.int .u64 (A : Nat), .int .u64 (B : Nat), .int .u64 (C : Nat), .int .u64 (D : Nat), .bool true], .slice ax nx cx, .slice ay ny cy] w fun e w' => ∃ a1 s1 d1 a2 s2 d2, e = .returned (.tuple #[.slice a1 s1 d1, .slice a2 s2 d2]) ∧
      Hid (s1 = (rep X').length ∧ s1 ≤ d1 ∧ Lay .u32 w' a1 (rep X')) ∧ Hid (s2 = (rep Y').length ∧ s2 ≤ d2 ∧ Lay .u32 w' a2 (rep Y')) ∧ Below w.heap.size w w' := by
  obtain ⟨W, hWe, r3, hW, hsz⟩ := rows5 w 282 (.int .u64 (A : Nat)) (.int .u64 (B : Nat)) (.int .u64 (C : Nat)) (.int .u64 (D : Nat)) (.bool true)
  have HWe := Lib.hid hWe; clear hWe
  have hxW := hx.below hW
  have hyW := hy.below hW
  have HX := Lib.hid (fun V (h : Below W.heap.size W V) => hxW.below h)
  have HY := Lib.hid (fun V (h : Below W.heap.size W V) => hyW.below h)
  have HR := Lib.hid (fun V (h : Below W.heap.size W V) => show V.cell? ⟨w.heap.size, 0, none⟩ = some (.int .u64 (A : Nat)) ∧ V.cell? ⟨w.heap.size, 1, none⟩ = some (.int .u64 (B : Nat)) ∧ V.cell? ⟨w.heap.size, 2, none⟩ = some (.int .u64 (C : Nat)) ∧ V.cell? ⟨w.heap.size, 3, none⟩ = some (.int .u64 (D : Nat)) from
    ⟨(r3.below h r3.lt).cell_at 0, (r3.below h r3.lt).cell_at 1, (r3.below h r3.lt).cell_at 2, (r3.below h r3.lt).cell_at 3⟩)
  have HN1 := Lib.hid hnx
  have HN2 := Lib.hid hny
  have H1 := Lib.hid h1
  have H2 := Lib.hid h2
  have q4 := r3.cell_at 4
  simp only [List.getElem?_cons_zero, List.getElem?_cons_succ] at q4
  have HB := Lib.hid hW
  clear hx hy hxW hyW hnx hny h1 h2 hW hsz r3
  go_enter Tryz.func246, Tryz.ntmps246
  go_upto_region 2 with fail
  rw [← HWe.out]
  clear q4
  have hX : Below W.heap.size W W.drew := (Below.refl _ _).drew
  refine wp_region_held (S := fun V => Below W.heap.size W V) (by kernel_rfl) ?_
  refine wpAnyH_take_at (i := 0) (v := .slice ay ny cy) 10 rfl rfl (by kernel_rfl) (by kernel_rfl) (by kernel_rfl) (fun _ _ _ h => h) (.inl ⟨rfl, fun X hX => by go_simp⟩) hX ?_
  simp only [Act.put, List.setIfInBounds_toArray, List.set_cons_zero, List.set_cons_succ]
  refine wpAnyH_take_at (i := 1) (v := .pointer (some ⟨w.heap.size, 1, none⟩)) 11 rfl rfl (by kernel_rfl) (by kernel_rfl) (by kernel_rfl) (fun _ _ _ h => h) (.inl ⟨rfl, fun X hX => by go_simp⟩) hX ?_
  simp only [Act.put, List.setIfInBounds_toArray, List.set_cons_zero, List.set_cons_succ]
  refine wpAnyH_take_at (i := 2) (v := .int .u64 (B : Nat)) 12 rfl rfl (by kernel_rfl) (by kernel_rfl) (by kernel_rfl) (fun _ _ _ h => h) (.inl ⟨rfl, fun X hX => by obtain ⟨i0, i1, i2, i3⟩ := HR.out X hX; go_simp⟩) hX ?_
  simp only [Act.put, List.setIfInBounds_toArray, List.set_cons_zero, List.set_cons_succ]
  refine wpAnyH_take_at (i := 4) (v := .slice ax nx cx) 14 rfl rfl (by kernel_rfl) (by kernel_rfl) (by kernel_rfl) (fun _ _ _ h => h) (.inl ⟨rfl, fun X hX => by go_simp⟩) hX ?_
  simp only [Act.put, List.setIfInBounds_toArray, List.set_cons_zero, List.set_cons_succ]
  refine wpAnyH_take_at (i := 5) (v := .pointer (some ⟨w.heap.size, 0, none⟩)) 15 rfl rfl (by kernel_rfl) (by kernel_rfl) (by kernel_rfl) (fun _ _ _ h => h) (.inl ⟨rfl, fun X hX => by go_simp⟩) hX ?_
  simp only [Act.put, List.setIfInBounds_toArray, List.set_cons_zero, List.set_cons_succ]
  refine wpAnyH_take_at (i := 6) (v := .int .u64 (A : Nat)) 16 rfl rfl (by kernel_rfl) (by kernel_rfl) (by kernel_rfl) (fun _ _ _ h => h) (.inl ⟨rfl, fun X hX => by obtain ⟨i0, i1, i2, i3⟩ := HR.out X hX; go_simp⟩) hX ?_
  simp only [Act.put, List.setIfInBounds_toArray, List.set_cons_zero, List.set_cons_succ]
  refine wpAnyH_take_at (i := 9) (v := .slice ax nx cx) 19 rfl rfl (by kernel_rfl) (by kernel_rfl) (by kernel_rfl) (fun _ _ _ h => h) (.inl ⟨rfl, fun X hX => by go_simp⟩) hX ?_
  simp only [Act.put, List.setIfInBounds_toArray, List.set_cons_zero, List.set_cons_succ]
  refine wpAnyH_take_at (i := 10) (v := .pointer (some ⟨w.heap.size, 2, none⟩)) 20 rfl rfl (by kernel_rfl) (by kernel_rfl) (by kernel_rfl) (fun _ _ _ h => h) (.inl ⟨rfl, fun X hX => by go_simp⟩) hX ?_
  simp only [Act.put, List.setIfInBounds_toArray, List.set_cons_zero, List.set_cons_succ]
  refine wpAnyH_take_at (i := 11) (v := .int .u64 (C : Nat)) 21 rfl rfl (by kernel_rfl) (by kernel_rfl) (by kernel_rfl) (fun _ _ _ h => h) (.inl ⟨rfl, fun X hX => by obtain ⟨i0, i1, i2, i3⟩ := HR.out X hX; go_simp⟩) hX ?_
  simp only [Act.put, List.setIfInBounds_toArray, List.set_cons_zero, List.set_cons_succ]
  refine wpAnyH_take_at (i := 13) (v := .slice ay ny cy) 23 rfl rfl (by kernel_rfl) (by kernel_rfl) (by kernel_rfl) (fun _ _ _ h => h) (.inl ⟨rfl, fun X hX => by go_simp⟩) hX ?_
  simp only [Act.put, List.setIfInBounds_toArray, List.set_cons_zero, List.set_cons_succ]
  refine wpAnyH_take_at (i := 14) (v := .pointer (some ⟨w.heap.size, 3, none⟩)) 24 rfl rfl (by kernel_rfl) (by kernel_rfl) (by kernel_rfl) (fun _ _ _ h => h) (.inl ⟨rfl, fun X hX => by go_simp⟩) hX ?_
  simp only [Act.put, List.setIfInBounds_toArray, List.set_cons_zero, List.set_cons_succ]
  refine wpAnyH_take_at (i := 15) (v := .int .u64 (D : Nat)) 25 rfl rfl (by kernel_rfl) (by kernel_rfl) (by kernel_rfl) (fun _ _ _ h => h) (.inl ⟨rfl, fun X hX => by obtain ⟨i0, i1, i2, i3⟩ := HR.out X hX; go_simp⟩) hX ?_
  simp only [Act.put, List.setIfInBounds_toArray, List.set_cons_zero, List.set_cons_succ]
  refine wpAnyH_all (rs := [3]) (by kernel_rfl) (by decide) (fun i hi => ?_)
  rw [List.mem_singleton] at hi
  subst hi
  unfold wpOp
  go_simp
  refine .inl ((big_many' _ ay Y ny cy B 1073741824 (HY.out _ hX) HN2.out ly (by decide) lB).mono ?_)
  rintro e X1 ⟨m1, n1, c1, rfl, K1, hb⟩
  replace hX := hX.trans (hb.mono hX.size)
  clear hb
  refine ⟨hX, ?_⟩
  refine wpAnyH_all (rs := [7]) (by kernel_rfl) (by decide) (fun i hi => ?_)
  rw [List.mem_singleton] at hi
  subst hi
  unfold wpOp
  go_simp
  refine .inl ((big_many' _ ax X nx cx A 1073741824 (HX.out _ hX) HN1.out lx (by decide) lA).mono ?_)
  rintro e X2 ⟨m2, n2, c2, rfl, K2, hb⟩
  replace K1 := many_below K1 hb
  replace hX := hX.trans (hb.mono hX.size)
  clear hb
  refine ⟨hX, ?_⟩
  refine wpAnyH_all (rs := [8]) (by kernel_rfl) (by decide) (fun i hi => ?_)
  rw [List.mem_singleton] at hi
  subst hi
  unfold wpOp
  go_simp
  refine .inl ((big_less2 _ m1 m2 _ _ X' n1 n2 c1 c2 1073741825 K1 K2 (by decide) H1.out).mono ?_)
  rintro e X3 ⟨r1, d1, s1, rfl, R1, hb⟩
  replace K1 := many_below K1 hb
  replace K2 := many_below K2 hb
  replace hX := hX.trans (hb.mono hX.size)
  clear hb
  clear K1 K2
  refine ⟨hX, ?_⟩
  refine wpAnyH_all (rs := [12]) (by kernel_rfl) (by decide) (fun i hi => ?_)
  rw [List.mem_singleton] at hi
  subst hi
  unfold wpOp
  go_simp
  refine .inl ((big_many' _ ax X nx cx C 1073741824 (HX.out _ hX) HN1.out lx (by decide) lC).mono ?_)
  rintro e X4 ⟨m3, n3, c3, rfl, K3, hb⟩
  replace R1 := less_below R1 hb
  replace hX := hX.trans (hb.mono hX.size)
  clear hb
  refine ⟨hX, ?_⟩
  refine wpAnyH_all (rs := [16]) (by kernel_rfl) (by decide) (fun i hi => ?_)
  rw [List.mem_singleton] at hi
  subst hi
  unfold wpOp
  go_simp
  refine .inl ((big_many' _ ay Y ny cy D 1073741824 (HY.out _ hX) HN2.out ly (by decide) lD).mono ?_)
  rintro e X5 ⟨m4, n4, c4, rfl, K4, hb⟩
  replace R1 := less_below R1 hb
  replace K3 := many_below K3 hb
  replace hX := hX.trans (hb.mono hX.size)
  clear hb
  refine ⟨hX, ?_⟩
  refine wpAnyH_all (rs := [17]) (by kernel_rfl) (by decide) (fun i hi => ?_)
  rw [List.mem_singleton] at hi
  subst hi
  unfold wpOp
  go_simp
  refine .inl ((big_less2 _ m3 m4 _ _ Y' n3 n4 c3 c4 1073741825 K3 K4 (by decide) H2.out).mono ?_)
  rintro e X6 ⟨r2, d2, s2, rfl, R2, hb⟩
  replace R1 := less_below R1 hb
  replace K3 := many_below K3 hb
  replace K4 := many_below K4 hb
  replace hX := hX.trans (hb.mono hX.size)
  clear hb
  clear K3 K4
  refine ⟨hX, ?_⟩
  refine wpAnyH_take_at (i := 18) (v := .slice r1 s1 d1) 6 rfl rfl (by kernel_rfl) (by kernel_rfl) (by kernel_rfl) (fun _ _ _ h => h) (.inl ⟨rfl, fun X hX => by go_simp⟩) hX ?_
  simp only [Act.put, List.setIfInBounds_toArray, List.set_cons_zero, List.set_cons_succ]
  refine wpAnyH_take_at (i := 19) (v := .slice r2 s2 d2) 7 rfl rfl (by kernel_rfl) (by kernel_rfl) (by kernel_rfl) (fun _ _ _ h => h) (.inl ⟨rfl, fun X hX => by go_simp⟩) hX ?_
  simp only [Act.put, List.setIfInBounds_toArray, List.set_cons_zero, List.set_cons_succ]
  refine wpAnyH_done (by kernel_rfl) ?_ _
  go_wp2
  go_ret2
  exact ⟨_, _, _, _, _, _, rfl, R1, R2, HB.out.trans (hX.mono HB.out.size)⟩

set_option maxHeartbeats 3200000 in
set_option maxRecDepth 1000000 in
theorem after_even (w : World) (A B C D X Y X' Y' : Nat) (ax ay : Option Addr) (nx ny cx cy : Nat) (hx : Lay .u32 w ax (rep X)) (hy : Lay .u32 w ay (rep Y)) (hnx : nx = (rep X).length) (hny : ny = (rep Y).length) (lx : nx ≤ 1073741824) (ly : ny ≤ 1073741824)
    (lA : A < 4294967296) (lB : B < 4294967296) (lC : C < 4294967296) (lD : D < 4294967296) (h1 : X * A = Y * B + X') (h2 : Y * D = X * C + Y') :
    Calls Tryz.prog 246 #[.agg #[.int .u64 (A : Nat), .int .u64 (B : Nat), .int .u64 (C : Nat), .int .u64 (D : Nat), .bool false], .slice ax nx cx, .slice ay ny cy] w fun e w' => ∃ a1 s1 d1 a2 s2 d2, e = .returned (.tuple #[.slice a1 s1 d1, .slice a2 s2 d2]) ∧
      Hid (s1 = (rep X').length ∧ s1 ≤ d1 ∧ Lay .u32 w' a1 (rep X')) ∧ Hid (s2 = (rep Y').length ∧ s2 ≤ d2 ∧ Lay .u32 w' a2 (rep Y')) ∧ Below w.heap.size w w' := by
  obtain ⟨W, hWe, r3, hW, hsz⟩ := rows5 w 282 (.int .u64 (A : Nat)) (.int .u64 (B : Nat)) (.int .u64 (C : Nat)) (.int .u64 (D : Nat)) (.bool false)
  have HWe := Lib.hid hWe; clear hWe
  have hxW := hx.below hW
  have hyW := hy.below hW
  have HX := Lib.hid (fun V (h : Below W.heap.size W V) => hxW.below h)
  have HY := Lib.hid (fun V (h : Below W.heap.size W V) => hyW.below h)
  have HR := Lib.hid (fun V (h : Below W.heap.size W V) => show V.cell? ⟨w.heap.size, 0, none⟩ = some (.int .u64 (A : Nat)) ∧ V.cell? ⟨w.heap.size, 1, none⟩ = some (.int .u64 (B : Nat)) ∧ V.cell? ⟨w.heap.size, 2, none⟩ = some (.int .u64 (C : Nat)) ∧ V.cell? ⟨w.heap.size, 3, none⟩ = some (.int .u64 (D : Nat)) from
    ⟨(r3.below h r3.lt).cell_at 0, (r3.below h r3.lt).cell_at 1, (r3.below h r3.lt).cell_at 2, (r3.below h r3.lt).cell_at 3⟩)
  have HN1 := Lib.hid hnx
  have HN2 := Lib.hid hny
  have H1 := Lib.hid h1
  have H2 := Lib.hid h2
  have q4 := r3.cell_at 4
  simp only [List.getElem?_cons_zero, List.getElem?_cons_succ] at q4
  have HB := Lib.hid hW
  clear hx hy hxW hyW hnx hny h1 h2 hW hsz r3
  go_enter Tryz.func246, Tryz.ntmps246
  go_upto_region 3 with fail
  rw [← HWe.out]
  clear q4
  have hX : Below W.heap.size W W.drew := (Below.refl _ _).drew
  refine wp_region_held (S := fun V => Below W.heap.size W V) (by kernel_rfl) ?_
  refine wpAnyH_take_at (i := 0) (v := .slice ax nx cx) 28 rfl rfl (by kernel_rfl) (by kernel_rfl) (by kernel_rfl) (fun _ _ _ h => h) (.inl ⟨rfl, fun X hX => by go_simp⟩) hX ?_
  simp only [Act.put, List.setIfInBounds_toArray, List.set_cons_zero, List.set_cons_succ]
  refine wpAnyH_take_at (i := 1) (v := .pointer (some ⟨w.heap.size, 0, none⟩)) 29 rfl rfl (by kernel_rfl) (by kernel_rfl) (by kernel_rfl) (fun _ _ _ h => h) (.inl ⟨rfl, fun X hX => by go_simp⟩) hX ?_
  simp only [Act.put, List.setIfInBounds_toArray, List.set_cons_zero, List.set_cons_succ]
  refine wpAnyH_take_at (i := 2) (v := .int .u64 (A : Nat)) 30 rfl rfl (by kernel_rfl) (by kernel_rfl) (by kernel_rfl) (fun _ _ _ h => h) (.inl ⟨rfl, fun X hX => by obtain ⟨i0, i1, i2, i3⟩ := HR.out X hX; go_simp⟩) hX ?_
  simp only [Act.put, List.setIfInBounds_toArray, List.set_cons_zero, List.set_cons_succ]
  refine wpAnyH_take_at (i := 4) (v := .slice ay ny cy) 32 rfl rfl (by kernel_rfl) (by kernel_rfl) (by kernel_rfl) (fun _ _ _ h => h) (.inl ⟨rfl, fun X hX => by go_simp⟩) hX ?_
  simp only [Act.put, List.setIfInBounds_toArray, List.set_cons_zero, List.set_cons_succ]
  refine wpAnyH_take_at (i := 5) (v := .pointer (some ⟨w.heap.size, 1, none⟩)) 33 rfl rfl (by kernel_rfl) (by kernel_rfl) (by kernel_rfl) (fun _ _ _ h => h) (.inl ⟨rfl, fun X hX => by go_simp⟩) hX ?_
  simp only [Act.put, List.setIfInBounds_toArray, List.set_cons_zero, List.set_cons_succ]
  refine wpAnyH_take_at (i := 6) (v := .int .u64 (B : Nat)) 34 rfl rfl (by kernel_rfl) (by kernel_rfl) (by kernel_rfl) (fun _ _ _ h => h) (.inl ⟨rfl, fun X hX => by obtain ⟨i0, i1, i2, i3⟩ := HR.out X hX; go_simp⟩) hX ?_
  simp only [Act.put, List.setIfInBounds_toArray, List.set_cons_zero, List.set_cons_succ]
  refine wpAnyH_take_at (i := 9) (v := .slice ay ny cy) 37 rfl rfl (by kernel_rfl) (by kernel_rfl) (by kernel_rfl) (fun _ _ _ h => h) (.inl ⟨rfl, fun X hX => by go_simp⟩) hX ?_
  simp only [Act.put, List.setIfInBounds_toArray, List.set_cons_zero, List.set_cons_succ]
  refine wpAnyH_take_at (i := 10) (v := .pointer (some ⟨w.heap.size, 3, none⟩)) 38 rfl rfl (by kernel_rfl) (by kernel_rfl) (by kernel_rfl) (fun _ _ _ h => h) (.inl ⟨rfl, fun X hX => by go_simp⟩) hX ?_
  simp only [Act.put, List.setIfInBounds_toArray, List.set_cons_zero, List.set_cons_succ]
  refine wpAnyH_take_at (i := 11) (v := .int .u64 (D : Nat)) 39 rfl rfl (by kernel_rfl) (by kernel_rfl) (by kernel_rfl) (fun _ _ _ h => h) (.inl ⟨rfl, fun X hX => by obtain ⟨i0, i1, i2, i3⟩ := HR.out X hX; go_simp⟩) hX ?_
  simp only [Act.put, List.setIfInBounds_toArray, List.set_cons_zero, List.set_cons_succ]
  refine wpAnyH_take_at (i := 13) (v := .slice ax nx cx) 41 rfl rfl (by kernel_rfl) (by kernel_rfl) (by kernel_rfl) (fun _ _ _ h => h) (.inl ⟨rfl, fun X hX => by go_simp⟩) hX ?_
  simp only [Act.put, List.setIfInBounds_toArray, List.set_cons_zero, List.set_cons_succ]
  refine wpAnyH_take_at (i := 14) (v := .pointer (some ⟨w.heap.size, 2, none⟩)) 42 rfl rfl (by kernel_rfl) (by kernel_rfl) (by kernel_rfl) (fun _ _ _ h => h) (.inl ⟨rfl, fun X hX => by go_simp⟩) hX ?_
  simp only [Act.put, List.setIfInBounds_toArray, List.set_cons_zero, List.set_cons_succ]
  refine wpAnyH_take_at (i := 15) (v := .int .u64 (C : Nat)) 43 rfl rfl (by kernel_rfl) (by kernel_rfl) (by kernel_rfl) (fun _ _ _ h => h) (.inl ⟨rfl, fun X hX => by obtain ⟨i0, i1, i2, i3⟩ := HR.out X hX; go_simp⟩) hX ?_
  simp only [Act.put, List.setIfInBounds_toArray, List.set_cons_zero, List.set_cons_succ]
  refine wpAnyH_all (rs := [3]) (by kernel_rfl) (by decide) (fun i hi => ?_)
  rw [List.mem_singleton] at hi
  subst hi
  unfold wpOp
  go_simp
  refine .inl ((big_many' _ ax X nx cx A 1073741824 (HX.out _ hX) HN1.out lx (by decide) lA).mono ?_)
  rintro e X1 ⟨m1, n1, c1, rfl, K1, hb⟩
  replace hX := hX.trans (hb.mono hX.size)
  clear hb
  refine ⟨hX, ?_⟩
  refine wpAnyH_all (rs := [7]) (by kernel_rfl) (by decide) (fun i hi => ?_)
  rw [List.mem_singleton] at hi
  subst hi
  unfold wpOp
  go_simp
  refine .inl ((big_many' _ ay Y ny cy B 1073741824 (HY.out _ hX) HN2.out ly (by decide) lB).mono ?_)
  rintro e X2 ⟨m2, n2, c2, rfl, K2, hb⟩
  replace K1 := many_below K1 hb
  replace hX := hX.trans (hb.mono hX.size)
  clear hb
  refine ⟨hX, ?_⟩
  refine wpAnyH_all (rs := [8]) (by kernel_rfl) (by decide) (fun i hi => ?_)
  rw [List.mem_singleton] at hi
  subst hi
  unfold wpOp
  go_simp
  refine .inl ((big_less2 _ m1 m2 _ _ X' n1 n2 c1 c2 1073741825 K1 K2 (by decide) H1.out).mono ?_)
  rintro e X3 ⟨r1, d1, s1, rfl, R1, hb⟩
  replace K1 := many_below K1 hb
  replace K2 := many_below K2 hb
  replace hX := hX.trans (hb.mono hX.size)
  clear hb
  clear K1 K2
  refine ⟨hX, ?_⟩
  refine wpAnyH_all (rs := [12]) (by kernel_rfl) (by decide) (fun i hi => ?_)
  rw [List.mem_singleton] at hi
  subst hi
  unfold wpOp
  go_simp
  refine .inl ((big_many' _ ay Y ny cy D 1073741824 (HY.out _ hX) HN2.out ly (by decide) lD).mono ?_)
  rintro e X4 ⟨m3, n3, c3, rfl, K3, hb⟩
  replace R1 := less_below R1 hb
  replace hX := hX.trans (hb.mono hX.size)
  clear hb
  refine ⟨hX, ?_⟩
  refine wpAnyH_all (rs := [16]) (by kernel_rfl) (by decide) (fun i hi => ?_)
  rw [List.mem_singleton] at hi
  subst hi
  unfold wpOp
  go_simp
  refine .inl ((big_many' _ ax X nx cx C 1073741824 (HX.out _ hX) HN1.out lx (by decide) lC).mono ?_)
  rintro e X5 ⟨m4, n4, c4, rfl, K4, hb⟩
  replace R1 := less_below R1 hb
  replace K3 := many_below K3 hb
  replace hX := hX.trans (hb.mono hX.size)
  clear hb
  refine ⟨hX, ?_⟩
  refine wpAnyH_all (rs := [17]) (by kernel_rfl) (by decide) (fun i hi => ?_)
  rw [List.mem_singleton] at hi
  subst hi
  unfold wpOp
  go_simp
  refine .inl ((big_less2 _ m3 m4 _ _ Y' n3 n4 c3 c4 1073741825 K3 K4 (by decide) H2.out).mono ?_)
  rintro e X6 ⟨r2, d2, s2, rfl, R2, hb⟩
  replace R1 := less_below R1 hb
  replace K3 := many_below K3 hb
  replace K4 := many_below K4 hb
  replace hX := hX.trans (hb.mono hX.size)
  clear hb
  clear K3 K4
  refine ⟨hX, ?_⟩
  refine wpAnyH_take_at (i := 18) (v := .slice r1 s1 d1) 6 rfl rfl (by kernel_rfl) (by kernel_rfl) (by kernel_rfl) (fun _ _ _ h => h) (.inl ⟨rfl, fun X hX => by go_simp⟩) hX ?_
  simp only [Act.put, List.setIfInBounds_toArray, List.set_cons_zero, List.set_cons_succ]
  refine wpAnyH_take_at (i := 19) (v := .slice r2 s2 d2) 7 rfl rfl (by kernel_rfl) (by kernel_rfl) (by kernel_rfl) (fun _ _ _ h => h) (.inl ⟨rfl, fun X hX => by go_simp⟩) hX ?_
  simp only [Act.put, List.setIfInBounds_toArray, List.set_cons_zero, List.set_cons_succ]
  refine wpAnyH_done (by kernel_rfl) ?_ _
  go_wp2
  go_ret2
  exact ⟨_, _, _, _, _, _, rfl, R1, R2, HB.out.trans (hX.mono HB.out.size)⟩

end Go.Proofs.YtbffpkmfhkphdaaGreatDoor

namespace Go.Proofs.YtbffpkmfhkphdaaGreatDoor
open Go Go.RowKit Limb

/-- No word of it lies in block g. -/
def Off (g : Nat) (a : Option Addr) : Prop := ∀ b off, a = some ⟨b, off, none⟩ → b ≠ g
theorem Fresh.off {w : World} {a : Option Addr} {g : Nat} (h : Fresh w a) (hg : g < w.heap.size) : Off g a := fun b off e he => by have := h b off e; omega
theorem Lay.off {K : IntKind} {w : World} {a : Option Addr} {l : List Nat} {g i : Nat} (h : Lay K w a l) (ho : Off g a) (v : Value) : Lay K (w.setCell ⟨g, i, none⟩ v) a l :=
  h.only (ps := [g]) ((Only.refl [g] w).setCell (by simp) v) (fun _ b off e hm => ho b off e (by simpa using hm))

/-- Two numbers, each in its place. -/
def PartRes (w w' : World) (e : Ending) (Q R : Nat) : Prop :=
  ∃ a n c a' n' c', e = .returned (.tuple #[.slice a n c, .slice a' n' c']) ∧ n = (rep Q).length ∧ n' = (rep R).length ∧ n ≤ c ∧ n' ≤ c' ∧ Lay .u32 w' a (rep Q) ∧ Lay .u32 w' a' (rep R) ∧ Below w.heap.size w w'


set_option maxHeartbeats 3200000 in
set_option maxRecDepth 1000000 in
theorem ref_parts (w : World) (a b : Option Addr) (A B n m ca cb : Nat) (ha : Lay .u32 w a (rep A)) (hb : Lay .u32 w b (rep B)) (hn : n = (rep A).length) (hm : m = (rep B).length)
    (ln : n ≤ 1073741824) (lm : m ≤ 1073741824) (hB : 0 < B) :
    Calls Tryz.prog 90 #[.slice a n ca, .slice b m cb] w fun e w' => PartRes w w' e (A / B) (A % B) := by
  have hA : A < 2 ^ (32 * n) := by have := rep_len_hi A; rw [← hn, W_two] at this; exact this
  have HS := Lib.hid (PInv.start (n := n) hB hA)
  clear hA
  have Hn := Lib.hid hn; clear hn
  have Hm := Lib.hid hm; clear hm
  have hplus := fun W (a b : Option Addr) (xs ys : List Nat) (n m ca cb M : Nat) ha hb hx hy hn hm ln lm lM => ref_plus W a b xs ys n m ca cb M ha hb hx hy hn hm ln lm lM
  have HPl := Lib.hid hplus; clear hplus
  go_enter Tryz.func90, Tryz.ntmps90
  go_wp2_with (at_make; refine wpList_make_row rfl _ _ _ rfl 60 (.int .u32 0) 4 Tryz.underlying22 info32 rfl _ _ _ _ n n rfl rfl rfl rfl (by omega) (by omega) (by omega) ?_; intro w1 g hg1 hg2 hrow hbel)
  go_loopw [7, 8] (fun rv i wr => ∃ (k r nr cr : Nat) (ar : Option Addr) (qs : List Nat), k ≤ 32 * n ∧ rv = .slice ar nr cr ∧ i = .int .i64 ((k : Int) - 1) ∧ Hid (nr = (rep r).length) ∧ nr ≤ cr ∧ nr ≤ m ∧ Lay .u32 wr ar (rep r) ∧ Hid (Off g ar) ∧ Hid (qs.length = n) ∧ Lim qs ∧
      Row wr g 60 (nums .u32 qs) ∧ Hid (PInv A B k qs r) ∧ Below w.heap.size w wr) (fun _ i _ => (intOf i + 1).toNat)
  case atStart => exact ⟨32 * n, 0, 0, 0, none, List.replicate n 0, by omega, rfl, by go_num, Lib.hid rfl, by omega, by omega, Lay.nil _ _ _, Lib.hid (fun b off e => by cases e), Lib.hid (by simp), Lim.replicate _ (by decide), by rw [nums_replicate]; exact hrow, HS.out, hbel⟩
  case round =>
    obtain ⟨k, r, nr, cr, ar, qs, hk, rfl, rfl, Hnr, hcr, hrm, har, Hoff, Hql, hqlim, hr, HP, hbl⟩ := hrel
    clear hrow hbel HS
    by_cases h0 : k = 0
    · subst h0
      obtain ⟨e1, e2⟩ := HP.out.done
      have Hq := Lib.hid e1; clear e1
      have Hr := Lib.hid e2; clear e2
      have hl2 := hr.lay
      have hle2 := rep_val_le hqlim
      go_wp2_with (go_at_call 101; refine (ref_cut _ _ qs _ _ (by assumption) (by assumption) (by rw [Hql.out]) (by omega) (by omega)).mono ?_; rintro e w' ⟨rfl, rfl⟩)
      go_ret2
      rw [Hql.out] at hle2
      rw [← Hq.out, ← Hr.out]
      exact ⟨_, _, _, _, _, _, rfl, rfl, Hnr.out, hle2, hcr, hl2.norm hqlim, har, hbl⟩
    · obtain ⟨j, rfl⟩ : ∃ j, k = j + 1 := ⟨k - 1, by omega⟩
      have hj : ((j + 1 : Nat) : Int) - 1 = (j : Int) := by omega
      rw [hj]
      clear hj h0
      obtain ⟨d, hd⟩ : ∃ d, d = j / 32 := ⟨_, rfl⟩
      obtain ⟨s, hs⟩ : ∃ s, s = j % 32 := ⟨_, rfl⟩
      have e1 : (j : Int) / 32 = d := by omega
      have e2 : (j : Int) % 32 = s := by omega
      have d_lt : d < n := by omega
      have s_lt : s < 32 := by omega
      obtain ⟨sb1, sb2, sb3⟩ := set_bit hqlim (by rw [← hd, Hql.out]; exact d_lt) HP.out.low
      rw [← hd, ← hs] at sb1 sb2 sb3
      have eor := part_or s_lt sb1 sb2
      obtain ⟨p, hp⟩ : ∃ p, p = 2 ^ s := ⟨_, rfl⟩
      have ep : (2 : Int) ^ s = (p : Int) := by rw [hp, Int.natCast_pow]; rfl
      have epl : p < 4294967296 := by rw [← hp] at sb2; omega
      rw [← hp] at sb2 sb3 eor
      have Sb := Lib.hid sb3; clear sb3 hd hs hp sb1
      have hbB := hb.below hbl
      have haA := ha.below hbl
      go_wp2_with fail
      refine (HPl.out wr ar ar (rep r) (rep r) nr nr cr cr m har har (rep_lim _) (rep_lim _) Hnr.out Hnr.out hrm hrm (by omega)).mono ?_
      rw [val_rep]
      rintro e w2 ⟨a2, n2, c2, zs2, rfl, hn2, hc2, hm2, hl2, hv2, hla2, hb2, hf2⟩
      have Hn2 := Lib.hid hn2; clear hn2
      have Hv2 := Lib.hid hv2; clear hv2
      have hbl2 := hbl.trans (hb2.mono hbl.size)
      have hgw := hr.lt
      have hr2 := hr.below hb2 hgw
      have hgw2 := hr2.lt
      have Hoff2 := Lib.hid (hf2.off hgw)
      clear hf2
      go_wp2_with fail
      refine (ref_bit w2 a (rep A) n ca j (haA.below hb2) (rep_lim _) Hn.out (by omega) (by omega)).mono ?_
      rw [val_rep]
      rintro e w2' ⟨rfl, rfl⟩
      have hbt : A / 2 ^ j % 2 = 0 ∨ A / 2 ^ j % 2 = 1 := by omega
      obtain ⟨bt, hbtv⟩ : ∃ bt, bt = A / 2 ^ j % 2 := ⟨_, rfl⟩
      have HP' := HP.out.great (qs' := qs.set d (wd qs d + p))
      have HP'' := HP.out.small
      rw [← hbtv] at hbt HP' HP'' ⊢
      have HPg := Lib.hid HP'; clear HP'
      have HPs := Lib.hid HP''; clear HP'' HP
      clear hbtv
      rcases hbt with hbt | hbt
      · have qb : ((bt : Nat) : Int) = 0 := by omega
        subst hbt
        clear qb
        have HX2 : Hid (val zs2 = r + r + 0) := Lib.hid (by rw [Hv2.out]; rfl)
        have hcut := ref_cut w2 a2 zs2 n2 c2 hla2 hl2 Hn2.out (by omega) hc2
        have hln := hla2.norm hl2
        have hle := rep_val_le hl2
        rw [← Hn2.out] at hle
        rw [HX2.out] at hcut hln hle
        have HC := Lib.hid hcut; clear hcut
        obtain ⟨x, hx⟩ : ∃ x, x = r + r + 0 := ⟨_, rfl⟩
        rw [← hx] at HC hln hle HPg HPs
        have Hx := Lib.hid hx; clear hx HX2
        obtain ⟨nx, hnx⟩ : ∃ nx, nx = (rep x).length := ⟨_, rfl⟩
        rw [← hnx] at HC hle
        have Hnx := Lib.hid hnx; clear hnx
        go_wp2_with fail
        refine HC.out.mono ?_
        rintro e w4 ⟨rfl, rfl⟩
        go_wp2_with fail
        refine (ref_order w2 a2 b (rep x) (rep B) nx m c2 cb hln (hbB.below hb2) (rep_lim _) (rep_lim _) (rep_norm _) (rep_norm _) Hnx.out Hm.out (by omega) (by omega)).mono ?_
        rw [val_rep, val_rep]
        rintro e w5 ⟨rfl, q, rfl⟩
        by_cases hge : B ≤ x
        · have cv := order_ge hge
          obtain ⟨v, hv⟩ : ∃ v, v = cmpI x B := ⟨_, rfl⟩
          rw [← hv] at cv ⊢
          clear hv
          have hlq := hln.drewN q
          have hbq := (hbB.below hb2).drewN q
          have hrq := hr2.drewN q
          obtain ⟨V, hV⟩ : ∃ V, V = w2.drewN q := ⟨_, rfl⟩
          have hblV : Below w.heap.size w V := by rw [hV]; exact below_drewN hbl2 q
          rw [← hV] at hlq hbq hrq ⊢
          clear hV
          have hmx : m ≤ nx := by rw [Hm.out, Hnx.out]; exact rep_mono hge
          have HG := Lib.hid (HPg.out hge Sb.out)
          have hxB : (rep (x - B)).length ≤ m := by rw [Hm.out]; exact rep_mono (Nat.le_of_lt HG.out.lt)
          go_wp2_with fail
          refine (ref_less V a2 b (rep x) (rep B) nx m c2 cb hlq hbq (rep_lim _) (rep_lim _) Hnx.out Hm.out (by omega) (by rw [val_rep, val_rep]; exact hge) hmx).mono ?_
          rw [val_rep, val_rep]
          rintro e w6 ⟨a6, c6, rfl, hc6, hl6, hb6, hf6⟩
          have hr6 := hrq.below hb6 hrq.lt
          have hbl6 := hblV.trans (hb6.mono hblV.size)
          have Hoff6 := Lib.hid (hf6.off hrq.lt)
          clear hf6
          obtain ⟨n6, hn6⟩ : ∃ n6, n6 = (rep (x - B)).length := ⟨_, rfl⟩
          rw [← hn6] at hc6 hxB ⊢
          have Hn6 := Lib.hid hn6; clear hn6
          have hcell := hr6.cell (i := d) (by rw [Hql.out]; exact d_lt)
          have hfk := hr6.free d
          have ig := row_index (P := Tryz.prog) Tryz.underlying22 size32 g n n .i64 (d : Int) d rfl d_lt
          have ep1 : (1 : Int) * 2 ^ s = (p : Int) := by rw [Int.one_mul]; exact ep
          go_wp2
          go_roundw
          case rel => exact ⟨j, x - B, n6, c6, a6, qs.set d (wd qs d + p), by omega, rfl, rfl, Lib.hid Hn6.out, hc6, hxB, hl6.off Hoff6.out _, Lib.hid Hoff6.out, Lib.hid (by rw [List.length_set, Hql.out]), hqlim.set sb2, hr6.store _ _ _ rfl, Lib.hid HG.out, below_store hbl6 hg1 _⟩
          case measure => first | (simp [intOf]; done) | (simp [intOf]; omega)
        · have cv := order_lt (show x < B by omega)
          obtain ⟨v, hv⟩ : ∃ v, v = cmpI x B := ⟨_, rfl⟩
          rw [← hv] at cv ⊢
          clear hv
          have HG := Lib.hid (HPs.out (by omega))
          have hxB : nx ≤ m := by rw [Hm.out, Hnx.out]; exact rep_mono (by omega)
          go_wp2
          go_roundw
          case rel => exact ⟨j, x, nx, c2, a2, qs, by omega, rfl, rfl, Lib.hid Hnx.out, by omega, hxB, hln.drewN q, Lib.hid Hoff2.out, Lib.hid Hql.out, hqlim, hr2.drewN q, Lib.hid HG.out, below_drewN hbl2 q⟩
          case measure => first | (simp [intOf]; done) | (simp [intOf]; omega)
      · subst hbt
        have h1 := row_one w2 60 .u32 1 1 rfl
        have hbA : Below w2.heap.size w2 (w2.alloc (.cells #[.int .u32 1] 60)) := (Below.refl _ _).alloc (Nat.le_refl _) _
        go_wp2_with fail
        refine (HPl.out _ a2 _ zs2 [1] n2 1 c2 1 (m + 1) (hla2.below hbA) h1 hl2 (Lim.cons (by decide) Lim.nil) Hn2.out rfl hm2 (by omega) (by omega)).mono ?_
        rintro e w3 ⟨a3, n3, c3, zs3, rfl, hn3, hc3, hm3, hl3, hv3, hla3, hb3, hf3⟩
        have Hn3 := Lib.hid hn3; clear hn3
        have Hv3 : Hid (val zs3 = r + r + 1) := Lib.hid (by rw [hv3, Hv2.out]; rfl)
        clear hv3
        have hb23 := hbA.trans (hb3.mono hbA.size)
        have hbl3 := hbl2.trans (hb23.mono hbl2.size)
        have hr3 := hr2.below hb23 hgw2
        have hgw3 := hr3.lt
        have Hoff3 := Lib.hid (hf3.off (show g < _ by rw [World.size_alloc]; omega))
        clear hf3 h1 hbA hb3
        have HX2 : Hid (val zs3 = r + r + 1) := Lib.hid Hv3.out
        have hcut := ref_cut w3 a3 zs3 n3 c3 hla3 hl3 Hn3.out (by omega) hc3
        have hln := hla3.norm hl3
        have hle := rep_val_le hl3
        rw [← Hn3.out] at hle
        rw [HX2.out] at hcut hln hle
        have HC := Lib.hid hcut; clear hcut
        obtain ⟨x, hx⟩ : ∃ x, x = r + r + 1 := ⟨_, rfl⟩
        rw [← hx] at HC hln hle HPg HPs
        have Hx := Lib.hid hx; clear hx HX2
        obtain ⟨nx, hnx⟩ : ∃ nx, nx = (rep x).length := ⟨_, rfl⟩
        rw [← hnx] at HC hle
        have Hnx := Lib.hid hnx; clear hnx
        go_wp2_with fail
        refine HC.out.mono ?_
        rintro e w4 ⟨rfl, rfl⟩
        go_wp2_with fail
        refine (ref_order w3 a3 b (rep x) (rep B) nx m c3 cb hln (hbB.below (hb2.trans (hb23.mono hb2.size))) (rep_lim _) (rep_lim _) (rep_norm _) (rep_norm _) Hnx.out Hm.out (by omega) (by omega)).mono ?_
        rw [val_rep, val_rep]
        rintro e w5 ⟨rfl, q, rfl⟩
        by_cases hge : B ≤ x
        · have cv := order_ge hge
          obtain ⟨v, hv⟩ : ∃ v, v = cmpI x B := ⟨_, rfl⟩
          rw [← hv] at cv ⊢
          clear hv
          have hlq := hln.drewN q
          have hbq := (hbB.below (hb2.trans (hb23.mono hb2.size))).drewN q
          have hrq := hr3.drewN q
          obtain ⟨V, hV⟩ : ∃ V, V = w3.drewN q := ⟨_, rfl⟩
          have hblV : Below w.heap.size w V := by rw [hV]; exact below_drewN hbl3 q
          rw [← hV] at hlq hbq hrq ⊢
          clear hV
          have hmx : m ≤ nx := by rw [Hm.out, Hnx.out]; exact rep_mono hge
          have HG := Lib.hid (HPg.out hge Sb.out)
          have hxB : (rep (x - B)).length ≤ m := by rw [Hm.out]; exact rep_mono (Nat.le_of_lt HG.out.lt)
          go_wp2_with fail
          refine (ref_less V a3 b (rep x) (rep B) nx m c3 cb hlq hbq (rep_lim _) (rep_lim _) Hnx.out Hm.out (by omega) (by rw [val_rep, val_rep]; exact hge) hmx).mono ?_
          rw [val_rep, val_rep]
          rintro e w6 ⟨a6, c6, rfl, hc6, hl6, hb6, hf6⟩
          have hr6 := hrq.below hb6 hrq.lt
          have hbl6 := hblV.trans (hb6.mono hblV.size)
          have Hoff6 := Lib.hid (hf6.off hrq.lt)
          clear hf6
          obtain ⟨n6, hn6⟩ : ∃ n6, n6 = (rep (x - B)).length := ⟨_, rfl⟩
          rw [← hn6] at hc6 hxB ⊢
          have Hn6 := Lib.hid hn6; clear hn6
          have hcell := hr6.cell (i := d) (by rw [Hql.out]; exact d_lt)
          have hfk := hr6.free d
          have ig := row_index (P := Tryz.prog) Tryz.underlying22 size32 g n n .i64 (d : Int) d rfl d_lt
          have ep1 : (1 : Int) * 2 ^ s = (p : Int) := by rw [Int.one_mul]; exact ep
          go_wp2
          go_roundw
          case rel => exact ⟨j, x - B, n6, c6, a6, qs.set d (wd qs d + p), by omega, rfl, rfl, Lib.hid Hn6.out, hc6, hxB, hl6.off Hoff6.out _, Lib.hid Hoff6.out, Lib.hid (by rw [List.length_set, Hql.out]), hqlim.set sb2, hr6.store _ _ _ rfl, Lib.hid HG.out, below_store hbl6 hg1 _⟩
          case measure => first | (simp [intOf]; done) | (simp [intOf]; omega)
        · have cv := order_lt (show x < B by omega)
          obtain ⟨v, hv⟩ : ∃ v, v = cmpI x B := ⟨_, rfl⟩
          rw [← hv] at cv ⊢
          clear hv
          have HG := Lib.hid (HPs.out (by omega))
          have hxB : nx ≤ m := by rw [Hm.out, Hnx.out]; exact rep_mono (by omega)
          go_wp2
          go_roundw
          case rel => exact ⟨j, x, nx, c3, a3, qs, by omega, rfl, rfl, Lib.hid Hnx.out, by omega, hxB, hln.drewN q, Lib.hid Hoff3.out, Lib.hid Hql.out, hqlim, hr3.drewN q, Lib.hid HG.out, below_drewN hbl3 q⟩
          case measure => first | (simp [intOf]; done) | (simp [intOf]; omega)

end Go.Proofs.YtbffpkmfhkphdaaGreatDoor
