/- The tables of package prim: maps of entries. -/
import Derived.Test.YtdhapmlgapflbaaGreatDoorPM2
import Derived.Deep.CutRange
set_option linter.unusedVariables false
set_option linter.unusedSimpArgs false
namespace Go.Proofs.YtdhapmlgapflbaaGreatDoor
open Go Go.RowKit Go.Maps Limb
theorem make_map (W : World) : (Instr.makeMap 39 none).run Tryz.prog W = .ok (.map (some W.heap.size)) (W.alloc (.map #[] 0)) := rfl
set_option maxRecDepth 100000 in
theorem tab_objects (w : World) : Calls Tryz.prog 17 #[] w fun e w' => ∃ b l, e = .returned (.map (some b)) ∧ OwnM w w' b l ∧ l.map (·.1) = [40, 41, 42, 43, 44, 45, 46, 47, 48, 49, 52] := by
  have hmk := make_map
  have HO := Lib.hid (OwnM.start (Below.refl w.heap.size w))
  go_enter Tryz.func17, Tryz.ntmps17
  go_wp2_with (refine wpList_insert_next HO _ _ _ rfl rfl rfl rfl rfl (by decide) (by simp) ?_; clear HO; intro W HO)
  go_ret
  exact ⟨_, _, rfl, HO.out, rfl⟩
set_option maxRecDepth 100000 in
theorem tab_texts (w : World) : Calls Tryz.prog 18 #[] w fun e w' => ∃ b l, e = .returned (.map (some b)) ∧ OwnM w w' b l ∧ l.map (·.1) = [50, 51, 53, 54, 55, 56, 60, 61, 62, 63, 64] := by
  have hmk := make_map
  have HO := Lib.hid (OwnM.start (Below.refl w.heap.size w))
  go_enter Tryz.func18, Tryz.ntmps18
  go_wp2_with (refine wpList_insert_next HO _ _ _ rfl rfl rfl rfl rfl (by decide) (by simp) ?_; clear HO; intro W HO)
  go_ret
  exact ⟨_, _, rfl, HO.out, rfl⟩
set_option maxRecDepth 100000 in
theorem tab_system (w : World) : Calls Tryz.prog 20 #[] w fun e w' => ∃ b l, e = .returned (.map (some b)) ∧ OwnM w w' b l ∧ l.map (·.1) = [90, 91, 92, 120, 121, 122, 123, 124, 125, 126] := by
  have hmk := make_map
  have HO := Lib.hid (OwnM.start (Below.refl w.heap.size w))
  go_enter Tryz.func20, Tryz.ntmps20
  go_wp2_with (refine wpList_insert_next HO _ _ _ rfl rfl rfl rfl rfl (by decide) (by simp) ?_; clear HO; intro W HO)
  go_ret
  exact ⟨_, _, rfl, HO.out, rfl⟩
set_option maxRecDepth 100000 in
theorem prim_two (w : World) (f : Fn) (x y : Array Value) : Calls Tryz.prog 29 #[.func f x y] w fun e w' => e = .returned (entV (1, .func 156, #[], #[.pointer (some ⟨w.heap.size, 0, none⟩)])) ∧ Below w.heap.size w w' := by
  obtain ⟨W1, h1, r1, b1, z1⟩ := alloc_row w 71 [.func f x y]
  obtain ⟨W2, h2, r2, b2, z2⟩ := alloc_row W1 43 [.int .i64 0, .nilFunc]
  have HB := Lib.hid (b1.trans (b2.mono b1.size))
  rw [z1] at r2
  have q0 := r2.cell_at 0
  have q1 := r2.cell_at 1
  have f0 := r2.free 0
  have f1 := r2.free 1
  have s0 := r2.store_any 0 (.int .i64 1)
  have s1 := s0.store_any 1 (.func (.func 156) #[] #[.pointer (some ⟨w.heap.size, 0, none⟩)])
  have q1' := s0.cell_at 1
  have f1' := s0.free 1
  have e0 := s1.cell_at 0
  have e1 := s1.cell_at 1
  simp only [List.set_cons_zero, List.set_cons_succ, List.getElem?_cons_zero, List.getElem?_cons_succ] at q0 q1 q1' e0 e1
  have hst : (store ⟨w.heap.size + 1, 1, none⟩ (.func (.func 156) #[] #[.pointer (some ⟨w.heap.size, 0, none⟩)])).run Tryz.prog (W2.setCell ⟨w.heap.size + 1, 0, none⟩ (.int .i64 1)) = .ok () ((W2.setCell ⟨w.heap.size + 1, 0, none⟩ (.int .i64 1)).setCell ⟨w.heap.size + 1, 1, none⟩ (.func (.func 156) #[] #[.pointer (some ⟨w.heap.size, 0, none⟩)])) := by simp [store, Sem.run, q1', f1']
  rw [h1] at h2
  have H2 := Lib.hid h2
  clear h1 h2 b1 b2 z1 z2 r1 r2 s0 s1
  go_enter Tryz.func29, Tryz.ntmps29
  go_upto_region 1 with (fail)
  rw [← H2.out]
  go_wp2_with fail
  exact bodyPost_ret (v := entV (1, .func 156, #[], #[.pointer (some ⟨w.heap.size, 0, none⟩)])) (by simp [results, Tryz.results29, go_sem, entV, e0, e1]) rfl ⟨rfl, (HB.out.setCell (by simp) _).setCell (by simp) _⟩
set_option maxRecDepth 100000 in
theorem prim_compare (w : World) (f : Fn) (x y : Array Value) : Calls Tryz.prog 38 #[.func f x y] w fun e w' => e = .returned (entV (1, .func 157, #[], #[.pointer (some ⟨w.heap.size, 0, none⟩)])) ∧ Below w.heap.size w w' := by
  obtain ⟨W1, h1, r1, b1, z1⟩ := alloc_row w 74 [.func f x y]
  obtain ⟨W2, h2, r2, b2, z2⟩ := alloc_row W1 43 [.int .i64 0, .nilFunc]
  have HB := Lib.hid (b1.trans (b2.mono b1.size))
  rw [z1] at r2
  have q0 := r2.cell_at 0
  have q1 := r2.cell_at 1
  have f0 := r2.free 0
  have f1 := r2.free 1
  have s0 := r2.store_any 0 (.int .i64 1)
  have s1 := s0.store_any 1 (.func (.func 157) #[] #[.pointer (some ⟨w.heap.size, 0, none⟩)])
  have q1' := s0.cell_at 1
  have f1' := s0.free 1
  have e0 := s1.cell_at 0
  have e1 := s1.cell_at 1
  simp only [List.set_cons_zero, List.set_cons_succ, List.getElem?_cons_zero, List.getElem?_cons_succ] at q0 q1 q1' e0 e1
  have hst : (store ⟨w.heap.size + 1, 1, none⟩ (.func (.func 157) #[] #[.pointer (some ⟨w.heap.size, 0, none⟩)])).run Tryz.prog (W2.setCell ⟨w.heap.size + 1, 0, none⟩ (.int .i64 1)) = .ok () ((W2.setCell ⟨w.heap.size + 1, 0, none⟩ (.int .i64 1)).setCell ⟨w.heap.size + 1, 1, none⟩ (.func (.func 157) #[] #[.pointer (some ⟨w.heap.size, 0, none⟩)])) := by simp [store, Sem.run, q1', f1']
  rw [h1] at h2
  have H2 := Lib.hid h2
  clear h1 h2 b1 b2 z1 z2 r1 r2 s0 s1
  go_enter Tryz.func38, Tryz.ntmps38
  go_upto_region 1 with (fail)
  rw [← H2.out]
  go_wp2_with fail
  exact bodyPost_ret (v := entV (1, .func 157, #[], #[.pointer (some ⟨w.heap.size, 0, none⟩)])) (by simp [results, Tryz.results38, go_sem, entV, e0, e1]) rfl ⟨rfl, (HB.out.setCell (by simp) _).setCell (by simp) _⟩
set_option maxRecDepth 100000 in
theorem prim_one (w : World) (f : Fn) (x y : Array Value) : Calls Tryz.prog 49 #[.func f x y] w fun e w' => e = .returned (entV (0, .func 158, #[], #[.pointer (some ⟨w.heap.size, 0, none⟩)])) ∧ Below w.heap.size w w' := by
  obtain ⟨W1, h1, r1, b1, z1⟩ := alloc_row w 76 [.func f x y]
  obtain ⟨W2, h2, r2, b2, z2⟩ := alloc_row W1 43 [.int .i64 0, .nilFunc]
  have HB := Lib.hid (b1.trans (b2.mono b1.size))
  rw [z1] at r2
  have q0 := r2.cell_at 0
  have q1 := r2.cell_at 1
  have f0 := r2.free 0
  have f1 := r2.free 1
  have s0 := r2.store_any 0 (.int .i64 0)
  have s1 := s0.store_any 1 (.func (.func 158) #[] #[.pointer (some ⟨w.heap.size, 0, none⟩)])
  have q1' := s0.cell_at 1
  have f1' := s0.free 1
  have e0 := s1.cell_at 0
  have e1 := s1.cell_at 1
  simp only [List.set_cons_zero, List.set_cons_succ, List.getElem?_cons_zero, List.getElem?_cons_succ] at q0 q1 q1' e0 e1
  have hst : (store ⟨w.heap.size + 1, 1, none⟩ (.func (.func 158) #[] #[.pointer (some ⟨w.heap.size, 0, none⟩)])).run Tryz.prog (W2.setCell ⟨w.heap.size + 1, 0, none⟩ (.int .i64 0)) = .ok () ((W2.setCell ⟨w.heap.size + 1, 0, none⟩ (.int .i64 0)).setCell ⟨w.heap.size + 1, 1, none⟩ (.func (.func 158) #[] #[.pointer (some ⟨w.heap.size, 0, none⟩)])) := by simp [store, Sem.run, q1', f1']
  rw [h1] at h2
  have H2 := Lib.hid h2
  clear h1 h2 b1 b2 z1 z2 r1 r2 s0 s1
  go_enter Tryz.func49, Tryz.ntmps49
  go_upto_region 1 with (fail)
  rw [← H2.out]
  go_wp2_with fail
  exact bodyPost_ret (v := entV (0, .func 158, #[], #[.pointer (some ⟨w.heap.size, 0, none⟩)])) (by simp [results, Tryz.results49, go_sem, entV, e0, e1]) rfl ⟨rfl, (HB.out.setCell (by simp) _).setCell (by simp) _⟩
end Go.Proofs.YtdhapmlgapflbaaGreatDoor
