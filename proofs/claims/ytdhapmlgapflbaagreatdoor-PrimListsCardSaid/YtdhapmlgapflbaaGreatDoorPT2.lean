/- The tables of package prim whose entries hold closures. -/
import Derived.Test.YtdhapmlgapflbaaGreatDoorPT
set_option linter.unusedVariables false
set_option linter.unusedSimpArgs false
namespace Go.Proofs.YtdhapmlgapflbaaGreatDoor
open Go Go.RowKit Go.Maps Limb
set_option maxHeartbeats 3200000 in
set_option maxRecDepth 100000 in
theorem tab_numbers (w : World) : Calls Tryz.prog 16 #[] w fun e w' => ∃ b l, e = .returned (.map (some b)) ∧ OwnM w w' b l ∧ l.map (·.1) = [1, 2, 3, 4, 5, 6, 7, 8, 9, 10, 11, 12, 13, 14, 15, 16, 17, 18, 19] := by
  have hmk := make_map
  obtain ⟨W1, h1, r1, b1, z1⟩ := alloc_row w 68 [.nilFunc]
  have q0 := r1.cell_at 0
  have f0 := r1.free 0
  simp only [List.getElem?_cons_zero] at q0
  obtain ⟨W2, h2⟩ : ∃ W, W = W1.setCell ⟨w.heap.size, 0, none⟩ (.func (.func 28) #[] #[]) := ⟨_, rfl⟩
  have hst : (store ⟨w.heap.size, 0, none⟩ (.func (.func 28) #[] #[])).run Tryz.prog (w.alloc (.cells #[.nilFunc] 68)) = .ok () W2 := by rw [h2, ← h1]; simp [store, Sem.run, q0, f0]
  have hb : Below w.heap.size w W2 := by rw [h2]; exact b1.setCell (by simp) _
  have HO := Lib.hid (OwnM.start hb)
  clear h1 h2 r1 b1 z1 q0 f0 hb
  go_enter Tryz.func16, Tryz.ntmps16
  go_wp2_with (first
    | (refine wpList_insert_next HO _ _ _ rfl rfl rfl rfl rfl (by decide) (by simp) ?_; clear HO; intro W HO)
    | (go_at_call 29; refine (prim_two _ _ _ _).mono ?_; rintro e W ⟨rfl, hb⟩; replace HO := Lib.hid (HO.out.below hb); clear hb; (try dsimp only))
    | (go_at_call 38; refine (prim_compare _ _ _ _).mono ?_; rintro e W ⟨rfl, hb⟩; replace HO := Lib.hid (HO.out.below hb); clear hb; (try dsimp only))
    | (go_at_call 49; refine (prim_one _ _ _ _).mono ?_; rintro e W ⟨rfl, hb⟩; replace HO := Lib.hid (HO.out.below hb); clear hb; (try dsimp only)))
  go_ret
  exact ⟨_, _, rfl, HO.out, rfl⟩
end Go.Proofs.YtdhapmlgapflbaaGreatDoor
