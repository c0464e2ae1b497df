/- The document's Numbers: those of layer 8. -/
import Derived.Test.YtdhapmlgapflbaaGreatDoorPOwn
import Derived.Test.YtdhapmlgapflbaaGreatDoorPKeys
set_option linter.unusedVariables false
set_option linter.unusedSimpArgs false
namespace Go.Proofs.YtdhapmlgapflbaaGreatDoor
open Go Go.RowKit Limb
def spanLo (k : Nat) : Int := [1, 40, 60, 70, 80, 90, 120].getD k 0
def spanN (k : Nat) : Nat := [19, 17, 5, 6, 9, 3, 7].getD k 0
def spanL (k m : Nat) : List Int := (List.range m).map fun j : Nat => spanLo k + (j : Int)
def upN : Nat → List Int
  | 0 => []
  | k + 1 => upN k ++ spanL k (spanN k)
theorem upN_all : upN 7 = numsK := by decide +kernel
theorem spanL_succ (k m : Nat) : spanL k m ++ [spanLo k + (m : Int)] = spanL k (m + 1) := by unfold spanL; rw [List.range_succ, List.map_append]; rfl
theorem span_fact (k : Nat) (hk : k < 7) : 1 ≤ spanLo k ∧ spanLo k ≤ 120 ∧ spanN k ≤ 19 := by
  have c : k = 0 ∨ k = 1 ∨ k = 2 ∨ k = 3 ∨ k = 4 ∨ k = 5 ∨ k = 6 := by omega
  rcases c with rfl | rfl | rfl | rfl | rfl | rfl | rfl <;> decide
theorem upN_len (k : Nat) (hk : k ≤ 7) : (upN k).length ≤ 66 := by
  have c : k = 0 ∨ k = 1 ∨ k = 2 ∨ k = 3 ∨ k = 4 ∨ k = 5 ∨ k = 6 ∨ k = 7 := by omega
  rcases c with rfl | rfl | rfl | rfl | rfl | rfl | rfl | rfl <;> decide +kernel
def spanCells : List Value := [.int .i64 1, .int .i64 19, .int .i64 40, .int .i64 56, .int .i64 60, .int .i64 64, .int .i64 70, .int .i64 75, .int .i64 80, .int .i64 88, .int .i64 90, .int .i64 92, .int .i64 120, .int .i64 126]
theorem span_cells (k : Nat) (hk : k < 7) : spanCells[k * 2]? = some (.int .i64 (spanLo k)) ∧ spanCells[k * 2 + 1]? = some (.int .i64 (spanLo k + (spanN k : Int) - 1)) := by
  have c : k = 0 ∨ k = 1 ∨ k = 2 ∨ k = 3 ∨ k = 4 ∨ k = 5 ∨ k = 6 := by omega
  rcases c with rfl | rfl | rfl | rfl | rfl | rfl | rfl <;> exact ⟨rfl, rfl⟩
theorem size_two (W : World) : (sizeOf 45).run Tryz.prog W = .ok 2 W := by kernel_rfl
theorem size_int (W : World) : (sizeOf 3).run Tryz.prog W = .ok 1 W := by kernel_rfl
theorem idx_spans (W : World) (g k : Nat) (hk : k < 7) : (Instr.indexAt 46 (.slice (some ⟨g, 0, none⟩) 7 7) (.int .i64 k)).run Tryz.prog W = .ok (.pointer (some ⟨g, k * 2, none⟩)) W := by
  have h2 : (k : Int) < 7 := by omega
  simp [Instr.indexAt, run_underlying Tryz.underlying46, asIntOf, h2, size_two, Result.andThen, Addr.add]
  rw [if_pos hk]
  by_cases h0 : k = 0
  · subst h0; rfl
  · rw [if_neg (by omega)]
theorem info_int : (Tryz.prog.info? 3).map (fun i => (i.zero, i.size, i.bytes)) = some (some (.int .i64 0), 1, 8) := by kernel_rfl
theorem encL_len (l : List Int) : (l.map encZ).length = l.length := List.length_map _
set_option maxHeartbeats 3200000 in
set_option maxRecDepth 100000 in
theorem ref_numbers (w : World) : Calls Tryz.prog 5 #[] w fun e w' => ∃ g c, e = .returned (.slice (some ⟨g, 0, none⟩) 66 c) ∧ Sl w' g 3 66 c (numsK.map encZ) ∧ w.heap.size ≤ g ∧ Below w.heap.size w w' := by
  obtain ⟨V, hV, rv, hbv, hzv⟩ := alloc_row w 45 [.int .i64 1, .int .i64 19, .int .i64 40, .int .i64 56, .int .i64 60, .int .i64 64, .int .i64 70, .int .i64 75, .int .i64 80, .int .i64 88, .int .i64 90, .int .i64 92, .int .i64 120, .int .i64 126]
  have HV := Lib.hid hV
  have HRow := Lib.hid (show Row V w.heap.size 45 spanCells from rv)
  have HB := Lib.hid hbv
  have hzl : w.heap.size < V.heap.size := by omega
  have HO : Hid (Own1 V 3 (.slice none 0 0) [] V.heap.size) := Lib.hid (.inl ⟨rfl, rfl⟩)
  have HIx := Lib.hid idx_spans
  generalize hg : w.heap.size = g at *
  clear hV rv hbv hzv
  go_enter Tryz.func5, Tryz.ntmps5
  go_wp2_with fail
  rw [← HV.out]
  have HG := Lib.hid hg
  clear HV hg
  go_loopw [3, 1] (fun i l wr => ∃ k : Nat, k ≤ 7 ∧ i = .int .i64 k ∧ Hid (Own1 wr 3 l ((upN k).map encZ) V.heap.size) ∧ Hid (Below V.heap.size V wr)) (fun i _ _ => 7 - (RowKit.intOf i).toNat)
  case atStart => exact ⟨0, Nat.zero_le _, rfl, HO, Lib.hid (Below.refl _ _)⟩
  case round =>
    clear HO
    obtain ⟨k, hk, rfl, HO, HB1⟩ := hrel
    by_cases h0 : k < 7
    · obtain ⟨f1, f2, f3⟩ := span_fact k h0
      have hr := HRow.out.below HB1.out hzl
      have q0 := hr.cell_at (k * 2)
      have q1 := hr.cell_at (k * 2 + 1)
      rw [(span_cells k h0).1] at q0
      rw [(span_cells k h0).2] at q1
      have ix := fun W => HIx.out W g k h0
      have d1 : decide ((k : Int) < 7) = true := decide_eq_true (by omega)
      clear hr
      go_wp2_with fail
      clear q0 q1 ix d1
      have HO0 : Hid (Own1 wr 3 u1 ((upN k ++ spanL k 0).map encZ) V.heap.size) := Lib.hid (by rw [show spanL k 0 = [] from rfl, List.append_nil]; exact HO.out)
      have HSp := Lib.hid (fun X (hb : Below V.heap.size V X) => show X.cell? ⟨g, k * 2 + 1, none⟩ = some (.int .i64 (spanLo k + (spanN k : Int) - 1)) by rw [(HRow.out.below hb hzl).cell_at, (span_cells k h0).2])
      clear HO
      go_loopw [4, 1] (fun n l wx => ∃ m : Nat, m ≤ spanN k ∧ n = .int .i64 (spanLo k + (m : Int)) ∧ Hid (Own1 wx 3 l ((upN k ++ spanL k m).map encZ) V.heap.size) ∧ Hid (Below V.heap.size V wx)) (fun n _ _ => spanN k - (RowKit.intOf n - spanLo k).toNat)
      case atStart => exact ⟨0, Nat.zero_le _, by simp, HO0, HB1⟩
      case round =>
        clear HO0 HB1
        obtain ⟨m, hm, rfl, HO, HB1⟩ := hrel
        have q1 := HSp.out _ HB1.out
        have ix := fun W => HIx.out W g k h0
        by_cases h1 : m < spanN k
        · have d2 : decide (spanLo k + (m : Int) ≤ spanLo k + (spanN k : Int) - 1) = true := decide_eq_true (by omega)
          have hlen : ((upN k ++ spanL k m).map encZ).length ≤ 100000 := by
            have := upN_len k hk
            rw [List.length_map, List.length_append]
            unfold spanL
            rw [List.length_map, List.length_range]
            omega
          obtain ⟨s', X2, hr, hS2, hB2⟩ := own1_append 22 (.int .i64 0) 8 Tryz.underlying22 info_int rfl (by decide) HO.out HB1.out.size (.int .i64 (spanLo k + (m : Int))) rfl hlen
          have HR2 := Lib.hid hr
          have HO2 : Hid (Own1 X2 3 s' ((upN k ++ spanL k (m + 1)).map encZ) V.heap.size) := Lib.hid (by rw [← spanL_succ, ← List.append_assoc, List.map_append]; exact hS2)
          have HB2 := Lib.hid (HB1.out.trans hB2)
          clear hr hS2 hB2 hlen HO HB1
          go_wp2_with (at_builtin; refine Lib.wpList_append_run _ rfl _ _ _ _ rfl _ _ rfl rfl _ _ HR2.out ?_)
          refine ⟨⟨m + 1, h1, by simp; omega, HO2, HB2⟩, ?_⟩
          simp [RowKit.intOf]; omega
        · obtain rfl : m = spanN k := by omega
          have d2 : decide (spanLo k + (spanN k : Int) ≤ spanLo k + (spanN k : Int) - 1) = false := decide_eq_false (by omega)
          have HO2 : Hid (Own1 wr 3 u1 ((upN (k + 1)).map encZ) V.heap.size) := HO
          clear HO
          go_wp2_with fail
          refine ⟨⟨k + 1, h0, by simp, HO2, HB1⟩, ?_⟩
          simp [RowKit.intOf]; omega
    · obtain rfl : k = 7 := by omega
      have d1 : decide (((7 : Nat) : Int) < 7) = false := by decide
      rw [show ((7 : Nat) : Int) = 7 from rfl]
      rw [upN_all] at HO
      go_wp2_with fail
      rcases HO.out with ⟨_, h2⟩ | ⟨g', c, rfl, h2, h3, h4⟩
      · cases h2
      · have HSl := Lib.hid h2
        clear h2 HO
        go_ret
        have hs := HB.out.size
        have hg := HG.out
        exact ⟨g', c, rfl, HSl.out, by omega, HB.out.trans (HB1.out.mono (by omega))⟩
end Go.Proofs.YtdhapmlgapflbaaGreatDoor
