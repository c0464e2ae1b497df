/- The walks of slices.Clone at words and at oops, and of package heap's Words and Roots. The document's Numbers: those of layer 8. -/
import Derived.Test.YtllabdmmfohbaaaGreatDoorGX25
import Derived.Test.YtllabdmmfohbaaaGreatDoorGX20
set_option linter.unusedVariables false
set_option linter.unusedSimpArgs false
namespace Go.Proofs.YtllabdmmfohbaaaGreatDoor
open Go Go.RowKit Limb
theorem eql_slice_nil {P : Program} (t e : TypeId) (a : Addr) (n c : Nat) (h : P.underlying t = some (.slice e)) (w : World) : (binOp .eql t (.slice (some a) n c) (.slice none 0 0)).run P w = .ok (.bool false) w := by
  have : (Op.equalIn 10000 t (.slice (some a) n c) (.slice none 0 0)).run P w = .ok false w := by
    rw [show (10000 : Nat) = 9999 + 1 from rfl]
    unfold Op.equalIn
    simp [Sem.run_bind, run_underlying h, Result.andThen]
  simp [binOp, Op.equal, Op.maxDepth, this, Result.andThen]
theorem news_of {K : IntKind} {w : World} {g n c : Nat} {e : TypeId} {l : List Nat} (h : Sl w g e n c (nums K l)) : ∀ j u, (nums K l)[j]? = some u → w.cell? ((⟨g, 0, none⟩ : Addr).add j) = some u := by
  intro j u hj
  have ha : (⟨g, 0, none⟩ : Addr).add j = ⟨g, j, none⟩ := by
    unfold Addr.add
    by_cases h0 : j = 0
    · subst h0; rfl
    · simp [h0]
  have hl := h.len
  have := (List.getElem?_eq_some_iff.1 hj).1
  rw [ha, h.cell (by omega)]; exact hj
set_option maxHeartbeats 800000 in
set_option maxRecDepth 100000 in
theorem clone_words (w : World) (g n c : Nat) (l : List Nat) (hs : Sl w g 29 n c (nums .u32 l)) (h0 : 0 < n) (hn : n ≤ 1048576) :
    Calls Tryz.prog 259 #[.slice (some ⟨g, 0, none⟩) n c] w fun e w' => (∃ g' c', e = .returned (.slice (some ⟨g', 0, none⟩) n c') ∧ w.heap.size ≤ g' ∧ Sl w' g' 29 n c' (nums .u32 l)) ∧ Below w.heap.size w w' := by
  obtain ⟨W, hW, r0, hb, hz⟩ := alloc_row w 29 []
  have HW := Lib.hid hW
  obtain ⟨i0, hi, hz0, hz1, hz2⟩ := info_parts info32
  have hs1 := hs.below hb
  obtain ⟨v9, X9, hr9, hg9⟩ := run_sl_append (P := Tryz.prog) (t := 68) (ty := 68) Tryz.underlying68 hi hz0 hz1 hz2 rfl (r0.sl (n := 0) rfl (Nat.zero_le _)) ⟨g, 0, none⟩ n c (by omega) (nums .u32 l) hs1.len (news_of hs1) (by simp [nums, Value.oneCell']) (Nat.le_trans (show 0 + n ≤ 1048576 by omega) (by decide)) (by omega)
  have ho9 := hg9.only
  obtain ⟨g9, c9, rfl, sl9, hgg, -⟩ := hg9
  rw [Nat.zero_add, List.nil_append] at sl9
  rw [Nat.zero_add] at hr9
  have hB : Below w.heap.size w X9 := hb.trans (ho9.belowB (by omega) (fun p hp => by rw [List.mem_singleton] at hp; omega))
  have HR9 := Lib.hid hr9
  have HS9 := Lib.hid sl9
  have hg9 : w.heap.size ≤ g9 := by omega
  clear hr9 sl9 hW hs hs1 r0 hb hgg ho9
  have he := eql_slice_nil (P := Tryz.prog) 68 29 ⟨g, 0, none⟩ n c Tryz.underlying68
  go_enter Tryz.func259, Tryz.ntmps259
  go_wp2_with (at_builtin; (try rw [← HW.out]); refine Lib.wpList_append_run _ rfl _ _ _ _ rfl _ _ rfl rfl _ _ HR9.out ?_)
  go_ret
  exact ⟨⟨g9, c9, rfl, hg9, HS9.out⟩, hB⟩
set_option maxHeartbeats 800000 in
set_option maxRecDepth 100000 in
theorem clone_oops (w : World) (g n c : Nat) (l : List Nat) (hs : Sl w g 30 n c (nums .u32 l)) (h0 : 0 < n) (hn : n ≤ 1048576) :
    Calls Tryz.prog 260 #[.slice (some ⟨g, 0, none⟩) n c] w fun e w' => (∃ g' c', e = .returned (.slice (some ⟨g', 0, none⟩) n c') ∧ w.heap.size ≤ g' ∧ Sl w' g' 30 n c' (nums .u32 l)) ∧ Below w.heap.size w w' := by
  obtain ⟨W, hW, r0, hb, hz⟩ := alloc_row w 30 []
  have HW := Lib.hid hW
  obtain ⟨i0, hi, hz0, hz1, hz2⟩ := info_parts info_oop
  have hs1 := hs.below hb
  obtain ⟨v9, X9, hr9, hg9⟩ := run_sl_append (P := Tryz.prog) (t := 53) (ty := 53) Tryz.underlying53 hi hz0 hz1 hz2 rfl (r0.sl (n := 0) rfl (Nat.zero_le _)) ⟨g, 0, none⟩ n c (by omega) (nums .u32 l) hs1.len (news_of hs1) (by simp [nums, Value.oneCell']) (Nat.le_trans (show 0 + n ≤ 1048576 by omega) (by decide)) (by omega)
  have ho9 := hg9.only
  obtain ⟨g9, c9, rfl, sl9, hgg, -⟩ := hg9
  rw [Nat.zero_add, List.nil_append] at sl9
  rw [Nat.zero_add] at hr9
  have hB : Below w.heap.size w X9 := hb.trans (ho9.belowB (by omega) (fun p hp => by rw [List.mem_singleton] at hp; omega))
  have HR9 := Lib.hid hr9
  have HS9 := Lib.hid sl9
  have hg9 : w.heap.size ≤ g9 := by omega
  clear hr9 sl9 hW hs hs1 r0 hb hgg ho9
  have he := eql_slice_nil (P := Tryz.prog) 53 30 ⟨g, 0, none⟩ n c Tryz.underlying53
  go_enter Tryz.func260, Tryz.ntmps260
  go_wp2_with (at_builtin; (try rw [← HW.out]); refine Lib.wpList_append_run _ rfl _ _ _ _ rfl _ _ rfl rfl _ _ HR9.out ?_)
  go_ret
  exact ⟨⟨g9, c9, rfl, hg9, HS9.out⟩, hB⟩
section
variable {w : World} {F : Foot} {h : Hp}
set_option maxRecDepth 100000 in
theorem heap_Words (H : HeapAt w F h) :
    Calls Tryz.prog 190 #[.pointer (some ⟨F.p, 0, none⟩)] w fun e w' => (∃ g' c', e = .returned (.slice (some ⟨g', 0, none⟩) h.ws.length c') ∧ w.heap.size ≤ g' ∧ Sl w' g' 29 h.ws.length c' (nums .u32 h.ws)) ∧ Below w.heap.size w w' := by
  have HM := Lib.hid (heap_made H)
  obtain ⟨cw, cs, c0, c1, c2, c3, c4, hw, hs⟩ := H.cells
  have HC := Lib.hid (clone_words w F.gw h.ws.length cw h.ws hw H.good.pos H.small.1)
  clear hw hs H
  go_enter Tryz.func190, Tryz.ntmps190
  go_wp2_with fail
  refine (HM.out).mono ?_
  rintro e w1 ⟨rfl, rfl⟩
  (try dsimp only)
  go_wp2_with fail
  refine (HC.out).mono ?_
  rintro e w2 ⟨⟨g', c', rfl, hg, hS⟩, hB⟩
  (try dsimp only)
  have HS := Lib.hid hS
  clear hS
  go_wp2_with fail
  go_ret
  exact ⟨⟨g', c', rfl, hg, HS.out⟩, hB⟩
set_option maxRecDepth 100000 in
theorem heap_Roots (H : HeapAt w F h) :
    Calls Tryz.prog 191 #[.pointer (some ⟨F.p, 0, none⟩)] w fun e w' => (∃ g' c', e = .returned (.slice (some ⟨g', 0, none⟩) 64 c') ∧ w.heap.size ≤ g' ∧ Sl w' g' 30 64 c' (nums .u32 h.rt)) ∧ Below w.heap.size w w' := by
  have HM := Lib.hid (heap_made H)
  obtain ⟨cw, cs, c0, c1, c2, c3, c4, hw, hs⟩ := H.cells
  have sl : Sl w F.gr 30 64 64 (nums .u32 h.rt) := H.roots.sl (by rw [nums_length]; exact H.good.rlen.symm) (by decide)
  have HC := Lib.hid (clone_oops w F.gr 64 64 h.rt sl (by decide) (by decide))
  clear hw hs H sl
  go_enter Tryz.func191, Tryz.ntmps191
  go_wp2_with fail
  refine (HM.out).mono ?_
  rintro e w1 ⟨rfl, rfl⟩
  (try dsimp only)
  go_wp2_with fail
  refine (HC.out).mono ?_
  rintro e w2 ⟨⟨g', c', rfl, hg, hS⟩, hB⟩
  (try dsimp only)
  have HS := Lib.hid hS
  clear hS
  go_wp2_with fail
  go_ret
  exact ⟨⟨g', c', rfl, hg, HS.out⟩, hB⟩
end
end Go.Proofs.YtllabdmmfohbaaaGreatDoor
namespace Go.Proofs.YtllabdmmfohbaaaGreatDoor
open Go Go.RowKit Limb
def spanLo (k : Nat) : Int := [1, 40, 60, 70, 80, 90, 120].getD k 0
def spanN (k : Nat) : Nat := [19, 17, 5, 6, 9, 3, 7].getD k 0
def spanL (k m : Nat) : List Int := (List.range m).map fun j : Nat => spanLo k + (j : Int)
def upN : Nat → List Int
  | 0 => []
  | k + 1 => upN k ++ spanL k (spanN k)
theorem upN_all : upN 7 = numsK := by decide +kernel
theorem spanL_succ (k m : Nat) : spanL k m ++ [spanLo k + (m : Int)] = spanL k (m + 1) := by unfold spanL; rw [List.range_succ, List.map_append]; rfl
theorem span_fact (k : Nat) (hk : k < 7) : 1 ≤ spanLo k ∧ spanLo k ≤ 120 ∧ spanN k ≤ 19 := by
  have c : k = 0 ∨ k = 1 ∨ k = 2 ∨ k = 3 ∨ k = 4 ∨ k = 5 ∨ k = 6 := by omega
  rcases c with rfl | rfl | rfl | rfl | rfl | rfl | rfl <;> decide
theorem upN_len (k : Nat) (hk : k ≤ 7) : (upN k).length ≤ 66 := by
  have c : k = 0 ∨ k = 1 ∨ k = 2 ∨ k = 3 ∨ k = 4 ∨ k = 5 ∨ k = 6 ∨ k = 7 := by omega
  rcases c with rfl | rfl | rfl | rfl | rfl | rfl | rfl | rfl <;> decide +kernel
def spanCells : List Value := [.int .i64 1, .int .i64 19, .int .i64 40, .int .i64 56, .int .i64 60, .int .i64 64, .int .i64 70, .int .i64 75, .int .i64 80, .int .i64 88, .int .i64 90, .int .i64 92, .int .i64 120, .int .i64 126]
theorem span_cells (k : Nat) (hk : k < 7) : spanCells[k * 2]? = some (.int .i64 (spanLo k)) ∧ spanCells[k * 2 + 1]? = some (.int .i64 (spanLo k + (spanN k : Int) - 1)) := by
  have c : k = 0 ∨ k = 1 ∨ k = 2 ∨ k = 3 ∨ k = 4 ∨ k = 5 ∨ k = 6 := by omega
  rcases c with rfl | rfl | rfl | rfl | rfl | rfl | rfl <;> exact ⟨rfl, rfl⟩
theorem size_two (W : World) : (sizeOf 48).run Tryz.prog W = .ok 2 W := by kernel_rfl
theorem idx_spans (W : World) (g k : Nat) (hk : k < 7) : (Instr.indexAt 49 (.slice (some ⟨g, 0, none⟩) 7 7) (.int .i64 k)).run Tryz.prog W = .ok (.pointer (some ⟨g, k * 2, none⟩)) W := by
  have h2 : (k : Int) < 7 := by omega
  simp [Instr.indexAt, run_underlying Tryz.underlying49, asIntOf, h2, size_two, Result.andThen, Addr.add]
  rw [if_pos hk]
  by_cases h0 : k = 0
  · subst h0; rfl
  · rw [if_neg (by omega)]
theorem info_intN : (Tryz.prog.info? 3).map (fun i => (i.zero, i.size, i.bytes)) = some (some (.int .i64 0), 1, 8) := by kernel_rfl
set_option maxHeartbeats 3200000 in
set_option maxRecDepth 100000 in
theorem ref_numbers (w : World) : Calls Tryz.prog 23 #[] w fun e w' => ∃ g c, e = .returned (.slice (some ⟨g, 0, none⟩) 66 c) ∧ Sl w' g 3 66 c (numsK.map encZ) ∧ w.heap.size ≤ g ∧ Below w.heap.size w w' := by
  obtain ⟨V, hV, rv, hbv, hzv⟩ := alloc_row w 48 [.int .i64 1, .int .i64 19, .int .i64 40, .int .i64 56, .int .i64 60, .int .i64 64, .int .i64 70, .int .i64 75, .int .i64 80, .int .i64 88, .int .i64 90, .int .i64 92, .int .i64 120, .int .i64 126]
  have HV := Lib.hid hV
  have HRow := Lib.hid (show Row V w.heap.size 48 spanCells from rv)
  have HB := Lib.hid hbv
  have hzl : w.heap.size < V.heap.size := by omega
  have HO : Hid (Own1 V 3 (.slice none 0 0) [] V.heap.size) := Lib.hid (.inl ⟨rfl, rfl⟩)
  have HIx := Lib.hid idx_spans
  generalize hg : w.heap.size = g at *
  clear hV rv hbv hzv
  go_enter Tryz.func23, Tryz.ntmps23
  go_wp2_with fail
  rw [← HV.out]
  have HG := Lib.hid hg
  clear HV hg
  go_loopw [3, 1] (fun i l wr => ∃ k : Nat, k ≤ 7 ∧ i = .int .i64 k ∧ Hid (Own1 wr 3 l ((upN k).map encZ) V.heap.size) ∧ Hid (Below V.heap.size V wr)) (fun i _ _ => 7 - (RowKit.intOf i).toNat)
  case atStart => exact ⟨0, Nat.zero_le _, rfl, HO, Lib.hid (Below.refl _ _)⟩
  case round =>
    clear HO
    obtain ⟨k, hk, rfl, HO, HB1⟩ := hrel
    by_cases h0 : k < 7
    · obtain ⟨f1, f2, f3⟩ := span_fact k h0
      have hr := HRow.out.below HB1.out hzl
      have q0 := hr.cell_at (k * 2)
      have q1 := hr.cell_at (k * 2 + 1)
      rw [(span_cells k h0).1] at q0
      rw [(span_cells k h0).2] at q1
      have ix := fun W => HIx.out W g k h0
      have d1 : decide ((k : Int) < 7) = true := decide_eq_true (by omega)
      clear hr
      go_wp2_with fail
      clear q0 q1 ix d1
      have HO0 : Hid (Own1 wr 3 u1 ((upN k ++ spanL k 0).map encZ) V.heap.size) := Lib.hid (by rw [show spanL k 0 = [] from rfl, List.append_nil]; exact HO.out)
      have HSp := Lib.hid (fun X (hb : Below V.heap.size V X) => show X.cell? ⟨g, k * 2 + 1, none⟩ = some (.int .i64 (spanLo k + (spanN k : Int) - 1)) by rw [(HRow.out.below hb hzl).cell_at, (span_cells k h0).2])
      clear HO
      go_loopw [4, 1] (fun n l wx => ∃ m : Nat, m ≤ spanN k ∧ n = .int .i64 (spanLo k + (m : Int)) ∧ Hid (Own1 wx 3 l ((upN k ++ spanL k m).map encZ) V.heap.size) ∧ Hid (Below V.heap.size V wx)) (fun n _ _ => spanN k - (RowKit.intOf n - spanLo k).toNat)
      case atStart => exact ⟨0, Nat.zero_le _, by simp, HO0, HB1⟩
      case round =>
        clear HO0 HB1
        obtain ⟨m, hm, rfl, HO, HB1⟩ := hrel
        have q1 := HSp.out _ HB1.out
        have ix := fun W => HIx.out W g k h0
        by_cases h1 : m < spanN k
        · have d2 : decide (spanLo k + (m : Int) ≤ spanLo k + (spanN k : Int) - 1) = true := decide_eq_true (by omega)
          have hlen : ((upN k ++ spanL k m).map encZ).length ≤ 100000 := by
            have := upN_len k hk
            rw [List.length_map, List.length_append]
            unfold spanL
            rw [List.length_map, List.length_range]
            omega
          obtain ⟨s', X2, hr, hS2, hB2⟩ := own1_append 50 (.int .i64 0) 8 Tryz.underlying50 info_intN rfl (by decide) HO.out HB1.out.size (.int .i64 (spanLo k + (m : Int))) rfl hlen
          have HR2 := Lib.hid hr
          have HO2 : Hid (Own1 X2 3 s' ((upN k ++ spanL k (m + 1)).map encZ) V.heap.size) := Lib.hid (by rw [← spanL_succ, ← List.append_assoc, List.map_append]; exact hS2)
          have HB2 := Lib.hid (HB1.out.trans hB2)
          clear hr hS2 hB2 hlen HO HB1
          go_wp2_with (at_builtin; refine Lib.wpList_append_run _ rfl _ _ _ _ rfl _ _ rfl rfl _ _ HR2.out ?_)
          refine ⟨⟨m + 1, h1, by simp; omega, HO2, HB2⟩, ?_⟩
          simp [RowKit.intOf]; omega
        · obtain rfl : m = spanN k := by omega
          have d2 : decide (spanLo k + (spanN k : Int) ≤ spanLo k + (spanN k : Int) - 1) = false := decide_eq_false (by omega)
          have HO2 : Hid (Own1 wr 3 u1 ((upN (k + 1)).map encZ) V.heap.size) := HO
          clear HO
          go_wp2_with fail
          refine ⟨⟨k + 1, h0, by simp, HO2, HB1⟩, ?_⟩
          simp [RowKit.intOf]; omega
    · obtain rfl : k = 7 := by omega
      have d1 : decide (((7 : Nat) : Int) < 7) = false := by decide
      rw [show ((7 : Nat) : Int) = 7 from rfl]
      rw [upN_all] at HO
      go_wp2_with fail
      rcases HO.out with ⟨_, h2⟩ | ⟨g', c, rfl, h2, h3, h4⟩
      · cases h2
      · have HSl := Lib.hid h2
        clear h2 HO
        go_ret
        have hs := HB.out.size
        have hg := HG.out
        exact ⟨g', c, rfl, HSl.out, by omega, HB.out.trans (HB1.out.mono (by omega))⟩
end Go.Proofs.YtllabdmmfohbaaaGreatDoor
