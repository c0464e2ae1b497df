/- The walk of Selectors. -/
import Derived.Test.YtdhapmlgapflbaaGreatDoorPSel
set_option linter.unusedVariables false
set_option linter.unusedSimpArgs false
namespace Go.Proofs.YtdhapmlgapflbaaGreatDoor
open Go Go.RowKit Limb
def mtD : Mt := ⟨[], 0, []⟩
set_option maxHeartbeats 3200000 in
set_option maxRecDepth 100000 in
theorem prim_selectors (w : World) (root : Int) (htab : Lib.TabIs Tryz.prog w "strings.asciiSpace" .u8 Lib.asciiSpaceTab) :
    Calls Tryz.prog 6 #[.int .i64 root] w fun e w' => ∃ va vb, e = .returned (.tuple #[va, vb]) ∧ Own1 w' 9 va (selUp root 10) w.heap.size ∧ Own1 w' 3 vb (numUp root 10) w.heap.size ∧ Below w.heap.size w w' := by
  have HR := Lib.hid (prim_rows w)
  have HTab := Lib.hid htab
  clear htab
  go_enter Tryz.func6, Tryz.ntmps6
  go_wp2_with fail
  refine (HR.out).mono ?_
  rintro e V ⟨rfl, hrow, hb⟩
  (try dsimp only)
  have HRow := Lib.hid hrow
  have HB := Lib.hid hb
  have HTab2 := Lib.hid (tab_below (g := 0) (by kernel_rfl) HTab.out hb)
  have hgV := hrow.lt
  have HIx := Lib.hid (fun (W : World) (k : Nat) (hk : k < 10) => (show SlK V w.heap.size 50 2 10 10 rowCells from ⟨rowCells, hrow, by decide +kernel, by decide +kernel, Nat.le_refl _, by unfold maxLen; omega, List.take_of_length_le (by decide +kernel)⟩).index 47 Tryz.underlying47 size_row W .i64 k hk)
  have HT : Hid (Two V V.heap.size (.slice none 0 0) (selUp root 0) (.slice none 0 0) (numUp root 0)) := Lib.hid ⟨.inl ⟨rfl, rfl⟩, .inl ⟨rfl, rfl⟩, fun g hg => by cases hg⟩
  clear HR HTab hrow hb
  go_wp2_with fail
  generalize hg : w.heap.size = g at *
  have HG := Lib.hid hg
  clear hg
  go_loopw [12, 4, 5] (fun i va vb wr => ∃ k : Nat, k ≤ 10 ∧ i = .int .i64 k ∧ Hid (Two wr V.heap.size va (selUp root k) vb (numUp root k)) ∧ Hid (Below V.heap.size V wr)) (fun i _ _ _ => 10 - (RowKit.intOf i).toNat)
  case atStart => exact ⟨0, Nat.zero_le _, rfl, HT, Lib.hid (Below.refl _ _)⟩
  case round =>
    clear HT
    obtain ⟨k, hk, rfl, HT, HB1⟩ := hrel
    by_cases h0 : k < 10
    · have hr := HRow.out.below HB1.out hgV
      have y0 := hr.cell_at (k * 2)
      have y1 := hr.cell_at (k * 2 + 1)
      rw [(row_cells k h0).1] at y0
      rw [(row_cells k h0).2] at y1
      have ix := fun W => HIx.out W k h0
      have d1 : decide ((k : Int) < 10) = true := decide_eq_true (by omega)
      have hroot := row_root k
      obtain ⟨W1, h1, r1, b1, z1⟩ := alloc_row wr 50 [.int .i64 0, .string ByteArray.empty]
      obtain ⟨W2, hst, r2, ho2⟩ := run_store_row (P := Tryz.prog) (t := 50) [.int .i64 (rowT k).1, bS (rowT k).2] r1 rfl (by simp [Value.oneCell', bS]) size_row
      have c0 := r2.cell_at 0
      have c1 := r2.cell_at 1
      simp only [List.getElem?_cons_zero, List.getElem?_cons_succ] at c0 c1
      have hb2 : Below wr.heap.size wr W2 := b1.trans (ho2.belowB b1.size (fun p hp => by rw [List.mem_singleton.1 hp]; exact Nat.le_refl _))
      have HT2 := Lib.hid (HT.out.below hb2)
      have HB2 := Lib.hid (HB1.out.trans (hb2.mono HB1.out.size))
      have HPar := Lib.hid (prim_parse W2 k (tab_below (g := 0) (by kernel_rfl) HTab2.out (HB1.out.trans (hb2.mono HB1.out.size))))
      rw [h1] at hst
      have HSt := Lib.hid hst
      have HSel := Lib.hid (selUp_succ root k)
      have HNum := Lib.hid (numUp_succ root k)
      have HLen := Lib.hid (mt_len k)
      have HUp := Lib.hid (up_len root k)
      unfold bS at y1 c1 HSt HPar
      clear h1 r1 b1 z1 r2 ho2 hb2 hst hr HB1 HT
      generalize (rowT k).2 = S at *
      generalize (rowT k).1 = rt at *
      generalize mtT k = ms at *
      by_cases hne : rt = root
      · subst hne
        have d2 : (rt != rt) = false := by simp
        have d3 : (rt == rt) = true := by simp
        go_wp2_with (refine wpList_store_run rfl _ _ _ rfl rfl rfl HSt.out ?_)
        refine (HPar.out).mono ?_
        rintro e W3 ⟨v, rfl, hO, hb3⟩
        (try dsimp only)
        rcases hO with ⟨_, e2, _⟩ | ⟨gP, c, rfl, hS, hge, _⟩
        · have := HLen.out.1; omega
        have HT3 : Hid (Two W3 V.heap.size u4 (selUp rt k ++ (ms.take 0).map fun m => bS m.sel) u5 (numUp rt k ++ (ms.take 0).map fun m => Value.int .i64 m.num)) := Lib.hid (by simpa using HT2.out.below hb3)
        have HB3 := Lib.hid (HB2.out.trans (hb3.mono HB2.out.size))
        have HS := Lib.hid hS
        have HNe : Hid (u4.ownBlock ≠ some gP ∧ u5.ownBlock ≠ some gP) := Lib.hid ⟨fun h => by have := (HT2.out.a.own_lt h).1; omega, fun h => by have := (HT2.out.b.own_lt h).1; omega⟩
        obtain ⟨L, hL⟩ : ∃ L, L = ms.length := ⟨_, rfl⟩
        rw [← hL] at HS
        rw [show (ms.length : Nat) = L from hL.symm]
        have HL := Lib.hid hL
        clear hS hge hb3 hL HT2 HB2 HPar HSt y0 y1 c0 c1 ix d1
        go_wp2_with fail
        go_loopw [23, 4, 5] (fun i va vb wx => ∃ q : Nat, q ≤ L ∧ i = .int .i64 q ∧ Hid (Two wx V.heap.size va (selUp rt k ++ (ms.take q).map fun m => bS m.sel) vb (numUp rt k ++ (ms.take q).map fun m => Value.int .i64 m.num)) ∧ Hid (Below V.heap.size V wx) ∧ Hid (SlK wx gP 54 3 L c (mtCells ms)) ∧ Hid (va.ownBlock ≠ some gP ∧ vb.ownBlock ≠ some gP)) (fun i _ _ _ => L - (RowKit.intOf i).toNat)
        case atStart => exact ⟨0, Nat.zero_le _, rfl, HT3, HB3, HS, HNe⟩
        case round =>
          clear HT3 HB3 HS HNe
          obtain ⟨q, hq, rfl, HT, HB2, HS, HNe⟩ := hrel
          by_cases h1 : q < L
          · have hqm : q < ms.length := by have := HL.out; omega
            obtain ⟨m0, m1, m2⟩ := mtCells_at hqm
            have y0 : wr.cell? ⟨gP, q * 3, none⟩ = _ := (HS.out.cell (by omega)).trans m0
            have y1 : wr.cell? ⟨gP, q * 3 + 1, none⟩ = _ := (HS.out.cell (by omega)).trans m1
            have y2 : wr.cell? ⟨gP, q * 3 + 2, none⟩ = _ := (HS.out.cell (by omega)).trans m2
            have ix := fun W => HS.out.index 51 Tryz.underlying51 size_mt W .i64 q h1
            have d1 : decide ((q : Int) < (L : Int)) = true := decide_eq_true (by omega)
            have HTk := Lib.hid (show ms.take (q + 1) = ms.take q ++ [ms.getD q ⟨[], 0, []⟩] by rw [List.take_succ_eq_append_getElem hqm]; simp [List.getD_eq_getElem?_getD, hqm])
            have hqb : q < 1000 := by have := HL.out; have := HLen.out.2; omega
            have hlx : (selUp rt k ++ (ms.take q).map fun m => bS m.sel).length ≤ 100000 := by have := (HUp.out).1; have := HLen.out.2; simp; omega
            have hly : (numUp rt k ++ (ms.take q).map fun m => Value.int .i64 m.num).length ≤ 100000 := by have := (HUp.out).2; have := HLen.out.2; simp; omega
            generalize ms.getD q ⟨[], 0, []⟩ = m at *
            obtain ⟨W1, h1w, r1, b1, z1⟩ := alloc_row wr 54 [.string ByteArray.empty, .int .i64 0, .string ByteArray.empty]
            obtain ⟨W4, hst, r4, ho4⟩ := run_store_row (P := Tryz.prog) (t := 54) [bS m.sel, .int .i64 m.num, bS m.form] r1 rfl (by simp [Value.oneCell', bS]) size_mt
            have hb4 : Below wr.heap.size wr W4 := b1.trans (ho4.belowB b1.size (fun p hp => by rw [List.mem_singleton.1 hp]; exact Nat.le_refl _))
            have hT4 := HT.out.below hb4
            have hP4 : gP < W4.heap.size := Nat.lt_of_lt_of_le HS.out.lt hb4.size
            have hV4 : V.heap.size ≤ W4.heap.size := Nat.le_trans HB2.out.size hb4.size
            obtain ⟨va', X1, hr1, hT5, hB5, hO5, hn5⟩ := hT4.step hV4 m.sel hlx HNe.out.1 hP4
            have hne1 : ∀ p, wr.heap.size ≤ p → p ∉ u4.ownBlock.toList := fun p hp hm => by have := (HT.out.a.own_lt (Option.mem_toList.1 hm)).1; omega
            have r5 := r4.only hO5 (hne1 _ (Nat.le_refl _))
            have hS5 := (HS.out.below hb4).only hO5 (fun hm => HNe.out.1 (Option.mem_toList.1 hm))
            have hV5 : V.heap.size ≤ X1.heap.size := Nat.le_trans hV4 hO5.size
            obtain ⟨vb', X2, hr2, hT6, hB6, hO6, hn6⟩ := hT5.step2 hV5 m.num hly HNe.out.2 (Nat.lt_of_lt_of_le hP4 hO5.size)
            have hS6 := hS5.only hO6 (fun hm => HNe.out.2 (Option.mem_toList.1 hm))
            have c0 := r4.cell_at 0
            have c1 := r5.cell_at 1
            simp only [List.getElem?_cons_zero, List.getElem?_cons_succ] at c0 c1
            have HT6 : Hid (Two X2 V.heap.size va' (selUp rt k ++ (ms.take (q + 1)).map fun m => bS m.sel) vb' (numUp rt k ++ (ms.take (q + 1)).map fun m => Value.int .i64 m.num)) := Lib.hid (by rw [HTk.out, List.map_append, List.map_append, ← List.append_assoc, ← List.append_assoc]; exact hT6)
            have HB6 := Lib.hid (HB2.out.trans ((hb4.mono HB2.out.size).trans (hB5.trans hB6)))
            have HS6 := Lib.hid hS6
            have HNe6 : Hid (va'.ownBlock ≠ some gP ∧ vb'.ownBlock ≠ some gP) := Lib.hid ⟨hn5, hn6⟩
            have HR1 := Lib.hid hr1
            have HR2 := Lib.hid hr2
            rw [h1w] at hst
            have HSt := Lib.hid hst
            unfold bS at y0 y2 c0 HSt
            clear h1w r1 b1 z1 hst r4 ho4 hb4 hT4 hP4 hV4 hr1 hT5 hB5 hO5 hn5 hne1 r5 hS5 hV5 hr2 hT6 hB6 hO6 hn6 hS6 hlx hly m0 m1 m2 HT HS HNe
            go_wp2_with (first
              | (refine wpList_store_run rfl _ _ _ rfl rfl rfl HSt.out ?_)
              | (at_builtin; refine Lib.wpList_append_run _ rfl _ _ _ _ rfl _ _ rfl rfl _ _ HR1.out ?_)
              | (at_builtin; refine Lib.wpList_append_run _ rfl _ _ _ _ rfl _ _ rfl rfl _ _ HR2.out ?_))
            refine ⟨⟨q + 1, h1, by simp, HT6, HB6, HS6, HNe6⟩, ?_⟩
            simp [RowKit.intOf]; omega
          · obtain rfl : q = L := by omega
            have d1 : decide ((q : Int) < (q : Int)) = false := by simp
            have hTk : ms.take q = ms := by rw [HL.out, List.take_length]
            have HT7 : Hid (Two wr V.heap.size u4 (selUp rt (k + 1)) u5 (numUp rt (k + 1))) := Lib.hid (by have := HT.out; rw [hTk] at this; rw [HSel.out, HNum.out]; simp only [if_true]; exact this)
            clear hTk
            go_wp2_with fail
            refine ⟨⟨k + 1, h0, by simp, HT7, HB2⟩, ?_⟩
            simp [RowKit.intOf]; omega
      · have d2 : (rt != root) = true := by rw [bne_iff_ne]; exact hne
        have d3 : (rt == root) = false := by rw [beq_eq_false_iff_ne]; exact hne
        go_wp2_with (refine wpList_store_run rfl _ _ _ rfl rfl rfl HSt.out ?_)
        refine ⟨⟨k + 1, h0, by simp, Lib.hid (by rw [HSel.out, HNum.out, if_neg hne, if_neg hne, List.append_nil, List.append_nil]; exact HT2.out), HB2⟩, ?_⟩
        simp [RowKit.intOf]; omega
    · obtain rfl : k = 10 := by omega
      rw [show ((10 : Nat) : Int) = 10 from rfl]
      have h1 := HB.out
      have hs := h1.size
      have hg := HG.out
      go_wp2_with fail
      go_ret2
      have hmono : ∀ {e : TypeId} {v : Value} {xs : List Value}, Own1 wr e v xs V.heap.size → Own1 wr e v xs g := fun h => h.imp id (fun ⟨g', c, a1, a2, a3, a4⟩ => ⟨g', c, a1, a2, by omega, a4⟩)
      refine ⟨_, _, rfl, ?_, ?_, ?_⟩
      · rw [hg]; exact hmono HT.out.a
      · rw [hg]; exact hmono HT.out.b
      · rw [hg]; exact h1.trans (HB1.out.mono (by omega))
end Go.Proofs.YtdhapmlgapflbaaGreatDoor
