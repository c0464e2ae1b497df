/- The law PrimLists. -/
import Derived.Test.YtdhapmlgapflbaaGreatDoorPRr
set_option linter.unusedVariables false
set_option linter.unusedSimpArgs false
namespace Go.Proofs.YtdhapmlgapflbaaGreatDoor
open Go Go.RowKit Limb
def zerosN (k : Nat) : List Value := (List.replicate k (0 : Int)).map encZ ++ (numsK.drop k).map encZ
theorem zeros_step (k : Nat) (hk : k < 66) : (zerosN k).set k (.int .i64 0) = zerosN (k + 1) ∧ (zerosN k)[k]? = some (.int .i64 (numsK.getD k 0)) ∧ (numsK.map encZ)[k]? = some (.int .i64 (numsK.getD k 0)) := by
  have hl : numsK.length = 66 := by decide +kernel
  have hd : numsK.drop k = numsK.getD k 0 :: numsK.drop (k + 1) := by
    rw [List.drop_eq_getElem_cons (by omega)]
    simp [List.getD_eq_getElem?_getD, show k < numsK.length by omega]
  refine ⟨?_, ?_, ?_⟩
  · unfold zerosN
    rw [hd, List.map_cons, List.set_append_right _ _ (by simp), List.replicate_succ', List.map_append, List.append_assoc]
    simp
  · unfold zerosN
    rw [hd, List.getElem?_append_right (by simp)]
    simp
  · rw [List.getElem?_map]
    simp [List.getD_eq_getElem?_getD, show k < numsK.length by omega]
theorem roots_once (i : Nat) (hi : i < 10) : selUp (rowT i).1 10 = (mtT i).map (fun m => bS m.sel) ∧ numUp (rowT i).1 10 = (mtT i).map fun m => Value.int .i64 m.num := by
  have c : i = 0 ∨ i = 1 ∨ i = 2 ∨ i = 3 ∨ i = 4 ∨ i = 5 ∨ i = 6 ∨ i = 7 ∨ i = 8 ∨ i = 9 := by omega
  rcases c with rfl | rfl | rfl | rfl | rfl | rfl | rfl | rfl | rfl | rfl <;> exact ⟨rfl, rfl⟩
theorem roots_none (root : Int) : ∀ k, (∀ i, i < k → (rowT i).1 ≠ root) → selUp root k = [] ∧ numUp root k = []
  | 0, _ => ⟨rfl, rfl⟩
  | k + 1, h => by
    have ih := roots_none root k (fun i hi => h i (by omega))
    rw [selUp_succ, numUp_succ, ih.1, ih.2, if_neg (h k (by omega)), if_neg (h k (by omega))]
    exact ⟨rfl, rfl⟩
theorem Row.slk {w : World} {g s n : Nat} {e : TypeId} {cs : List Value} (h : Row w g e cs) (hl : cs.length = n * s) (hn : n ≤ 1000) : SlK w g e s n n cs :=
  ⟨cs, h, hl, hl, Nat.le_refl _, by unfold maxLen; omega, List.take_of_length_le (by omega)⟩
theorem size_rw (W : World) : (sizeOf 31).run Tryz.prog W = .ok 2 W := by kernel_rfl
theorem size_en (W : World) : (sizeOf 33).run Tryz.prog W = .ok 3 W := by kernel_rfl
theorem rr_at (w : World) (k : Nat) (hk : k < 10) : (rrCells w)[k * 2]? = some (.int .i64 (rowT k).1) ∧ (rrCells w)[k * 2 + 1]? = some (.slice (some ⟨w.heap.size + k, 0, none⟩) (mtT k).length (mtT k).length) := by
  have c : k = 0 ∨ k = 1 ∨ k = 2 ∨ k = 3 ∨ k = 4 ∨ k = 5 ∨ k = 6 ∨ k = 7 ∨ k = 8 ∨ k = 9 := by omega
  rcases c with rfl | rfl | rfl | rfl | rfl | rfl | rfl | rfl | rfl | rfl <;> exact ⟨rfl, rfl⟩
def entsOf (ms : List Mt) : List Value := ms.flatMap fun m => [bS m.sel, .int .i64 m.num, .int .u8 ((m.form.getD 0 0).toNat : Nat)]
theorem entsOf_at : ∀ {ms : List Mt} {q : Nat} (hq : q < ms.length), (entsOf ms)[q * 3]? = some (bS (ms.getD q ⟨[], 0, []⟩).sel) ∧ (entsOf ms)[q * 3 + 1]? = some (.int .i64 (ms.getD q ⟨[], 0, []⟩).num)
  | [], _, hq => by simp at hq
  | m :: ms, 0, _ => ⟨rfl, rfl⟩
  | m :: ms, q + 1, hq => by
    have ih := entsOf_at (ms := ms) (q := q) (by simpa using hq)
    have e1 : (q + 1) * 3 = q * 3 + 1 + 1 + 1 := by omega
    have e2 : entsOf (m :: ms) = bS m.sel :: .int .i64 m.num :: .int .u8 ((m.form.getD 0 0).toNat : Nat) :: entsOf ms := rfl
    rw [e2, e1]
    simpa using ih
theorem entsOf_len : ∀ ms : List Mt, (entsOf ms).length = ms.length * 3
  | [] => rfl
  | m :: ms => by
    have e2 : entsOf (m :: ms) = bS m.sel :: .int .i64 m.num :: .int .u8 ((m.form.getD 0 0).toNat : Nat) :: entsOf ms := rfl
    rw [e2]; simp only [List.length_cons, entsOf_len ms]; omega
theorem maps_at {ms : List Mt} {q : Nat} (hq : q < ms.length) : (ms.map fun m => bS m.sel)[q]? = some (bS (ms.getD q ⟨[], 0, []⟩).sel) ∧ (ms.map fun m => Value.int .i64 m.num)[q]? = some (.int .i64 (ms.getD q ⟨[], 0, []⟩).num) := by
  simp [List.getElem?_map, List.getD_eq_getElem?_getD, hq]
theorem below_drewN {w w' : World} {B : Nat} (h : Below B w w') (n : Nat) : Below B w (w'.drewN n) := ⟨h.os, h.tape, h.output, h.size, h.block⟩
theorem below_cell {w w' : World} {B g : Nat} (h : Below B w w') (hg : g < B) (i : Nat) : w'.cell? ⟨g, i, none⟩ = w.cell? ⟨g, i, none⟩ := by
  unfold World.cell?; rw [h.block g hg]
set_option maxHeartbeats 6400000 in
set_option maxRecDepth 1000000 in
theorem law_lists (w : World) (root : Int) (hr1 : -9223372036854775808 ≤ root) (hr2 : root ≤ 9223372036854775807) (htab : Lib.TabIs Tryz.prog w "strings.asciiSpace" .u8 Lib.asciiSpaceTab) :
    Calls Tryz.prog 3 #[.int .i64 root] w fun e w' => e = .returned (.bool true) ∧ Below w.heap.size w w' := by
  have HN := Lib.hid prim_numbers
  have HRN := Lib.hid ref_numbers
  have HTab := Lib.hid htab
  clear htab
  go_enter Tryz.func3, Tryz.ntmps3
  go_wp2_with fail
  refine (HN.out _).mono ?_
  rintro e W1 ⟨g1, c1, rfl, hs1, hg1, hb1⟩
  (try dsimp only)
  have HS1 := Lib.hid hs1
  have HB1 := Lib.hid hb1
  clear hs1 hb1
  go_wp2_with fail
  refine (HRN.out _).mono ?_
  rintro e W2 ⟨g2, c2, rfl, hs2, hg2, hb2⟩
  (try dsimp only)
  have hlt1 := HS1.out.lt
  have hlt2 := hs2.lt
  have HG1 := Lib.hid hg1
  have HS12 : Hid (Sl W2 g1 3 66 c1 (zerosN 0)) := Lib.hid (HS1.out.below hb2)
  have HS2 := Lib.hid hs2
  have HB2 := Lib.hid (HB1.out.trans (hb2.mono HB1.out.size))
  have hne : g1 ≠ g2 := by omega
  clear hs2 hb2 HS1 HB1
  go_wp2_with fail
  go_loopw [5] (fun i wr => ∃ k : Nat, k ≤ 66 ∧ i = .int .i64 k ∧ Hid (Sl wr g1 3 66 c1 (zerosN k)) ∧ Hid (Sl wr g2 3 66 c2 (numsK.map encZ)) ∧ Hid (Below w.heap.size w wr)) (fun i _ => 66 - (RowKit.intOf i).toNat)
  case atStart => exact ⟨0, Nat.zero_le _, rfl, HS12, HS2, HB2⟩
  case round =>
    clear HS12 HS2 HB2
    obtain ⟨k, hk, rfl, HS1, HS2, HB⟩ := hrel
    by_cases h0 : k < 66
    · obtain ⟨z1, z2, z3⟩ := zeros_step k h0
      have y1 := (HS1.out.cell h0).trans z2
      have y2 := (HS2.out.cell h0).trans z3
      have f1 := HS1.out.free k
      have ix1 := fun W => HS1.out.index 22 Tryz.underlying22 size_int W .i64 k h0
      have ix2 := fun W => HS2.out.index 22 Tryz.underlying22 size_int W .i64 k h0
      have d1 : decide ((k : Int) < 66) = true := decide_eq_true (by omega)
      have HZ := Lib.hid z1
      clear z1 z2 z3
      generalize numsK.getD k 0 = nk at *
      go_wp2_with fail
      go_quiet (fail)
      go_wp2_with fail
      refine ⟨⟨k + 1, h0, by simp, Lib.hid (by rw [← HZ.out]; exact HS1.out.store h0 _), Lib.hid (HS2.out.other (fun e => hne e.symm) _), Lib.hid ((below_drewN HB.out nq).setCell (p := ⟨g1, k, none⟩) HG1.out _)⟩, ?_⟩
      simp [RowKit.intOf]; omega
    · obtain rfl : k = 66 := by omega
      rw [show ((66 : Nat) : Int) = 66 from rfl]
      have HTab1 := Lib.hid (tab_below (g := 0) (by kernel_rfl) HTab.out HB.out)
      clear HS1 HS2 HTab
      go_wp2_with fail
      go_wp2_with fail
      refine (HN.out _).mono ?_
      rintro e W3 ⟨g3, c3, rfl, hs3, hg3, hb3⟩
      (try dsimp only)
      have HS3 := Lib.hid hs3
      have HB3 := Lib.hid (HB.out.trans (hb3.mono HB.out.size))
      have HSel := Lib.hid (prim_selectors W3 root (tab_below (g := 0) (by kernel_rfl) HTab1.out hb3))
      clear hs3 hb3 HB HTab1
      go_wp2_with fail
      refine (HSel.out).mono ?_
      rintro e W4 ⟨va, vb, rfl, ha4, hb4', hb4⟩
      (try dsimp only)
      have HS4 := Lib.hid (HS3.out.below hb4)
      have HA4 := Lib.hid ha4
      have HB4' := Lib.hid hb4'
      have HB4 := Lib.hid (HB3.out.trans (hb4.mono HB3.out.size))
      have HRef := Lib.hid (ref_rows W4)
      clear ha4 hb4' hb4 HSel HS3 HB3
      go_wp2_with fail
      go_wp2_with fail
      refine (HRef.out).mono ?_
      rintro e W5 ⟨rfl, hrr⟩
      (try dsimp only)
      have HS5 := Lib.hid (HS4.out.below hrr.below)
      have HA5 := Lib.hid (HA4.out.below hrr.below)
      have HB5' := Lib.hid (HB4'.out.below hrr.below)
      have HB5 := Lib.hid (HB4.out.trans (hrr.below.mono HB4.out.size))
      have HRR := Lib.hid hrr
      clear hrr HS4 HA4 HB4' HB4 HRef HN HRN
      obtain ⟨gR, hgR⟩ : ∃ g, g = W4.heap.size + 10 := ⟨_, rfl⟩
      rw [← hgR]
      have HGR := Lib.hid hgR
      clear hgR
      go_wp2_with fail
      have HRow : Hid (Row W5 gR 31 (rrCells W4)) := Lib.hid (by rw [HGR.out]; exact HRR.out.rows)
      have HE0 := Lib.hid HRR.out.ents
      clear HGR HRR
      go_loopw [10] (fun i wq => ∃ k : Nat, k ≤ 10 ∧ i = .int .i64 k ∧ Hid (∀ i, i < k → (rowT i).1 ≠ root) ∧ Hid (Below W5.heap.size W5 wq)) (fun i _ => 10 - (RowKit.intOf i).toNat)
      case atStart => exact ⟨0, Nat.zero_le _, rfl, Lib.hid (fun i h => by omega), Lib.hid (Below.refl _ _)⟩
      case round =>
        obtain ⟨k, hk, rfl, HNo, HB6⟩ := hrel
        by_cases h0 : k < 10
        · have hr := HRow.out.below HB6.out HRow.out.lt
          have y0 := (hr.cell_at (k * 2)).trans (rr_at W4 k h0).1
          have y1 := (hr.cell_at (k * 2 + 1)).trans (rr_at W4 k h0).2
          have ix := fun W => (hr.slk (s := 2) (n := 10) rfl (by omega)).index 27 Tryz.underlying27 size_rw W .i64 k h0
          have he := (HE0.out k h0).below HB6.out (HE0.out k h0).lt
          have d1 : decide ((k : Int) < 10) = true := decide_eq_true (by omega)
          have hro := roots_once k h0
          have hml := mt_len k
          obtain ⟨gE, hgE⟩ : ∃ g, g = W4.heap.size + k := ⟨_, rfl⟩
          rw [← hgE] at y1 he
          have HE : Hid (Row _ gE 33 (entsOf (mtT k))) := Lib.hid he
          have HNx : Hid ((rowT k).1 ≠ root → ∀ i, i < k + 1 → (rowT i).1 ≠ root) := Lib.hid (fun hne i hi => by
            rcases Nat.lt_or_ge i k with h | h
            · exact HNo.out i h
            · have : i = k := by omega
              rw [this]; exact hne)
          have HLt := Lib.hid hr.lt
          clear hr he hgE HNo
          generalize (rowT k).1 = rt at *
          generalize mtT k = ms at *
          by_cases hne : rt = root
          · subst hne
            have d2 : (rt != rt) = false := by simp
            have ha := HA5.out
            have hb := HB5'.out
            rw [hro.1] at ha
            rw [hro.2] at hb
            unfold Own1 at ha hb
            rw [List.length_map] at ha hb
            rcases ha with ⟨_, e1⟩ | ⟨gA, cA, rfl, hsa, _, _⟩
            · have := congrArg List.length e1; simp at this; rw [this] at hml; exact absurd hml.1 (by simp)
            rcases hb with ⟨_, e1⟩ | ⟨gB, cB, rfl, hsb, _, _⟩
            · have := congrArg List.length e1; simp at this; rw [this] at hml; exact absurd hml.1 (by simp)
            have HSA := Lib.hid (hsa.below HB6.out)
            have HSB := Lib.hid (hsb.below HB6.out)
            have HS6 := Lib.hid (HS5.out.below HB6.out)
            have z0 : wr.cell? ⟨g3, 0, none⟩ = some (.int .i64 1) := HS6.out.cell (by omega)
            have HZ0 := Lib.hid (fun (W : World) (h : Below wr.heap.size wr W) => below_cell h HS6.out.lt 0)
            have ix3 := fun W => HS6.out.index 22 Tryz.underlying22 size_int W .i64 0 (by omega)
            simp only [show ((0 : Nat) : Int) = 0 from rfl] at ix3
            clear hsa hsb hro HA5 HB5' HS5 HS6 HE0 HNx
            obtain ⟨L, hL⟩ : ∃ L, L = ms.length := ⟨_, rfl⟩
            rw [← hL] at HSA HSB y1
            rw [show (ms.length : Nat) = L from hL.symm]
            have HL := Lib.hid hL
            have d4 : ((L : Int) != (L : Int)) = false := by simp
            have HY := Lib.hid y1
            clear hL
            go_wp2_with fail
            clear y0 y1 d2 d4 d1
            obtain ⟨X6, rfl⟩ : ∃ X, X = wr := ⟨_, rfl⟩
            go_loopw [11] (fun i wq => ∃ q : Nat, q ≤ L ∧ i = .int .i64 q ∧ Hid (Below X6.heap.size X6 wq)) (fun i _ => L - (RowKit.intOf i).toNat)
            case atStart => exact ⟨0, Nat.zero_le _, rfl, Lib.hid (Below.refl _ _)⟩
            case round =>
              obtain ⟨q, hq, rfl, HQ⟩ := hrel
              by_cases h1 : q < L
              · have hqm : q < ms.length := by have := HL.out; omega
                have y1 := (below_cell HQ.out HLt.out (k * 2 + 1)).trans HY.out
                have a0 := ((HSA.out.below HQ.out).cell h1).trans (maps_at hqm).1
                have b0 := ((HSB.out.below HQ.out).cell h1).trans (maps_at hqm).2
                have c0 := ((HE.out.below HQ.out HE.out.lt).cell_at (q * 3)).trans (entsOf_at hqm).1
                have c1 := ((HE.out.below HQ.out HE.out.lt).cell_at (q * 3 + 1)).trans (entsOf_at hqm).2
                have ixA := fun W => HSA.out.index 24 Tryz.underlying24 size_str W .i64 q h1
                have ixB := fun W => HSB.out.index 22 Tryz.underlying22 size_int W .i64 q h1
                have ixE := fun W => (HE.out.slk (s := 3) (n := L) (by rw [entsOf_len, HL.out]) (by have := HL.out; omega)).index 29 Tryz.underlying29 size_en W .i64 q h1
                have d1 : decide ((q : Int) < (L : Int)) = true := decide_eq_true (by omega)
                unfold bS at a0 c0
                generalize ms.getD q ⟨[], 0, []⟩ = m at *
                generalize hS : (ByteArray.mk m.sel.toArray) = S at *
                generalize m.num = nm at *
                clear hS
                have d6 : (nm != nm) = false := by simp
                go_wp2_with fail
                go_quiet (fail)
                go_wp2_with fail
                refine ⟨⟨q + 1, h1, by simp, Lib.hid (below_drewN HQ.out nq)⟩, ?_⟩
                simp [RowKit.intOf]; omega
              · obtain rfl : q = L := by omega
                have d1 : decide ((q : Int) < (q : Int)) = false := by simp
                have z1 := (HZ0.out wr HQ.out).trans z0
                have B6 := HQ.out
                have B7 := HB6.out
                have B8 := HB5.out
                go_wp2_with fail
                go_ret
                refine ⟨rfl, ?_⟩
                exact B8.trans ((B7.trans (B6.mono B7.size)).mono B8.size)
          · have d2 : (rt != root) = true := by rw [bne_iff_ne]; exact hne
            go_wp2_with fail
            refine ⟨⟨k + 1, h0, by simp, Lib.hid (HNx.out hne), HB6⟩, ?_⟩
            simp [RowKit.intOf]; omega
        · obtain rfl : k = 10 := by omega
          rw [show ((10 : Nat) : Int) = 10 from rfl]
          have hno := roots_none root 10 HNo.out
          have ha := HA5.out
          have hb := HB5'.out
          rw [hno.1] at ha
          rw [hno.2] at hb
          unfold Own1 at ha hb
          rcases ha with ⟨rfl, _⟩ | ⟨_, _, _, _, _, h⟩
          · rcases hb with ⟨rfl, _⟩ | ⟨_, _, _, _, _, h⟩
            · have HS6 := Lib.hid (HS5.out.below HB6.out)
              have z0 : wr.cell? ⟨g3, 0, none⟩ = some (.int .i64 1) := HS6.out.cell (by omega)
              have ix3 := fun W => HS6.out.index 22 Tryz.underlying22 size_int W .i64 0 (by omega)
              simp only [show ((0 : Nat) : Int) = 0 from rfl] at ix3
              clear HS6
              go_wp2_with fail
              go_ret
              exact ⟨rfl, HB5.out.trans (HB6.out.mono HB5.out.size)⟩
            · simp at h
          · simp at h
end Go.Proofs.YtdhapmlgapflbaaGreatDoor
