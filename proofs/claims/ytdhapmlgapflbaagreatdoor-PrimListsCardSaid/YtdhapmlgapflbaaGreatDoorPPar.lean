/- The methods of a row: package prim's parse. -/
import Derived.Test.YtdhapmlgapflbaaGreatDoorPRow
import Derived.Test.YtdhapmlgapflbaaGreatDoorShelf
import Derived.Lib.SmallJoins
import Derived.IntWalk
set_option linter.unusedVariables false
set_option linter.unusedSimpArgs false
namespace Go.Proofs.YtdhapmlgapflbaaGreatDoor
open Go Go.RowKit Limb
/-- What a row's words are. -/
def parseOk (fl : List (List UInt8)) (ms : List Mt) : Bool :=
  decide (fl.length = 3 * ms.length) && (List.range ms.length).all fun j =>
    fl.getD (3 * j) [] == (ms.getD j ⟨[], 0, []⟩).sel && decide (Lib.atoi (fl.getD (3 * j + 1) []) = some (ms.getD j ⟨[], 0, []⟩).num) && decide ((fl.getD (3 * j + 1) []).length ≤ 18) && decide ((fl.getD (3 * j + 2) []).length ≤ 100) && Lib.trimSuffix (fl.getD (3 * j + 2) []) [44] == (ms.getD j ⟨[], 0, []⟩).form
theorem rows_ok (i : Nat) : parseOk (Lib.fields (rowT i).2) (mtT i) = true := by
  match i with
  | 0 => decide +kernel
  | 1 => decide +kernel
  | 2 => decide +kernel
  | 3 => decide +kernel
  | 4 => decide +kernel
  | 5 => decide +kernel
  | 6 => decide +kernel
  | 7 => decide +kernel
  | 8 => decide +kernel
  | i + 9 => show parseOk (Lib.fields (rowT 9).2) (mtT 9) = true; decide +kernel
theorem rows_ascii (i : Nat) : ((rowT i).2.all fun b => decide (b.toNat < 128)) = true ∧ (rowT i).2.length ≤ 1000 ∧ (mtT i).length ≤ 30 := by
  match i with
  | 0 => decide +kernel
  | 1 => decide +kernel
  | 2 => decide +kernel
  | 3 => decide +kernel
  | 4 => decide +kernel
  | 5 => decide +kernel
  | 6 => decide +kernel
  | 7 => decide +kernel
  | 8 => decide +kernel
  | i + 9 => show ((rowT 9).2.all fun b => decide (b.toNat < 128)) = true ∧ (rowT 9).2.length ≤ 1000 ∧ (mtT 9).length ≤ 30; decide +kernel
def mtCells (ms : List Mt) : List Value := ms.flatMap fun m => [bS m.sel, .int .i64 m.num, bS m.form]
theorem mtCells_succ {ms : List Mt} {j : Nat} (hj : j < ms.length) : mtCells (ms.take j) ++ [bS (ms.getD j ⟨[], 0, []⟩).sel, .int .i64 (ms.getD j ⟨[], 0, []⟩).num, bS (ms.getD j ⟨[], 0, []⟩).form] = mtCells (ms.take (j + 1)) := by
  unfold mtCells
  rw [List.take_succ_eq_append_getElem hj, List.flatMap_append]
  simp [List.getD_eq_getElem?_getD, hj]
theorem parse_parts {fl : List (List UInt8)} {ms : List Mt} (h : parseOk fl ms = true) : fl.length = 3 * ms.length ∧ ∀ j, j < ms.length → fl.getD (3 * j) [] = (ms.getD j ⟨[], 0, []⟩).sel ∧ Lib.atoi (fl.getD (3 * j + 1) []) = some (ms.getD j ⟨[], 0, []⟩).num ∧ (fl.getD (3 * j + 1) []).length ≤ 18 ∧ (fl.getD (3 * j + 2) []).length ≤ 100 ∧ Lib.trimSuffix (fl.getD (3 * j + 2) []) [44] = (ms.getD j ⟨[], 0, []⟩).form := by
  unfold parseOk at h
  simp only [Bool.and_eq_true, decide_eq_true_eq, List.all_eq_true, beq_iff_eq, List.mem_range] at h
  exact ⟨h.1, fun j hj => ⟨(h.2 j hj).1.1.1.1, (h.2 j hj).1.1.1.2, (h.2 j hj).1.1.2, (h.2 j hj).1.2, (h.2 j hj).2⟩⟩
theorem size_str (W : World) : (sizeOf 9).run Tryz.prog W = .ok 1 W := by kernel_rfl
theorem tab_below {n : String} {g : Nat} {k : IntKind} {zs : List Int} {w w' : World} (hg : Tryz.prog.globalNamed n = some g) (h : Lib.TabIs Tryz.prog w n k zs) (hb : Below w.heap.size w w') : Lib.TabIs Tryz.prog w' n k zs := by
  unfold Lib.TabIs World.var? at h ⊢
  rw [hg] at h ⊢
  simp only [Option.bind_some] at h ⊢
  have hlt : g < w.heap.size := by
    rcases Nat.lt_or_ge g w.heap.size with h' | h'
    · exact h'
    · rw [Array.getElem?_eq_none h'] at h; cases h
  rw [hb.block g hlt]
  exact h
theorem str_at {W : World} {g : Nat} {fl : List (List UInt8)} (hr : Row W g 9 (fl.map fun l => Value.string ⟨l.toArray⟩)) {k : Nat} (hk : k < fl.length) : W.cell? ⟨g, k, none⟩ = some (bS (fl.getD k [])) := by
  rw [hr.cell_at, List.getElem?_map, List.getElem?_eq_getElem hk]
  simp [bS, List.getD_eq_getElem?_getD, hk]
theorem idx_str (W : World) (g L : Nat) (k : Int) (h0 : 0 ≤ k) (hk : k < L) : (Instr.indexAt 24 (.slice (some ⟨g, 0, none⟩) L L) (.int .i64 k)).run Tryz.prog W = .ok (.pointer (some ⟨g, k.toNat, none⟩)) W := by
  simp [Instr.indexAt, run_underlying Tryz.underlying24, asIntOf, h0, hk, size_str, Result.andThen, Addr.add]
  intro h
  omega
theorem info_mt : (Tryz.prog.info? 54).map (fun i => (i.zero, i.size, i.bytes)) = some (some (.agg #[.string ByteArray.empty, .int .i64 0, .string ByteArray.empty]), 3, 40) := by kernel_rfl
set_option maxHeartbeats 3200000 in
set_option maxRecDepth 100000 in
theorem prim_parse (w : World) (i : Nat) (htab : Lib.TabIs Tryz.prog w "strings.asciiSpace" .u8 Lib.asciiSpaceTab) :
    Calls Tryz.prog 12 #[.agg #[.int .i64 (rowT i).1, bS (rowT i).2]] w fun e w' => ∃ v, e = .returned v ∧ OwnK w' 54 3 v (mtT i).length (mtCells (mtT i)) w.heap.size ∧ Below w.heap.size w w' := by
  obtain ⟨ha, hl, hml⟩ := rows_ascii i
  obtain ⟨hfl, hfs⟩ := parse_parts (rows_ok i)
  generalize mtT i = ms at *
  generalize (rowT i).2 = S at *
  generalize (rowT i).1 = rt at *
  obtain ⟨W0, h0, r0, b0, z0⟩ := alloc_row w 50 [.int .i64 rt, bS S]
  have c1 := r0.cell_at 1
  simp only [List.getElem?_cons_zero, List.getElem?_cons_succ] at c1
  unfold bS at h0 c1
  have hF := Tryz.strings_Fields_laid ⟨S.toArray⟩ W0 (by show S.toArray.size < _; simp; omega) (fun j b hb => by
    have := List.all_eq_true.1 ha b (List.mem_of_getElem? hb)
    simpa using this) (tab_below (g := 0) (by kernel_rfl) htab b0)
  have HF := Lib.hid hF
  have HB0 := Lib.hid b0
  have H0 := Lib.hid h0
  have HZ0 := Lib.hid z0
  have HFL := Lib.hid hfl
  have HFS := Lib.hid hfs
  clear htab ha hF b0 z0 r0 hfl hfs hl
  unfold bS
  go_enter Tryz.func12, Tryz.ntmps12
  go_wp2_with fail
  rw [← H0.out]
  refine (HF.out).mono ?_
  rintro e V ⟨rfl, hV⟩
  (try dsimp only)
  have hbV : Below W0.heap.size W0 V := by rw [hV]; exact (Below.refl _ _).alloc (Nat.le_refl _) _
  have hrV : Row V W0.heap.size 9 ((Lib.fields S).map fun l => Value.string ⟨l.toArray⟩) := by rw [hV]; unfold Row; exact heap_alloc_new _ _
  have HZ := Lib.hid (show W0.heap.size < V.heap.size by rw [hV, World.size_alloc]; omega)
  have HBV := Lib.hid (HB0.out.trans (hbV.mono HB0.out.size))
  have HR := Lib.hid hrV
  clear hV hbV hrV HF HB0 H0 c1
  generalize Lib.fields S = fl at *
  generalize W0.heap.size = gw at *
  obtain ⟨L, hL⟩ : ∃ L, L = fl.length := ⟨_, rfl⟩
  rw [show (fl.length : Nat) = L from hL.symm]
  have HL := Lib.hid hL
  have HO : Hid (OwnK V 54 3 (.slice none 0 0) 0 (mtCells (ms.take 0)) V.heap.size) := Lib.hid (.inl ⟨rfl, rfl, rfl⟩)
  clear hL
  go_wp2_with fail
  go_loopw [5, 3] (fun i l wr => ∃ j p : Nat, j ≤ ms.length ∧ Hid (p = 3 * j) ∧ i = .int .i64 p ∧ Hid (OwnK wr 54 3 l j (mtCells (ms.take j)) V.heap.size) ∧ Hid (Below V.heap.size V wr)) (fun i _ _ => 3 * ms.length - (RowKit.intOf i).toNat)
  case atStart => exact ⟨0, 0, Nat.zero_le _, Lib.hid rfl, rfl, HO, Lib.hid (Below.refl _ _)⟩
  case round =>
    clear HO
    obtain ⟨j, p, hj, HP, rfl, HO, HB1⟩ := hrel
    by_cases h0 : j < ms.length
    · obtain ⟨e1, e2, e3, e4, e5⟩ := HFS.out j h0
      have hp := HP.out
      have hLl := HL.out
      have hFl := HFL.out
      have hMs := Lib.hid (mtCells_succ h0)
      have hrow := HR.out.below HB1.out HZ.out
      have cx0 : wr.cell? ⟨gw, p, none⟩ = some (bS (fl.getD (3 * j) [])) := by rw [hp]; exact str_at hrow (by omega)
      have cx1 : wr.cell? ⟨gw, p + 1, none⟩ = some (bS (fl.getD (3 * j + 1) [])) := by rw [hp]; exact str_at hrow (by omega)
      have hc2 : ∀ X, Below V.heap.size V X → X.cell? ⟨gw, p, none⟩ = some (bS (fl.getD (3 * j) [])) ∧ X.cell? ⟨gw, p + 2, none⟩ = some (bS (fl.getD (3 * j + 2) [])) := fun X hb => by
        have hr := HR.out.below hb HZ.out
        rw [hp]
        exact ⟨str_at hr (by omega), str_at hr (by omega)⟩
      have hpl : p + 2 < L := by omega
      have ix0 : ∀ W, (Instr.indexAt 24 (.slice (some ⟨gw, 0, none⟩) L L) (.int .i64 p)).run Tryz.prog W = .ok (.pointer (some ⟨gw, p, none⟩)) W := fun W => idx_str W gw L p (by omega) (by omega)
      have ix1 : ∀ W, (Instr.indexAt 24 (.slice (some ⟨gw, 0, none⟩) L L) (.int .i64 ((p : Int) + 1))).run Tryz.prog W = .ok (.pointer (some ⟨gw, p + 1, none⟩)) W := fun W => idx_str W gw L ((p : Int) + 1) (by omega) (by omega)
      have ix2 : ∀ W, (Instr.indexAt 24 (.slice (some ⟨gw, 0, none⟩) L L) (.int .i64 ((p : Int) + 2))).run Tryz.prog W = .ok (.pointer (some ⟨gw, p + 2, none⟩)) W := fun W => idx_str W gw L ((p : Int) + 2) (by omega) (by omega)
      have d1 : decide ((p : Int) + 2 < (L : Int)) = true := decide_eq_true (by omega)
      have hpb : p + 3 ≤ 1000 := by omega
      have hjn : j ≤ 100000 := by omega
      have hA := fun W => Tryz.strconv_Atoi ⟨(fl.getD (3 * j + 1) []).toArray⟩ (ms.getD j ⟨[], 0, []⟩).num (by show (fl.getD (3 * j + 1) []).toArray.size ≤ 18; simpa using e3) (by simpa using e2) W
      have hT := fun W => Tryz.strings_TrimSuffix ⟨(fl.getD (3 * j + 2) []).toArray⟩ ⟨#[44]⟩ W (by show (fl.getD (3 * j + 2) []).toArray.size ≤ _; simp only [List.size_toArray]; omega)
      rw [show Lib.trimSuffix (ByteArray.mk (fl.getD (3 * j + 2) []).toArray).data.toList (ByteArray.mk #[44]).data.toList = (ms.getD j ⟨[], 0, []⟩).form by simpa using e5] at hT
      rw [e1] at cx0 hc2
      have HA := Lib.hid hA
      have HT := Lib.hid hT
      have HC2 := Lib.hid hc2
      have HML := Lib.hid hml
      unfold bS at cx0 cx1 HC2 hMs
      generalize fl.getD (3 * j + 1) [] = s1 at *
      generalize fl.getD (3 * j + 2) [] = s2 at *
      generalize ms.getD j ⟨[], 0, []⟩ = mt at *
      clear e1 e2 e3 e4 e5 hp hLl hFl hrow hc2 hA hT hml
      go_wp2_with fail
      refine (HA.out _).mono ?_
      rintro e W ⟨rfl, tt, hW⟩
      (try dsimp only)
      have hb : Below wr.heap.size wr W := by rw [hW]; exact Joins.below_bytesWorld _ _ _ _ (Nat.le_refl _)
      have HB2 := Lib.hid (HB1.out.trans (hb.mono HB1.out.size))
      have HO2 := Lib.hid (HO.out.below hb)
      obtain ⟨y0, y2⟩ := HC2.out W HB2.out
      clear hb hW cx0 cx1 HA HO HB1
      go_wp2_with fail
      have hp0 : (0 : Int) ≤ (p : Int) + 2 := by omega
      have hp1 : (p : Int) + 2 < (L : Int) := by omega
      have hp2 : ((p : Int) + 2).toNat = p + 2 := by omega
      have hpw : IntKind.i64.wrap ((p : Int) + 2) = (p : Int) + 2 := IntWalk.i64_in _ (by omega)
      have hX : Below V.heap.size V W.drew := HB2.out.drew
      refine wp_region_held (S := fun X => Below V.heap.size V X) (by kernel_rfl) ?_
      refine wpAnyH_take_at (i := 0) (v := u3) 27 rfl rfl (by kernel_rfl) (by kernel_rfl) (by kernel_rfl) (fun _ _ _ h => h) (.inl ⟨rfl, fun X hX => by go_simp⟩) hX ?_
      simp only [Act.put, List.setIfInBounds_toArray, List.set_cons_zero, List.set_cons_succ]
      refine wpAnyH_take_at (i := 1) (v := .slice (some ⟨gw, 0, none⟩) L L) 28 rfl rfl (by kernel_rfl) (by kernel_rfl) (by kernel_rfl) (fun _ _ _ h => h) (.inl ⟨rfl, fun X hX => by go_simp⟩) hX ?_
      simp only [Act.put, List.setIfInBounds_toArray, List.set_cons_zero, List.set_cons_succ]
      refine wpAnyH_take_at (i := 2) (v := .int .i64 p) 29 rfl rfl (by kernel_rfl) (by kernel_rfl) (by kernel_rfl) (fun _ _ _ h => h) (.inl ⟨rfl, fun X hX => by go_simp⟩) hX ?_
      simp only [Act.put, List.setIfInBounds_toArray, List.set_cons_zero, List.set_cons_succ]
      refine wpAnyH_take_at (i := 3) (v := .pointer (some ⟨gw, p, none⟩)) 30 rfl rfl (by kernel_rfl) (by kernel_rfl) (by kernel_rfl) (fun _ _ _ h => h) (.inl ⟨rfl, fun X hX => by go_simp⟩) hX ?_
      simp only [Act.put, List.setIfInBounds_toArray, List.set_cons_zero, List.set_cons_succ]
      refine wpAnyH_take_at (i := 4) (v := .string ⟨mt.sel.toArray⟩) 31 rfl rfl (by kernel_rfl) (by kernel_rfl) (by kernel_rfl) (fun _ _ _ h => h) (.inl ⟨rfl, fun X hX => by obtain ⟨y0, y2⟩ := HC2.out X hX; go_simp⟩) hX ?_
      simp only [Act.put, List.setIfInBounds_toArray, List.set_cons_zero, List.set_cons_succ]
      refine wpAnyH_take_at (i := 5) (v := .int .i64 mt.num) 32 rfl rfl (by kernel_rfl) (by kernel_rfl) (by kernel_rfl) (fun _ _ _ h => h) (.inl ⟨rfl, fun X hX => by go_simp⟩) hX ?_
      simp only [Act.put, List.setIfInBounds_toArray, List.set_cons_zero, List.set_cons_succ]
      refine wpAnyH_take_at (i := 6) (v := .slice (some ⟨gw, 0, none⟩) L L) 33 rfl rfl (by kernel_rfl) (by kernel_rfl) (by kernel_rfl) (fun _ _ _ h => h) (.inl ⟨rfl, fun X hX => by go_simp⟩) hX ?_
      simp only [Act.put, List.setIfInBounds_toArray, List.set_cons_zero, List.set_cons_succ]
      refine wpAnyH_take_at (i := 7) (v := .int .i64 p) 34 rfl rfl (by kernel_rfl) (by kernel_rfl) (by kernel_rfl) (fun _ _ _ h => h) (.inl ⟨rfl, fun X hX => by go_simp⟩) hX ?_
      simp only [Act.put, List.setIfInBounds_toArray, List.set_cons_zero, List.set_cons_succ]
      refine wpAnyH_take_at (i := 8) (v := .int .i64 ((p : Int) + 2)) 35 rfl rfl (by kernel_rfl) (by kernel_rfl) (by kernel_rfl) (fun _ _ _ h => h) (.inl ⟨rfl, fun X hX => by go_simp⟩) hX ?_
      simp only [Act.put, List.setIfInBounds_toArray, List.set_cons_zero, List.set_cons_succ]
      refine wpAnyH_take_at (i := 9) (v := .pointer (some ⟨gw, p + 2, none⟩)) 36 rfl rfl (by kernel_rfl) (by kernel_rfl) (by kernel_rfl) (fun _ _ _ h => h) (.inl ⟨rfl, fun X hX => by go_simp⟩) hX ?_
      simp only [Act.put, List.setIfInBounds_toArray, List.set_cons_zero, List.set_cons_succ]
      refine wpAnyH_take_at (i := 10) (v := .string ⟨s2.toArray⟩) 37 rfl rfl (by kernel_rfl) (by kernel_rfl) (by kernel_rfl) (fun _ _ _ h => h) (.inl ⟨rfl, fun X hX => by obtain ⟨y0, y2⟩ := HC2.out X hX; go_simp⟩) hX ?_
      simp only [Act.put, List.setIfInBounds_toArray, List.set_cons_zero, List.set_cons_succ]
      refine wpAnyH_all (rs := [11]) (by kernel_rfl) (by decide) (fun i hi => ?_)
      rw [List.mem_singleton] at hi
      subst hi
      unfold wpOp
      go_simp
      refine .inl ((HT.out _).mono ?_)
      rintro e X1 ⟨rfl, rfl⟩
      refine ⟨hX, ?_⟩
      (try simp only [Act.put, List.setIfInBounds_toArray, List.set_cons_zero, List.set_cons_succ])
      refine wpAnyH_take_at (i := 12) (v := .agg #[.string ⟨mt.sel.toArray⟩, .int .i64 mt.num, .string ⟨mt.form.toArray⟩]) 39 rfl rfl (by kernel_rfl) (by kernel_rfl) (by kernel_rfl) (fun _ _ _ h => h) (.inl ⟨rfl, fun X hX => by go_simp⟩) hX ?_
      simp only [Act.put, List.setIfInBounds_toArray, List.set_cons_zero, List.set_cons_succ]
      refine wpAnyH_all (rs := [13]) (by kernel_rfl) (by decide) (fun i hi => ?_)
      rw [List.mem_singleton] at hi
      subst hi
      obtain ⟨v', X2, hr, hO3, hb3⟩ := ownk_append 51 (.agg #[.string ByteArray.empty, .int .i64 0, .string ByteArray.empty]) 40 Tryz.underlying51 info_mt rfl (by decide) (by decide) (X := W.drew) (show OwnK W.drew 54 3 u3 j (mtCells (ms.take j)) V.heap.size from HO2.out) HB2.out.size [.string ⟨mt.sel.toArray⟩, .int .i64 mt.num, .string ⟨mt.form.toArray⟩] rfl (by simp [Value.oneCell']) hjn
      have HR3 := Lib.hid hr
      have HO3 := Lib.hid hO3
      have HB3 := Lib.hid (HB2.out.drew.trans hb3)
      have hXa : Below V.heap.size V (W.drew.alloc (.cells #[.string ⟨mt.sel.toArray⟩, .int .i64 mt.num, .string ⟨mt.form.toArray⟩] 54)) := HB2.out.drew.alloc HB2.out.size _
      clear hr hO3 hb3 hX
      unfold wpOp
      go_simp
      refine .inl ⟨hXa, ?_⟩
      refine wpAnyH_all (rs := [14]) (by kernel_rfl) (by decide) (fun i hi => ?_)
      rw [List.mem_singleton] at hi
      subst hi
      refine wpOp_plain rfl rfl ?_
      refine Lib.wp_append_run _ (.tmp 27) (.tmp 40) 51 51 rfl _ _ rfl rfl _ _ HR3.out ?_
      have hX := HB3.out
      refine ⟨hX, ?_⟩
      (try simp only [Act.put, List.setIfInBounds_toArray, List.set_cons_zero, List.set_cons_succ])
      refine wpAnyH_take_at (i := 15) (v := v') 3 rfl rfl (by kernel_rfl) (by kernel_rfl) (by kernel_rfl) (fun _ _ _ h => h) (.inl ⟨rfl, fun X hX => by go_simp⟩) hX ?_
      simp only [Act.put, List.setIfInBounds_toArray, List.set_cons_zero, List.set_cons_succ]
      refine wpAnyH_done (by kernel_rfl) ?_ _
      go_wp2_with fail
      have hO4 := HO3.out
      rw [hMs.out] at hO4
      have hp := HP.out
      refine ⟨⟨j + 1, p + 3, h0, Lib.hid (by omega), by simp, Lib.hid hO4, HB3⟩, ?_⟩
      simp [RowKit.intOf]; omega
    · obtain rfl : j = ms.length := by omega
      have hp := HP.out
      have hLl := HL.out
      have hFl := HFL.out
      have d1 : decide ((p : Int) + 2 < (L : Int)) = false := decide_eq_false (by omega)
      have hpb : p ≤ 1000 := by omega
      have hO := HO.out
      rw [List.take_length] at hO
      have HO2 := Lib.hid hO
      clear hp hLl hFl hO HO
      go_wp2_with fail
      go_ret
      have h1 := HBV.out
      rcases HO2.out with ⟨e1, e2, e3⟩ | ⟨g, c, e1, e2, e3, e4⟩
      · exact ⟨_, rfl, .inl ⟨e1, e2, e3⟩, h1.trans (HB1.out.mono h1.size)⟩
      · exact ⟨_, rfl, .inr ⟨g, c, e1, e2, Nat.le_trans h1.size e3, e4⟩, h1.trans (HB1.out.mono h1.size)⟩
end Go.Proofs.YtdhapmlgapflbaaGreatDoor
