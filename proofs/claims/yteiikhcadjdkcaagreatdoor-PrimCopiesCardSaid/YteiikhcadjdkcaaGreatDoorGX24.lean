/- The walks of slices.Clone at words and at oops, and of package heap's Words and Roots. The walk of package heap's Bytes for an object of bytes: the slice's capacity, and that its memory is new. The document's Numbers: those of layer 8. -/
import Derived.Test.YteiikhcadjdkcaaGreatDoorGX23
import Derived.Test.YteiikhcadjdkcaaGreatDoorGX07
import Derived.Test.YteiikhcadjdkcaaGreatDoorGX18
set_option linter.unusedVariables false
set_option linter.unusedSimpArgs false
namespace Go.Proofs.YteiikhcadjdkcaaGreatDoor
open Go Go.RowKit Limb
theorem eql_slice_nil {P : Program} (t e : TypeId) (a : Addr) (n c : Nat) (h : P.underlying t = some (.slice e)) (w : World) : (binOp .eql t (.slice (some a) n c) (.slice none 0 0)).run P w = .ok (.bool false) w := by
  have : (Op.equalIn 10000 t (.slice (some a) n c) (.slice none 0 0)).run P w = .ok false w := by
    rw [show (10000 : Nat) = 9999 + 1 from rfl]
    unfold Op.equalIn
    simp [Sem.run_bind, run_underlying h, Result.andThen]
  simp [binOp, Op.equal, Op.maxDepth, this, Result.andThen]
theorem news_of {K : IntKind} {w : World} {g n c : Nat} {e : TypeId} {l : List Nat} (h : Sl w g e n c (nums K l)) : ∀ j u, (nums K l)[j]? = some u → w.cell? ((⟨g, 0, none⟩ : Addr).add j) = some u := by
  intro j u hj
  have ha : (⟨g, 0, none⟩ : Addr).add j = ⟨g, j, none⟩ := by
    unfold Addr.add
    by_cases h0 : j = 0
    · subst h0; rfl
    · simp [h0]
  have hl := h.len
  have := (List.getElem?_eq_some_iff.1 hj).1
  rw [ha, h.cell (by omega)]; exact hj
set_option maxHeartbeats 800000 in
set_option maxRecDepth 100000 in
theorem clone_words (w : World) (g n c : Nat) (l : List Nat) (hs : Sl w g 29 n c (nums .u32 l)) (h0 : 0 < n) (hn : n ≤ 1048576) :
    Calls Tryz.prog 258 #[.slice (some ⟨g, 0, none⟩) n c] w fun e w' => (∃ g' c', e = .returned (.slice (some ⟨g', 0, none⟩) n c') ∧ w.heap.size ≤ g' ∧ Sl w' g' 29 n c' (nums .u32 l)) ∧ Below w.heap.size w w' := by
  obtain ⟨W, hW, r0, hb, hz⟩ := alloc_row w 29 []
  have HW := Lib.hid hW
  obtain ⟨i0, hi, hz0, hz1, hz2⟩ := info_parts info32
  have hs1 := hs.below hb
  obtain ⟨v9, X9, hr9, hg9⟩ := run_sl_append (P := Tryz.prog) (t := 71) (ty := 71) Tryz.underlying71 hi hz0 hz1 hz2 rfl (r0.sl (n := 0) rfl (Nat.zero_le _)) ⟨g, 0, none⟩ n c (by omega) (nums .u32 l) hs1.len (news_of hs1) (by simp [nums, Value.oneCell']) (Nat.le_trans (show 0 + n ≤ 1048576 by omega) (by decide)) (by omega)
  have ho9 := hg9.only
  obtain ⟨g9, c9, rfl, sl9, hgg, -⟩ := hg9
  rw [Nat.zero_add, List.nil_append] at sl9
  rw [Nat.zero_add] at hr9
  have hB : Below w.heap.size w X9 := hb.trans (ho9.belowB (by omega) (fun p hp => by rw [List.mem_singleton] at hp; omega))
  have HR9 := Lib.hid hr9
  have HS9 := Lib.hid sl9
  have hg9 : w.heap.size ≤ g9 := by omega
  clear hr9 sl9 hW hs hs1 r0 hb hgg ho9
  have he := eql_slice_nil (P := Tryz.prog) 71 29 ⟨g, 0, none⟩ n c Tryz.underlying71
  go_enter Tryz.func258, Tryz.ntmps258
  go_wp2_with (at_builtin; (try rw [← HW.out]); refine Lib.wpList_append_run _ rfl _ _ _ _ rfl _ _ rfl rfl _ _ HR9.out ?_)
  go_ret
  exact ⟨⟨g9, c9, rfl, hg9, HS9.out⟩, hB⟩
set_option maxHeartbeats 800000 in
set_option maxRecDepth 100000 in
theorem clone_oops (w : World) (g n c : Nat) (l : List Nat) (hs : Sl w g 30 n c (nums .u32 l)) (h0 : 0 < n) (hn : n ≤ 1048576) :
    Calls Tryz.prog 259 #[.slice (some ⟨g, 0, none⟩) n c] w fun e w' => (∃ g' c', e = .returned (.slice (some ⟨g', 0, none⟩) n c') ∧ w.heap.size ≤ g' ∧ Sl w' g' 30 n c' (nums .u32 l)) ∧ Below w.heap.size w w' := by
  obtain ⟨W, hW, r0, hb, hz⟩ := alloc_row w 30 []
  have HW := Lib.hid hW
  obtain ⟨i0, hi, hz0, hz1, hz2⟩ := info_parts info_oop
  have hs1 := hs.below hb
  obtain ⟨v9, X9, hr9, hg9⟩ := run_sl_append (P := Tryz.prog) (t := 53) (ty := 53) Tryz.underlying53 hi hz0 hz1 hz2 rfl (r0.sl (n := 0) rfl (Nat.zero_le _)) ⟨g, 0, none⟩ n c (by omega) (nums .u32 l) hs1.len (news_of hs1) (by simp [nums, Value.oneCell']) (Nat.le_trans (show 0 + n ≤ 1048576 by omega) (by decide)) (by omega)
  have ho9 := hg9.only
  obtain ⟨g9, c9, rfl, sl9, hgg, -⟩ := hg9
  rw [Nat.zero_add, List.nil_append] at sl9
  rw [Nat.zero_add] at hr9
  have hB : Below w.heap.size w X9 := hb.trans (ho9.belowB (by omega) (fun p hp => by rw [List.mem_singleton] at hp; omega))
  have HR9 := Lib.hid hr9
  have HS9 := Lib.hid sl9
  have hg9 : w.heap.size ≤ g9 := by omega
  clear hr9 sl9 hW hs hs1 r0 hb hgg ho9
  have he := eql_slice_nil (P := Tryz.prog) 53 30 ⟨g, 0, none⟩ n c Tryz.underlying53
  go_enter Tryz.func259, Tryz.ntmps259
  go_wp2_with (at_builtin; (try rw [← HW.out]); refine Lib.wpList_append_run _ rfl _ _ _ _ rfl _ _ rfl rfl _ _ HR9.out ?_)
  go_ret
  exact ⟨⟨g9, c9, rfl, hg9, HS9.out⟩, hB⟩
section
variable {w : World} {F : Foot} {h : Hp}
set_option maxRecDepth 100000 in
theorem heap_Words (H : HeapAt w F h) :
    Calls Tryz.prog 191 #[.pointer (some ⟨F.p, 0, none⟩)] w fun e w' => (∃ g' c', e = .returned (.slice (some ⟨g', 0, none⟩) h.ws.length c') ∧ w.heap.size ≤ g' ∧ Sl w' g' 29 h.ws.length c' (nums .u32 h.ws)) ∧ Below w.heap.size w w' := by
  have HM := Lib.hid (heap_made H)
  obtain ⟨cw, cs, c0, c1, c2, c3, c4, hw, hs⟩ := H.cells
  have HC := Lib.hid (clone_words w F.gw h.ws.length cw h.ws hw H.good.pos H.small.1)
  clear hw hs H
  go_enter Tryz.func191, Tryz.ntmps191
  go_wp2_with fail
  refine (HM.out).mono ?_
  rintro e w1 ⟨rfl, rfl⟩
  (try dsimp only)
  go_wp2_with fail
  refine (HC.out).mono ?_
  rintro e w2 ⟨⟨g', c', rfl, hg, hS⟩, hB⟩
  (try dsimp only)
  have HS := Lib.hid hS
  clear hS
  go_wp2_with fail
  go_ret
  exact ⟨⟨g', c', rfl, hg, HS.out⟩, hB⟩
set_option maxRecDepth 100000 in
theorem heap_Roots (H : HeapAt w F h) :
    Calls Tryz.prog 192 #[.pointer (some ⟨F.p, 0, none⟩)] w fun e w' => (∃ g' c', e = .returned (.slice (some ⟨g', 0, none⟩) 64 c') ∧ w.heap.size ≤ g' ∧ Sl w' g' 30 64 c' (nums .u32 h.rt)) ∧ Below w.heap.size w w' := by
  have HM := Lib.hid (heap_made H)
  obtain ⟨cw, cs, c0, c1, c2, c3, c4, hw, hs⟩ := H.cells
  have sl : Sl w F.gr 30 64 64 (nums .u32 h.rt) := H.roots.sl (by rw [nums_length]; exact H.good.rlen.symm) (by decide)
  have HC := Lib.hid (clone_oops w F.gr 64 64 h.rt sl (by decide) (by decide))
  clear hw hs H sl
  go_enter Tryz.func192, Tryz.ntmps192
  go_wp2_with fail
  refine (HM.out).mono ?_
  rintro e w1 ⟨rfl, rfl⟩
  (try dsimp only)
  go_wp2_with fail
  refine (HC.out).mono ?_
  rintro e w2 ⟨⟨g', c', rfl, hg, hS⟩, hB⟩
  (try dsimp only)
  have HS := Lib.hid hS
  clear hS
  go_wp2_with fail
  go_ret
  exact ⟨⟨g', c', rfl, hg, HS.out⟩, hB⟩
end
end Go.Proofs.YteiikhcadjdkcaaGreatDoor
namespace Go.Proofs.YteiikhcadjdkcaaGreatDoor
open Go Go.RowKit Limb
section
variable {w : World} {F : Foot} {h : Hp}
set_option maxHeartbeats 3200000 in
set_option maxRecDepth 100000 in
theorem heap_BytesC (H : HeapAt w F h) (o : Nat) (hi : isO h o = true) (hf : (hdO h o).fmt = 2) :
    Calls Tryz.prog 27 #[.pointer (some ⟨F.p, 0, none⟩), .int .u32 o] w fun e w' => (∃ g, e = .returned (.tuple #[.slice (some ⟨g, 0, none⟩) (hdO h o).len (hdO h o).len, .int .i64 0]) ∧ w.heap.size ≤ g ∧ Lay .u8 w' (some ⟨g, 0, none⟩) (bytO h o)) ∧ Below w.heap.size w w' := by
  have ho := isO_lt H.good hi
  have HD := Lib.hid (heap_Header H o ho)
  have e1 : hdX h o = hdO h o := by unfold hdX; rw [if_pos hi]
  have e2 : erX h o = 0 := by unfold erX; rw [if_pos hi]
  have hd := HD.out
  rw [e1, e2, show hdV (hdO h o) = .agg #[.int .i64 (hdO h o).size, .int .i64 (hdO h o).fmt, .int .i64 (hdO h o).spare, .int .u32 (hdO h o).cls, .int .u32 (hdO h o).ser] from rfl] at hd
  have hok : (hdO h o).Ok := (H.good.ok _ (isO_iff.1 hi).2.2).1
  rw [hf] at hd
  obtain ⟨b1, b2, b3, b4, b5⟩ := bytes_parts H.good hi hf
  have hin : o / 2 + 3 + (hdO h o).size ≤ h.ws.length := H.good.inside _ (isO_iff.1 hi).2.2
  have hsm := H.small
  have ha := fun X => heap_at o ho X (.pointer (some ⟨F.p, 0, none⟩))
  rw [idxN_of hi] at ha
  have HA := Lib.hid ha
  have ebo : bytO h o = (unpB (flds h o)).take (hdO h o).len := rfl
  rw [ebo]
  have HUn := Lib.hid (fun X (HX : HeapAt X F h) bp (hbp : 0 < (hdO h o).size → bp = some ⟨F.gw, o / 2 + 3, none⟩) cap => oop_unpackbytes X bp (flds h o) (hdO h o).size cap (hdO h o).spare (hdO h o).len b1 (HX.fields hi bp hbp) (flds_lim H.good o) (flds_length H.good hi).symm b4 b2 b3 b5)
  have HE := Lib.hid (fun X (hb : Below w.heap.size w X) => H.below hb)
  generalize flds h o = fl at *
  generalize o / 2 = at0 at *
  generalize hdO h o = x at *
  generalize x.len = ln at *
  generalize x.size = x0 at *
  generalize x.spare = x2 at *
  generalize x.cls = x3 at *
  generalize x.ser = x4 at *
  have HD := Lib.hid hd
  clear hd e1 e2 hok hf ha ebo b1 b5 hi
  go_enter Tryz.func27, Tryz.ntmps27
  go_wp2_with fail
  refine (HD.out).mono ?_
  rintro e V ⟨rfl, hB⟩
  (try dsimp only)
  obtain ⟨W, hW, r0, hb, hz⟩ := alloc_row V 102 [.int .i64 x0, .int .i64 2, .int .i64 x2, .int .u32 x3, .int .u32 x4]
  have HW := Lib.hid hW; clear hW hz
  replace hB := hB.trans (hb.mono hB.size)
  clear hb
  obtain ⟨p0, p1, p2, p3, p4⟩ := r0.cells5
  go_wp2_with fail
  rw [← HW.out]
  refine (HA.out W).mono ?_
  rintro e W1 ⟨rfl, rfl⟩
  (try dsimp only)
  go_wp2_with fail
  have HHW := HE.out W hB
  obtain ⟨cw, cs, c0, -, -, -, -, sw, -⟩ := HHW.cells
  have hcw := sw.le
  clear p0 p1 p2 p3 p4 sw
  obtain ⟨bp, hbp⟩ : ∃ b, b = if cw = at0 + 3 then some (⟨F.gw, 0, none⟩ : Addr) else some ⟨F.gw, at0 + 3, none⟩ := ⟨_, rfl⟩
  have hbp1 : 0 < x0 → bp = some ⟨F.gw, at0 + 3, none⟩ := fun h0 => by rw [hbp, if_neg (by omega)]
  have HBP := Lib.hid hbp
  have HBP1 := Lib.hid hbp1
  have hFp : F.p < W.heap.size := HHW.lt _ (mem_p F)
  have HK := Lib.hid (fun X (hX : Below W.heap.size W X) => show X.cell? ⟨F.p, 0, none⟩ = some (.slice (some ⟨F.gw, 0, none⟩) h.ws.length cw) ∧ X.cell? ⟨V.heap.size, 0, none⟩ = some (.int .i64 x0) ∧ X.cell? ⟨V.heap.size, 2, none⟩ = some (.int .i64 x2) from ⟨by rw [← c0]; exact hX.cell hFp, (r0.below hX r0.lt).cell_at 0, (r0.below hX r0.lt).cell_at 2⟩)
  have HHX := Lib.hid (fun X (hX : Below W.heap.size W X) => HHW.below hX)
  clear hbp hbp1 HHW c0 r0 HA HD HE HW
  have hX : Below W.heap.size W W.drew := (Below.refl _ _).drew
  refine wp_region_held (S := fun X => Below W.heap.size W X) (by kernel_rfl) ?_
  refine wpAnyH_take_at (i := 0) (v := .pointer (some ⟨F.p, 0, none⟩)) 25 rfl rfl (by kernel_rfl) (by kernel_rfl) (by kernel_rfl) (fun _ _ _ h => h) (.inl ⟨rfl, fun X hX => by go_simp⟩) hX ?_
  simp only [Act.put, List.setIfInBounds_toArray, List.set_cons_zero, List.set_cons_succ]
  refine wpAnyH_take_at (i := 1) (v := .pointer (some ⟨F.p, 0, none⟩)) 26 rfl rfl (by kernel_rfl) (by kernel_rfl) (by kernel_rfl) (fun _ _ _ h => h) (.inl ⟨rfl, fun X hX => by go_simp⟩) hX ?_
  simp only [Act.put, List.setIfInBounds_toArray, List.set_cons_zero, List.set_cons_succ]
  refine wpAnyH_take_at (i := 2) (v := .pointer (some ⟨F.p, 0, none⟩)) 27 rfl rfl (by kernel_rfl) (by kernel_rfl) (by kernel_rfl) (fun _ _ _ h => h) (.inl ⟨rfl, fun X hX => by go_simp⟩) hX ?_
  simp only [Act.put, List.setIfInBounds_toArray, List.set_cons_zero, List.set_cons_succ]
  refine wpAnyH_take_at (i := 3) (v := .slice (some ⟨F.gw, 0, none⟩) h.ws.length cw) 28 rfl rfl (by kernel_rfl) (by kernel_rfl) (by kernel_rfl) (fun _ _ _ h => h) (.inl ⟨rfl, fun X hX => by obtain ⟨k0, k1, k2⟩ := HK.out X hX; go_simp⟩) hX ?_
  simp only [Act.put, List.setIfInBounds_toArray, List.set_cons_zero, List.set_cons_succ]
  refine wpAnyH_take_at (i := 4) (v := .int .i64 ((at0 : Int) + 3)) 29 rfl rfl (by kernel_rfl) (by kernel_rfl) (by kernel_rfl) (fun _ _ _ h => h) (.inl ⟨rfl, fun X hX => by go_simp⟩) hX ?_
  simp only [Act.put, List.setIfInBounds_toArray, List.set_cons_zero, List.set_cons_succ]
  refine wpAnyH_take_at (i := 5) (v := .int .i64 ((at0 : Int) + 3)) 30 rfl rfl (by kernel_rfl) (by kernel_rfl) (by kernel_rfl) (fun _ _ _ h => h) (.inl ⟨rfl, fun X hX => by go_simp⟩) hX ?_
  simp only [Act.put, List.setIfInBounds_toArray, List.set_cons_zero, List.set_cons_succ]
  refine wpAnyH_take_at (i := 6) (v := .pointer (some ⟨V.heap.size, 0, none⟩)) 31 rfl rfl (by kernel_rfl) (by kernel_rfl) (by kernel_rfl) (fun _ _ _ h => h) (.inl ⟨rfl, fun X hX => by go_simp⟩) hX ?_
  simp only [Act.put, List.setIfInBounds_toArray, List.set_cons_zero, List.set_cons_succ]
  refine wpAnyH_take_at (i := 7) (v := .int .i64 x0) 32 rfl rfl (by kernel_rfl) (by kernel_rfl) (by kernel_rfl) (fun _ _ _ h => h) (.inl ⟨rfl, fun X hX => by obtain ⟨k0, k1, k2⟩ := HK.out X hX; go_simp⟩) hX ?_
  simp only [Act.put, List.setIfInBounds_toArray, List.set_cons_zero, List.set_cons_succ]
  refine wpAnyH_take_at (i := 8) (v := .int .i64 ((at0 : Int) + 3 + (x0 : Int))) 33 rfl rfl (by kernel_rfl) (by kernel_rfl) (by kernel_rfl) (fun _ _ _ h => h) (.inl ⟨rfl, fun X hX => by go_simp; all_goals (first | omega | exact i64_self (by omega) (by omega) | (rw [i64_self (by omega) (by omega)]; omega))⟩) hX ?_
  simp only [Act.put, List.setIfInBounds_toArray, List.set_cons_zero, List.set_cons_succ]
  refine wpAnyH_take_at (i := 9) (v := .slice bp x0 (cw - (at0 + 3))) 34 rfl rfl (by kernel_rfl) (by kernel_rfl) (by kernel_rfl) (fun _ _ _ h => h) (.inl ⟨rfl, fun X hX => by go_simp; rw [if_pos (show 0 ≤ (at0 : Int) + 3 ∧ (at0 : Int) + 3 ≤ max ((at0 : Int) + 3 + (x0 : Int)) 0 from ⟨by omega, by omega⟩), HBP.out, show ((at0 : Int) + 3).toNat = at0 + 3 by omega, show ((at0 : Int) + 3 + (x0 : Int)).toNat = at0 + 3 + x0 by omega, Nat.add_sub_cancel_left, if_pos (show 0 ≤ (at0 : Int) + 3 + (x0 : Int) ∧ (at0 : Int) + 3 + (x0 : Int) ≤ (cw : Int) from ⟨by omega, by omega⟩)]⟩) hX ?_
  simp only [Act.put, List.setIfInBounds_toArray, List.set_cons_zero, List.set_cons_succ]
  refine wpAnyH_take_at (i := 10) (v := .pointer (some ⟨V.heap.size, 2, none⟩)) 35 rfl rfl (by kernel_rfl) (by kernel_rfl) (by kernel_rfl) (fun _ _ _ h => h) (.inl ⟨rfl, fun X hX => by go_simp⟩) hX ?_
  simp only [Act.put, List.setIfInBounds_toArray, List.set_cons_zero, List.set_cons_succ]
  refine wpAnyH_take_at (i := 11) (v := .int .i64 x2) 36 rfl rfl (by kernel_rfl) (by kernel_rfl) (by kernel_rfl) (fun _ _ _ h => h) (.inl ⟨rfl, fun X hX => by obtain ⟨k0, k1, k2⟩ := HK.out X hX; go_simp⟩) hX ?_
  simp only [Act.put, List.setIfInBounds_toArray, List.set_cons_zero, List.set_cons_succ]
  refine wpAnyH_all (rs := [12]) (by kernel_rfl) (by decide) (fun i hi => ?_)
  rw [List.mem_singleton] at hi
  subst hi
  unfold wpOp
  go_simp
  refine .inl ((HUn.out _ (HHX.out _ hX) bp HBP1.out _).mono ?_)
  rintro e X1 ⟨⟨g, rfl, hg, hlay⟩, hb⟩
  have HG := Lib.hid (Nat.le_trans (hB.trans (hX.mono hB.size)).size hg)
  replace hX := hX.trans (hb.mono hX.size)
  have HLay := Lib.hid hlay
  clear hb hg hlay
  refine ⟨hX, ?_⟩
  refine wpAnyH_take_at (i := 13) (v := .slice (some ⟨g, 0, none⟩) ln ln) 38 rfl rfl (by kernel_rfl) (by kernel_rfl) (by kernel_rfl) (fun _ _ _ h => h) (.inl ⟨rfl, fun X hX => by go_simp⟩) hX ?_
  simp only [Act.put, List.setIfInBounds_toArray, List.set_cons_zero, List.set_cons_succ]
  refine wpAnyH_take_at (i := 14) (v := .int .i64 0) 39 rfl rfl (by kernel_rfl) (by kernel_rfl) (by kernel_rfl) (fun _ _ _ h => h) (.inl ⟨rfl, fun X hX => by go_simp⟩) hX ?_
  simp only [Act.put, List.setIfInBounds_toArray, List.set_cons_zero, List.set_cons_succ]
  refine wpAnyH_take_at (i := 15) (v := .slice (some ⟨g, 0, none⟩) ln ln) 4 rfl rfl (by kernel_rfl) (by kernel_rfl) (by kernel_rfl) (fun _ _ _ h => h) (.inl ⟨rfl, fun X hX => by go_simp⟩) hX ?_
  simp only [Act.put, List.setIfInBounds_toArray, List.set_cons_zero, List.set_cons_succ]
  refine wpAnyH_take_at (i := 16) (v := .int .i64 0) 5 rfl rfl (by kernel_rfl) (by kernel_rfl) (by kernel_rfl) (fun _ _ _ h => h) (.inl ⟨rfl, fun X hX => by go_simp⟩) hX ?_
  simp only [Act.put, List.setIfInBounds_toArray, List.set_cons_zero, List.set_cons_succ]
  refine wpAnyH_done (by kernel_rfl) ?_ _
  have HBf := Lib.hid (hB.trans (hX.mono hB.size))
  clear HK HHX HUn HBP HBP1 hX
  go_wp2_with fail
  go_ret2
  exact ⟨⟨_, rfl, HG.out, HLay.out⟩, HBf.out⟩
end
end Go.Proofs.YteiikhcadjdkcaaGreatDoor
namespace Go.Proofs.YteiikhcadjdkcaaGreatDoor
open Go Go.RowKit Limb
def spanLo (k : Nat) : Int := [1, 40, 60, 70, 80, 90, 120].getD k 0
def spanN (k : Nat) : Nat := [19, 17, 5, 6, 9, 3, 7].getD k 0
def spanL (k m : Nat) : List Int := (List.range m).map fun j : Nat => spanLo k + (j : Int)
def upN : Nat → List Int
  | 0 => []
  | k + 1 => upN k ++ spanL k (spanN k)
theorem upN_all : upN 7 = numsK := by decide +kernel
theorem spanL_succ (k m : Nat) : spanL k m ++ [spanLo k + (m : Int)] = spanL k (m + 1) := by unfold spanL; rw [List.range_succ, List.map_append]; rfl
theorem span_fact (k : Nat) (hk : k < 7) : 1 ≤ spanLo k ∧ spanLo k ≤ 120 ∧ spanN k ≤ 19 := by
  have c : k = 0 ∨ k = 1 ∨ k = 2 ∨ k = 3 ∨ k = 4 ∨ k = 5 ∨ k = 6 := by omega
  rcases c with rfl | rfl | rfl | rfl | rfl | rfl | rfl <;> decide
theorem upN_len (k : Nat) (hk : k ≤ 7) : (upN k).length ≤ 66 := by
  have c : k = 0 ∨ k = 1 ∨ k = 2 ∨ k = 3 ∨ k = 4 ∨ k = 5 ∨ k = 6 ∨ k = 7 := by omega
  rcases c with rfl | rfl | rfl | rfl | rfl | rfl | rfl | rfl <;> decide +kernel
def spanCells : List Value := [.int .i64 1, .int .i64 19, .int .i64 40, .int .i64 56, .int .i64 60, .int .i64 64, .int .i64 70, .int .i64 75, .int .i64 80, .int .i64 88, .int .i64 90, .int .i64 92, .int .i64 120, .int .i64 126]
theorem span_cells (k : Nat) (hk : k < 7) : spanCells[k * 2]? = some (.int .i64 (spanLo k)) ∧ spanCells[k * 2 + 1]? = some (.int .i64 (spanLo k + (spanN k : Int) - 1)) := by
  have c : k = 0 ∨ k = 1 ∨ k = 2 ∨ k = 3 ∨ k = 4 ∨ k = 5 ∨ k = 6 := by omega
  rcases c with rfl | rfl | rfl | rfl | rfl | rfl | rfl <;> exact ⟨rfl, rfl⟩
theorem size_two (W : World) : (sizeOf 46).run Tryz.prog W = .ok 2 W := by kernel_rfl
theorem idx_spans (W : World) (g k : Nat) (hk : k < 7) : (Instr.indexAt 47 (.slice (some ⟨g, 0, none⟩) 7 7) (.int .i64 k)).run Tryz.prog W = .ok (.pointer (some ⟨g, k * 2, none⟩)) W := by
  have h2 : (k : Int) < 7 := by omega
  simp [Instr.indexAt, run_underlying Tryz.underlying47, asIntOf, h2, size_two, Result.andThen, Addr.add]
  rw [if_pos hk]
  by_cases h0 : k = 0
  · subst h0; rfl
  · rw [if_neg (by omega)]
theorem info_intN : (Tryz.prog.info? 3).map (fun i => (i.zero, i.size, i.bytes)) = some (some (.int .i64 0), 1, 8) := by kernel_rfl
set_option maxHeartbeats 3200000 in
set_option maxRecDepth 100000 in
theorem ref_numbers (w : World) : Calls Tryz.prog 20 #[] w fun e w' => ∃ g c, e = .returned (.slice (some ⟨g, 0, none⟩) 66 c) ∧ Sl w' g 3 66 c (numsK.map encZ) ∧ w.heap.size ≤ g ∧ Below w.heap.size w w' := by
  obtain ⟨V, hV, rv, hbv, hzv⟩ := alloc_row w 46 [.int .i64 1, .int .i64 19, .int .i64 40, .int .i64 56, .int .i64 60, .int .i64 64, .int .i64 70, .int .i64 75, .int .i64 80, .int .i64 88, .int .i64 90, .int .i64 92, .int .i64 120, .int .i64 126]
  have HV := Lib.hid hV
  have HRow := Lib.hid (show Row V w.heap.size 46 spanCells from rv)
  have HB := Lib.hid hbv
  have hzl : w.heap.size < V.heap.size := by omega
  have HO : Hid (Own1 V 3 (.slice none 0 0) [] V.heap.size) := Lib.hid (.inl ⟨rfl, rfl⟩)
  have HIx := Lib.hid idx_spans
  generalize hg : w.heap.size = g at *
  clear hV rv hbv hzv
  go_enter Tryz.func20, Tryz.ntmps20
  go_wp2_with fail
  rw [← HV.out]
  have HG := Lib.hid hg
  clear HV hg
  go_loopw [3, 1] (fun i l wr => ∃ k : Nat, k ≤ 7 ∧ i = .int .i64 k ∧ Hid (Own1 wr 3 l ((upN k).map encZ) V.heap.size) ∧ Hid (Below V.heap.size V wr)) (fun i _ _ => 7 - (RowKit.intOf i).toNat)
  case atStart => exact ⟨0, Nat.zero_le _, rfl, HO, Lib.hid (Below.refl _ _)⟩
  case round =>
    clear HO
    obtain ⟨k, hk, rfl, HO, HB1⟩ := hrel
    by_cases h0 : k < 7
    · obtain ⟨f1, f2, f3⟩ := span_fact k h0
      have hr := HRow.out.below HB1.out hzl
      have q0 := hr.cell_at (k * 2)
      have q1 := hr.cell_at (k * 2 + 1)
      rw [(span_cells k h0).1] at q0
      rw [(span_cells k h0).2] at q1
      have ix := fun W => HIx.out W g k h0
      have d1 : decide ((k : Int) < 7) = true := decide_eq_true (by omega)
      clear hr
      go_wp2_with fail
      clear q0 q1 ix d1
      have HO0 : Hid (Own1 wr 3 u1 ((upN k ++ spanL k 0).map encZ) V.heap.size) := Lib.hid (by rw [show spanL k 0 = [] from rfl, List.append_nil]; exact HO.out)
      have HSp := Lib.hid (fun X (hb : Below V.heap.size V X) => show X.cell? ⟨g, k * 2 + 1, none⟩ = some (.int .i64 (spanLo k + (spanN k : Int) - 1)) by rw [(HRow.out.below hb hzl).cell_at, (span_cells k h0).2])
      clear HO
      go_loopw [4, 1] (fun n l wx => ∃ m : Nat, m ≤ spanN k ∧ n = .int .i64 (spanLo k + (m : Int)) ∧ Hid (Own1 wx 3 l ((upN k ++ spanL k m).map encZ) V.heap.size) ∧ Hid (Below V.heap.size V wx)) (fun n _ _ => spanN k - (RowKit.intOf n - spanLo k).toNat)
      case atStart => exact ⟨0, Nat.zero_le _, by simp, HO0, HB1⟩
      case round =>
        clear HO0 HB1
        obtain ⟨m, hm, rfl, HO, HB1⟩ := hrel
        have q1 := HSp.out _ HB1.out
        have ix := fun W => HIx.out W g k h0
        by_cases h1 : m < spanN k
        · have d2 : decide (spanLo k + (m : Int) ≤ spanLo k + (spanN k : Int) - 1) = true := decide_eq_true (by omega)
          have hlen : ((upN k ++ spanL k m).map encZ).length ≤ 100000 := by
            have := upN_len k hk
            rw [List.length_map, List.length_append]
            unfold spanL
            rw [List.length_map, List.length_range]
            omega
          obtain ⟨s', X2, hr, hS2, hB2⟩ := own1_append 48 (.int .i64 0) 8 Tryz.underlying48 info_intN rfl (by decide) HO.out HB1.out.size (.int .i64 (spanLo k + (m : Int))) rfl hlen
          have HR2 := Lib.hid hr
          have HO2 : Hid (Own1 X2 3 s' ((upN k ++ spanL k (m + 1)).map encZ) V.heap.size) := Lib.hid (by rw [← spanL_succ, ← List.append_assoc, List.map_append]; exact hS2)
          have HB2 := Lib.hid (HB1.out.trans hB2)
          clear hr hS2 hB2 hlen HO HB1
          go_wp2_with (at_builtin; refine Lib.wpList_append_run _ rfl _ _ _ _ rfl _ _ rfl rfl _ _ HR2.out ?_)
          refine ⟨⟨m + 1, h1, by simp; omega, HO2, HB2⟩, ?_⟩
          simp [RowKit.intOf]; omega
        · obtain rfl : m = spanN k := by omega
          have d2 : decide (spanLo k + (spanN k : Int) ≤ spanLo k + (spanN k : Int) - 1) = false := decide_eq_false (by omega)
          have HO2 : Hid (Own1 wr 3 u1 ((upN (k + 1)).map encZ) V.heap.size) := HO
          clear HO
          go_wp2_with fail
          refine ⟨⟨k + 1, h0, by simp, HO2, HB1⟩, ?_⟩
          simp [RowKit.intOf]; omega
    · obtain rfl : k = 7 := by omega
      have d1 : decide (((7 : Nat) : Int) < 7) = false := by decide
      rw [show ((7 : Nat) : Int) = 7 from rfl]
      rw [upN_all] at HO
      go_wp2_with fail
      rcases HO.out with ⟨_, h2⟩ | ⟨g', c, rfl, h2, h3, h4⟩
      · cases h2
      · have HSl := Lib.hid h2
        clear h2 HO
        go_ret
        have hs := HB.out.size
        have hg := HG.out
        exact ⟨g', c, rfl, HSl.out, by omega, HB.out.trans (HB1.out.mono (by omega))⟩
end Go.Proofs.YteiikhcadjdkcaaGreatDoor
