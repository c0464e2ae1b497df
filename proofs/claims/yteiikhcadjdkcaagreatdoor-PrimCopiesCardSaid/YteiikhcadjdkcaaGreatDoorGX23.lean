/- The walk of package heap's Bytes. prim.Numbers: the table's keys, rising. -/
import Derived.Test.YteiikhcadjdkcaaGreatDoorGX22
import Derived.Test.YteiikhcadjdkcaaGreatDoorKeysL
set_option linter.unusedVariables false
set_option linter.unusedSimpArgs false
namespace Go.Proofs.YteiikhcadjdkcaaGreatDoor
open Go Go.RowKit Limb
def bytE (h : Hp) (o : Nat) : Nat := if isO h o = true then (if (hdO h o).fmt = 2 then 0 else 21) else 3
theorem oop_unpackbytes (w : World) (a : Option Addr) (l : List Nat) (m cap s N : Nat) (hN : 4 * m = N + s) (hlay : Lay .u32 w a l) (hlim : Lim l) (hn : m = l.length) (hl : m ≤ 65535) (hs : s ≤ 3) (hs0 : 0 < s → 0 < m) (hz : (unpB l).drop N = List.replicate s 0) :
    Calls Tryz.prog 58 #[.slice a m cap, .int .i64 s] w fun e w' => (∃ g, e = .returned (.tuple #[.slice (some ⟨g, 0, none⟩) N N, .int .i64 0]) ∧ w.heap.size ≤ g ∧ Lay .u8 w' (some ⟨g, 0, none⟩) ((unpB l).take N)) ∧ Below w.heap.size w w' := by
  by_cases h : s = 0
  · exact oop_unpackbytes0 w a l m cap s N hN hlay hlim hn hl hs h hz
  · exact oop_unpackbytes1 w a l m cap s N hN hlay hlim hn hl hs (by omega) (hs0 (by omega)) hz
section
variable {w : World} {F : Foot} {h : Hp}
theorem bytes_parts (k : Limb.Good h) {o : Nat} (ho : isO h o = true) (hf : (hdO h o).fmt = 2) :
    4 * (hdO h o).size = (hdO h o).len + (hdO h o).spare ∧ (hdO h o).spare ≤ 3 ∧ (0 < (hdO h o).spare → 0 < (hdO h o).size) ∧ (hdO h o).size ≤ 65535 ∧ (unpB (flds h o)).drop (hdO h o).len = List.replicate (hdO h o).spare 0 := by
  have hb := (isO_iff.1 ho).2.2
  have hok : (hdO h o).Ok := (k.ok _ hb).1
  have hln := flds_length k ho
  have hsp := hok.spare
  have hss := hok.sp
  have hsz := hok.size
  have hlen : (hdO h o).len = 4 * (hdO h o).size - (hdO h o).spare := by unfold Hd.len; rw [if_pos hf]
  refine ⟨by omega, hsp, by omega, hsz, ?_⟩
  rw [hlen, ← hln]
  by_cases h0 : (hdO h o).spare = 0
  · rw [h0, List.drop_of_length_le (by rw [unpB_length]; omega)]; rfl
  · obtain ⟨n, hn⟩ : ∃ n, (hdO h o).size = n + 1 := ⟨(hdO h o).size - 1, by rcases hss with h1 | h1 <;> omega⟩
    refine unpB_spare hsp (hln.trans hn) ?_
    rw [flds_wd (by omega)]
    have := k.spz _ hb hf (show 0 < (hd h (o / 2)).spare from Nat.pos_of_ne_zero h0)
    rw [show o / 2 + 2 + (hd h (o / 2)).size = o / 2 + 3 + n by show o / 2 + 2 + (hdO h o).size = _; omega] at this
    exact this
theorem HeapAt.fields (H : HeapAt w F h) {o : Nat} (ho : isO h o = true) (bp : Option Addr) (hbp : 0 < (hdO h o).size → bp = some ⟨F.gw, o / 2 + 3, none⟩) : Lay .u32 w bp (flds h o) := by
  obtain ⟨cw, cs, c0, c1, c2, c3, c4, hw, hs⟩ := H.cells
  refine ⟨F.gw, o / 2 + 3, fun hp => ?_, fun i hi => ?_⟩
  · rw [flds_length H.good ho] at hp
    exact ⟨hbp hp, hw.lt⟩
  · rw [flds_length H.good ho] at hi
    have hlt := fld_lt H.good ho hi
    rw [hw.cell hlt, nums_get hlt, flds_wd hi]; rfl
set_option maxHeartbeats 3200000 in
set_option maxRecDepth 100000 in
theorem heap_Bytes (H : HeapAt w F h) (o : Nat) (ho : o < 4294967296) :
    Calls Tryz.prog 27 #[.pointer (some ⟨F.p, 0, none⟩), .int .u32 o] w fun e w' => (∃ a c, e = .returned (.tuple #[.slice a (if bytE h o = 0 then (hdO h o).len else 0) c, .int .i64 (bytE h o)]) ∧ (bytE h o = 0 → (∃ g, a = some ⟨g, 0, none⟩) ∧ Lay .u8 w' a (bytO h o))) ∧ Below w.heap.size w w' := by
  have HD := Lib.hid (heap_Header H o ho)
  by_cases hi : isO h o = true
  · have e1 : hdX h o = hdO h o := by unfold hdX; rw [if_pos hi]
    have e2 : erX h o = 0 := by unfold erX; rw [if_pos hi]
    have hd := HD.out
    rw [e1, e2, show hdV (hdO h o) = .agg #[.int .i64 (hdO h o).size, .int .i64 (hdO h o).fmt, .int .i64 (hdO h o).spare, .int .u32 (hdO h o).cls, .int .u32 (hdO h o).ser] from rfl] at hd
    have hok : (hdO h o).Ok := (H.good.ok _ (isO_iff.1 hi).2.2).1
    by_cases hf : (hdO h o).fmt = 2
    · have eb : bytE h o = 0 := by unfold bytE; rw [if_pos hi, if_pos hf]
      rw [eb, if_pos rfl]
      rw [hf] at hd
      obtain ⟨b1, b2, b3, b4, b5⟩ := bytes_parts H.good hi hf
      have hin : o / 2 + 3 + (hdO h o).size ≤ h.ws.length := H.good.inside _ (isO_iff.1 hi).2.2
      have hsm := H.small
      have ha := fun X => heap_at o ho X (.pointer (some ⟨F.p, 0, none⟩))
      rw [idxN_of hi] at ha
      have HA := Lib.hid ha
      have ebo : bytO h o = (unpB (flds h o)).take (hdO h o).len := rfl
      rw [ebo]
      have HUn := Lib.hid (fun X (HX : HeapAt X F h) bp (hbp : 0 < (hdO h o).size → bp = some ⟨F.gw, o / 2 + 3, none⟩) cap => oop_unpackbytes X bp (flds h o) (hdO h o).size cap (hdO h o).spare (hdO h o).len b1 (HX.fields hi bp hbp) (flds_lim H.good o) (flds_length H.good hi).symm b4 b2 b3 b5)
      have HE := Lib.hid (fun X (hb : Below w.heap.size w X) => H.below hb)
      generalize flds h o = fl at *
      generalize o / 2 = at0 at *
      generalize hdO h o = x at *
      generalize x.len = ln at *
      generalize x.size = x0 at *
      generalize x.spare = x2 at *
      generalize x.cls = x3 at *
      generalize x.ser = x4 at *
      have HD := Lib.hid hd
      clear hd e1 e2 hok hf eb ha ebo b1 b5 hi
      go_enter Tryz.func27, Tryz.ntmps27
      go_wp2_with fail
      refine (HD.out).mono ?_
      rintro e V ⟨rfl, hB⟩
      (try dsimp only)
      obtain ⟨W, hW, r0, hb, hz⟩ := alloc_row V 102 [.int .i64 x0, .int .i64 2, .int .i64 x2, .int .u32 x3, .int .u32 x4]
      have HW := Lib.hid hW; clear hW hz
      replace hB := hB.trans (hb.mono hB.size)
      clear hb
      obtain ⟨p0, p1, p2, p3, p4⟩ := r0.cells5
      go_wp2_with fail
      rw [← HW.out]
      refine (HA.out W).mono ?_
      rintro e W1 ⟨rfl, rfl⟩
      (try dsimp only)
      go_wp2_with fail
      have HHW := HE.out W hB
      obtain ⟨cw, cs, c0, -, -, -, -, sw, -⟩ := HHW.cells
      have hcw := sw.le
      clear p0 p1 p2 p3 p4 sw
      obtain ⟨bp, hbp⟩ : ∃ b, b = if cw = at0 + 3 then some (⟨F.gw, 0, none⟩ : Addr) else some ⟨F.gw, at0 + 3, none⟩ := ⟨_, rfl⟩
      have hbp1 : 0 < x0 → bp = some ⟨F.gw, at0 + 3, none⟩ := fun h0 => by rw [hbp, if_neg (by omega)]
      have HBP := Lib.hid hbp
      have HBP1 := Lib.hid hbp1
      have hFp : F.p < W.heap.size := HHW.lt _ (mem_p F)
      have HK := Lib.hid (fun X (hX : Below W.heap.size W X) => show X.cell? ⟨F.p, 0, none⟩ = some (.slice (some ⟨F.gw, 0, none⟩) h.ws.length cw) ∧ X.cell? ⟨V.heap.size, 0, none⟩ = some (.int .i64 x0) ∧ X.cell? ⟨V.heap.size, 2, none⟩ = some (.int .i64 x2) from ⟨by rw [← c0]; exact hX.cell hFp, (r0.below hX r0.lt).cell_at 0, (r0.below hX r0.lt).cell_at 2⟩)
      have HHX := Lib.hid (fun X (hX : Below W.heap.size W X) => HHW.below hX)
      clear hbp hbp1 HHW c0 r0 HA HD HE HW
      have hX : Below W.heap.size W W.drew := (Below.refl _ _).drew
      refine wp_region_held (S := fun X => Below W.heap.size W X) (by kernel_rfl) ?_
      refine wpAnyH_take_at (i := 0) (v := .pointer (some ⟨F.p, 0, none⟩)) 25 rfl rfl (by kernel_rfl) (by kernel_rfl) (by kernel_rfl) (fun _ _ _ h => h) (.inl ⟨rfl, fun X hX => by go_simp⟩) hX ?_
      simp only [Act.put, List.setIfInBounds_toArray, List.set_cons_zero, List.set_cons_succ]
      refine wpAnyH_take_at (i := 1) (v := .pointer (some ⟨F.p, 0, none⟩)) 26 rfl rfl (by kernel_rfl) (by kernel_rfl) (by kernel_rfl) (fun _ _ _ h => h) (.inl ⟨rfl, fun X hX => by go_simp⟩) hX ?_
      simp only [Act.put, List.setIfInBounds_toArray, List.set_cons_zero, List.set_cons_succ]
      refine wpAnyH_take_at (i := 2) (v := .pointer (some ⟨F.p, 0, none⟩)) 27 rfl rfl (by kernel_rfl) (by kernel_rfl) (by kernel_rfl) (fun _ _ _ h => h) (.inl ⟨rfl, fun X hX => by go_simp⟩) hX ?_
      simp only [Act.put, List.setIfInBounds_toArray, List.set_cons_zero, List.set_cons_succ]
      refine wpAnyH_take_at (i := 3) (v := .slice (some ⟨F.gw, 0, none⟩) h.ws.length cw) 28 rfl rfl (by kernel_rfl) (by kernel_rfl) (by kernel_rfl) (fun _ _ _ h => h) (.inl ⟨rfl, fun X hX => by obtain ⟨k0, k1, k2⟩ := HK.out X hX; go_simp⟩) hX ?_
      simp only [Act.put, List.setIfInBounds_toArray, List.set_cons_zero, List.set_cons_succ]
      refine wpAnyH_take_at (i := 4) (v := .int .i64 ((at0 : Int) + 3)) 29 rfl rfl (by kernel_rfl) (by kernel_rfl) (by kernel_rfl) (fun _ _ _ h => h) (.inl ⟨rfl, fun X hX => by go_simp⟩) hX ?_
      simp only [Act.put, List.setIfInBounds_toArray, List.set_cons_zero, List.set_cons_succ]
      refine wpAnyH_take_at (i := 5) (v := .int .i64 ((at0 : Int) + 3)) 30 rfl rfl (by kernel_rfl) (by kernel_rfl) (by kernel_rfl) (fun _ _ _ h => h) (.inl ⟨rfl, fun X hX => by go_simp⟩) hX ?_
      simp only [Act.put, List.setIfInBounds_toArray, List.set_cons_zero, List.set_cons_succ]
      refine wpAnyH_take_at (i := 6) (v := .pointer (some ⟨V.heap.size, 0, none⟩)) 31 rfl rfl (by kernel_rfl) (by kernel_rfl) (by kernel_rfl) (fun _ _ _ h => h) (.inl ⟨rfl, fun X hX => by go_simp⟩) hX ?_
      simp only [Act.put, List.setIfInBounds_toArray, List.set_cons_zero, List.set_cons_succ]
      refine wpAnyH_take_at (i := 7) (v := .int .i64 x0) 32 rfl rfl (by kernel_rfl) (by kernel_rfl) (by kernel_rfl) (fun _ _ _ h => h) (.inl ⟨rfl, fun X hX => by obtain ⟨k0, k1, k2⟩ := HK.out X hX; go_simp⟩) hX ?_
      simp only [Act.put, List.setIfInBounds_toArray, List.set_cons_zero, List.set_cons_succ]
      refine wpAnyH_take_at (i := 8) (v := .int .i64 ((at0 : Int) + 3 + (x0 : Int))) 33 rfl rfl (by kernel_rfl) (by kernel_rfl) (by kernel_rfl) (fun _ _ _ h => h) (.inl ⟨rfl, fun X hX => by go_simp; all_goals (first | omega | exact i64_self (by omega) (by omega) | (rw [i64_self (by omega) (by omega)]; omega))⟩) hX ?_
      simp only [Act.put, List.setIfInBounds_toArray, List.set_cons_zero, List.set_cons_succ]
      refine wpAnyH_take_at (i := 9) (v := .slice bp x0 (cw - (at0 + 3))) 34 rfl rfl (by kernel_rfl) (by kernel_rfl) (by kernel_rfl) (fun _ _ _ h => h) (.inl ⟨rfl, fun X hX => by go_simp; rw [if_pos (show 0 ≤ (at0 : Int) + 3 ∧ (at0 : Int) + 3 ≤ max ((at0 : Int) + 3 + (x0 : Int)) 0 from ⟨by omega, by omega⟩), HBP.out, show ((at0 : Int) + 3).toNat = at0 + 3 by omega, show ((at0 : Int) + 3 + (x0 : Int)).toNat = at0 + 3 + x0 by omega, Nat.add_sub_cancel_left, if_pos (show 0 ≤ (at0 : Int) + 3 + (x0 : Int) ∧ (at0 : Int) + 3 + (x0 : Int) ≤ (cw : Int) from ⟨by omega, by omega⟩)]⟩) hX ?_
      simp only [Act.put, List.setIfInBounds_toArray, List.set_cons_zero, List.set_cons_succ]
      refine wpAnyH_take_at (i := 10) (v := .pointer (some ⟨V.heap.size, 2, none⟩)) 35 rfl rfl (by kernel_rfl) (by kernel_rfl) (by kernel_rfl) (fun _ _ _ h => h) (.inl ⟨rfl, fun X hX => by go_simp⟩) hX ?_
      simp only [Act.put, List.setIfInBounds_toArray, List.set_cons_zero, List.set_cons_succ]
      refine wpAnyH_take_at (i := 11) (v := .int .i64 x2) 36 rfl rfl (by kernel_rfl) (by kernel_rfl) (by kernel_rfl) (fun _ _ _ h => h) (.inl ⟨rfl, fun X hX => by obtain ⟨k0, k1, k2⟩ := HK.out X hX; go_simp⟩) hX ?_
      simp only [Act.put, List.setIfInBounds_toArray, List.set_cons_zero, List.set_cons_succ]
      refine wpAnyH_all (rs := [12]) (by kernel_rfl) (by decide) (fun i hi => ?_)
      rw [List.mem_singleton] at hi
      subst hi
      unfold wpOp
      go_simp
      refine .inl ((HUn.out _ (HHX.out _ hX) bp HBP1.out _).mono ?_)
      rintro e X1 ⟨⟨g, rfl, hg, hlay⟩, hb⟩
      replace hX := hX.trans (hb.mono hX.size)
      have HLay := Lib.hid hlay
      clear hb hg hlay
      refine ⟨hX, ?_⟩
      refine wpAnyH_take_at (i := 13) (v := .slice (some ⟨g, 0, none⟩) ln ln) 38 rfl rfl (by kernel_rfl) (by kernel_rfl) (by kernel_rfl) (fun _ _ _ h => h) (.inl ⟨rfl, fun X hX => by go_simp⟩) hX ?_
      simp only [Act.put, List.setIfInBounds_toArray, List.set_cons_zero, List.set_cons_succ]
      refine wpAnyH_take_at (i := 14) (v := .int .i64 0) 39 rfl rfl (by kernel_rfl) (by kernel_rfl) (by kernel_rfl) (fun _ _ _ h => h) (.inl ⟨rfl, fun X hX => by go_simp⟩) hX ?_
      simp only [Act.put, List.setIfInBounds_toArray, List.set_cons_zero, List.set_cons_succ]
      refine wpAnyH_take_at (i := 15) (v := .slice (some ⟨g, 0, none⟩) ln ln) 4 rfl rfl (by kernel_rfl) (by kernel_rfl) (by kernel_rfl) (fun _ _ _ h => h) (.inl ⟨rfl, fun X hX => by go_simp⟩) hX ?_
      simp only [Act.put, List.setIfInBounds_toArray, List.set_cons_zero, List.set_cons_succ]
      refine wpAnyH_take_at (i := 16) (v := .int .i64 0) 5 rfl rfl (by kernel_rfl) (by kernel_rfl) (by kernel_rfl) (fun _ _ _ h => h) (.inl ⟨rfl, fun X hX => by go_simp⟩) hX ?_
      simp only [Act.put, List.setIfInBounds_toArray, List.set_cons_zero, List.set_cons_succ]
      refine wpAnyH_done (by kernel_rfl) ?_ _
      have HBf := Lib.hid (hB.trans (hX.mono hB.size))
      clear HK HHX HUn HBP HBP1 hX
      go_wp2_with fail
      go_ret2
      exact ⟨⟨_, _, rfl, fun _ => ⟨⟨_, rfl⟩, HLay.out⟩⟩, HBf.out⟩
    · have eb : bytE h o = 21 := by unfold bytE; rw [if_pos hi, if_neg hf]
      rw [eb, if_neg (by decide)]
      have q : (((hdO h o).fmt : Int) != 2) = true := by rw [bne_iff_ne]; omega
      have q2 : (((hdO h o).fmt : Int) == 2) = false := by rw [beq_eq_false_iff_ne]; omega
      have q3 : ((hdO h o).fmt == 2) = false := by rw [beq_eq_false_iff_ne]; exact hf
      generalize hdO h o = x at *
      generalize x.fmt = x1 at *
      have HD := Lib.hid hd
      clear hd e1 e2 hok eb hi H
      go_enter Tryz.func27, Tryz.ntmps27
      go_wp2_with fail
      refine (HD.out).mono ?_
      rintro e V ⟨rfl, hB⟩
      (try dsimp only)
      have hE := hB.alloc hB.size (.cells #[.int .i64 x.size, .int .i64 x1, .int .i64 x.spare, .int .u32 x.cls, .int .u32 x.ser] 102)
      go_wp2_with fail
      go_ret2
      exact ⟨⟨_, _, rfl, fun h => absurd h (by decide)⟩, hE⟩
  · have e2 : erX h o = 3 := by unfold erX; rw [if_neg hi]
    have e1 : hdX h o = hdZ := by unfold hdX; rw [if_neg hi]
    have eb : bytE h o = 3 := by unfold bytE; rw [if_neg hi]
    rw [eb, if_neg (by decide)]
    have hd := HD.out
    rw [e1, e2, show hdV hdZ = .agg #[.int .i64 0, .int .i64 0, .int .i64 0, .int .u32 0, .int .u32 0] from rfl] at hd
    have HD := Lib.hid hd
    clear hd e1 e2 eb hi H
    go_enter Tryz.func27, Tryz.ntmps27
    go_wp2_with fail
    refine (HD.out).mono ?_
    rintro e V ⟨rfl, hB⟩
    (try dsimp only)
    have hE := hB.alloc hB.size (.cells #[.int .i64 0, .int .i64 0, .int .i64 0, .int .u32 0, .int .u32 0] 102)
    go_wp2_with fail
    go_ret2
    exact ⟨⟨_, _, rfl, fun h => absurd h (by decide)⟩, hE⟩
end
end Go.Proofs.YteiikhcadjdkcaaGreatDoor
namespace Go.Proofs.YteiikhcadjdkcaaGreatDoor
open Go Go.RowKit Go.Maps Go.Sort Go.Shelf Limb
theorem sorts_a (m : Nat) : AnyZI.SortsIn Tryz.prog Tryz.sortedA_ren Fence.wide m :=
  ⟨fun blk off cap ss W hH hblk hsz => callsIn_wide.2 (AnyM.slices_Sort_int Tryz.sortA blk off cap ss W hH hblk hsz),
   fun p cap W => callsIn_wide.2 (AnyM.slices_Sort_int_none Tryz.sortA p cap W)⟩
def numsK : List Int := [1, 2, 3, 4, 5, 6, 7, 8, 9, 10, 11, 12, 13, 14, 15, 16, 17, 18, 19, 40, 41, 42, 43, 44, 45, 46, 47, 48, 49, 50, 51, 52, 53, 54, 55, 56, 60, 61, 62, 63, 64, 70, 71, 72, 73, 74, 75, 80, 81, 82, 83, 84, 85, 86, 87, 88, 90, 91, 92, 120, 121, 122, 123, 124, 125, 126]
theorem sorted_keys {ss : List Int} (h : ss.Perm (upK 5)) : ss.mergeSort (fun x y => decide (x ≤ y)) = numsK := by
  rw [mergeSort_of_perm_i (h.trans (show (upK 5).Perm numsK by decide +kernel))]
  exact List.mergeSort_of_pairwise (by decide +kernel)
set_option maxHeartbeats 1000000 in
set_option maxRecDepth 100000 in
theorem prim_numbers (w : World) : Calls Tryz.prog 19 #[] w fun e w' => ∃ g c, e = .returned (.slice (some ⟨g, 0, none⟩) 66 c) ∧ Sl w' g 3 66 c (numsK.map encZ) ∧ w.heap.size ≤ g ∧ Below w.heap.size w w' := by
  refine (callsIn_wide (n := 6)).1 ?_
  refine callsIn_of_wp Tryz.func19 rfl trivial ?_ rfl
  simp only [Tryz.ntmps19, List.size_toArray, List.length_cons, List.length_nil, Nat.reduceAdd, Nat.reduceSub, Array.replicate_succ, Array.replicate_zero, List.push_toArray, List.append_toArray, List.nil_append, List.cons_append]
  have hfT : Fence.wide.fn 25 := trivial
  have cT : ∀ W, CallsIn Fence.wide 5 Tryz.prog 25 #[] W fun e w' => ∃ b l, e = .returned (.map (some b)) ∧ OwnM W w' b l ∧ l.map (·.1) = upK 5 := fun W => callsIn_wide.2 ((tab_all W).mono fun e w' ⟨b, a, c, r, h1, h2, h3, _⟩ => ⟨b, _, h1, h2, h3⟩)
  have cK : ∀ mb W, CallsIn Fence.wide 5 Tryz.prog 45 #[.map mb] W fun e w' => e = .returned (.func (.func 71) #[] #[.pointer (some ⟨W.heap.size, 0, none⟩)]) ∧ w' = W.alloc (.cells #[.map mb] 66) := fun mb W => AnyZI.keys_in Tryz.keysA Fence.wide 5 trivial rfl mb W
  have hfK : Fence.wide.fn 45 := trivial
  have hfS : Fence.wide.fn 44 := trivial
  gi_wp2_with fail
  refine (cT _).mono ?_
  rintro e W ⟨b, l, rfl, hO, hk⟩
  (try dsimp only)
  have okl := ksOk_parts hk (upK_ok 5 (by omega))
  have hown : W.ownsMap Tryz.prog 3 heldR b l.length (putsD l) := hO.2.1
  have hbl := hown.lt
  have hsz := putsD_size okl.1 okl.2.1
  have hseq : SeqGives Fence.wide 2 Tryz.prog 71 #[.pointer (some ⟨W.heap.size, 0, none⟩)] encZ (fun ss => ss.Perm (intKeys (putsD l))) (Maps.size (putsD l)) (W.alloc (.cells #[.map (some b)] 66)) :=
    AnyZI.keys_gives (ρ := Tryz.keysA_ren) { Tryz.keysA with } Fence.wide _ trivial rfl (by omega) W.heap.size b l.length (putsD l) _ (by simp) (by simp) (by
      obtain ⟨es, clock, hb, Ft, hs, hD⟩ := hown
      exact ⟨es, clock, (Below.heap_alloc _ _ b hbl).trans hb, Ft, hs, hD⟩)
  have cS := AnyZI.sorted_in Tryz.sortedA Fence.wide 5 trivial trivial trivial trivial rfl (by omega) (sorts_a _) (enters_of Tryz.func70 (by kernel_rfl) rfl) 71 #[.pointer (some ⟨W.heap.size, 0, none⟩)] trivial (enters_of Tryz.func71 (by kernel_rfl) rfl) _ _ (by rw [hsz]; unfold maxLen; have := okl.2.2; omega) (by rw [hsz]; have := okl.2.2; omega) _ hseq
  change CallsIn _ _ Tryz.prog 44 _ _ _ at cS
  have HS := Lib.hid cS
  have HO := Lib.hid hO
  have HP := Lib.hid (show (intKeys (putsD l)).Perm (upK 5) from by rw [← hk]; exact (putsD_keys okl.1 okl.2.1).symm)
  clear okl hown hbl hsz hseq cS hO hk
  gi_wp2_with (first
    | (gi_at_call 45; refine (cK _ _).mono ?_; rintro e w' ⟨rfl, rfl⟩)
    | (gi_at_call 44; refine HS.out.mono ?_; rintro e w' ⟨v, ss, rfl, hS, hrow, hnil, hb⟩))
  have hlen : ss.length = 66 := by
    have := (hS.trans HP.out).length_eq
    rw [this]; decide +kernel
  have hsk := sorted_keys (hS.trans HP.out)
  rw [hsk, hlen] at hrow
  obtain ⟨g, c, rfl, hgb, hsl⟩ := Sl.of_owns (show w'.ownsRow 0 3 1 v 66 (numsK.map encZ) from ⟨hrow.1, hrow.2.imp id (fun ⟨g, cap, cur, h1, h2, h3⟩ => ⟨g, cap, cur, h1, Nat.zero_le _, h3⟩)⟩) (by omega)
  have hge : w.heap.size ≤ g := by
    have h2 := hrow.2
    rcases h2 with ⟨h3, _⟩ | ⟨g', cap, cur, h1, h2, _⟩
    · cases h3
    · simp only [Value.slice.injEq, Option.some.injEq, Addr.mk.injEq, and_true, true_and] at h1
      have := HO.out.2.2.size
      have h4 : (W.alloc (.cells #[.map (some b)] 66)).heap.size = W.heap.size + 1 := World.size_alloc _ _
      omega
  have hbb : Below w.heap.size w w' := (HO.out.2.2.alloc HO.out.2.2.size _).trans (hb.mono (by have h4 : (W.alloc (.cells #[.map (some b)] 66)).heap.size = W.heap.size + 1 := World.size_alloc _ _; have := HO.out.2.2.size; omega))
  clear hrow hS hnil hsk hlen hb HS HP HO cK cT hgb
  go_ret
  exact ⟨g, c, rfl, hsl, hge, hbb⟩
end Go.Proofs.YteiikhcadjdkcaaGreatDoor
