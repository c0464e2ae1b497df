/- Primitive 43 of a String's first byte: atPut. prim.Data of primitives over objects: none, one or two arguments. Primitive 54 over Strings: part. -/
import Derived.Test.YteiikhcadjdkcaaGreatDoorGX34
import Derived.Test.YteiikhcadjdkcaaGreatDoorGX31
import Derived.Test.YteiikhcadjdkcaaGreatDoorGX29
import Derived.Deep.Upon
set_option linter.unusedVariables false
set_option linter.unusedSimpArgs false
namespace Go.Proofs.YteiikhcadjdkcaaGreatDoor
open Go Go.RowKit Limb
theorem prim_ints1 (w : World) (ga q : Nat) (hq : q % 2 = 1) (hq2 : q < 4294967296) (R : Row w ga 30 [.int .u32 (q : Nat)]) {z : Int} (hz : valueO q = z) :
    Calls Tryz.prog 103 #[.slice (some ⟨ga, 0, none⟩) 1 1] w fun e w' => ∃ g c, e = .returned (.tuple #[.slice (some ⟨g, 0, none⟩) 1 c, .bool true]) ∧ Sl w' g 3 1 c (ivs [z]) ∧ w.heap.size ≤ g ∧ Below w.heap.size w w' :=
  (prim_ints w ga 1 [q] rfl (by decide) R (fun k hk => by
    obtain rfl : k = 0 := by omega
    exact ⟨hq, hq2⟩)).mono fun e w' ⟨v, he, hO, hB⟩ => by
    rcases hO with ⟨_, e1⟩ | ⟨g, c, rfl, h2, h3, _⟩
    · cases e1
    · exact ⟨g, c, he, by rw [← hz]; exact h2, h3, hB⟩
section
variable {w : World} {F : Foot} {h : Hp}
set_option maxHeartbeats 6400000 in
set_option maxRecDepth 1000000 in
theorem prim_atPut (H : HeapAt w F h) (S : SC h) {p r ga q v vb : Nat} (R : Row w p 57 (callC F.p r (some ⟨ga, 0, none⟩) 2 2 v)) (A : Row w ga 30 [.int .u32 3, .int .u32 (q : Nat)])
    (hq : q % 2 = 1) (hq2 : q < 4294967296) (hv : valueO q = (vb : Nat)) (hvb : vb < 256) (hga : ga ∉ F.l) (hpF : p ∉ F.l) (h5 : 5 ≤ p) {t : List Nat} (b : Bs h r (wd h.rt 19) t) (hl : t.length ≤ 262140) (h0 : 0 < t.length) :
    Calls Tryz.prog 105 #[.pointer (some ⟨p, 0, none⟩)] w fun e w' => e = .returned (.int .i64 1) ∧ Done w F p r (some ⟨ga, 0, none⟩) 2 2 w' q (setB h r 0 vb) := by
  obtain ⟨x0, x1, x2, x3, x4, hx⟩ : ∃ x0 x1 x2 x3 x4, hdO h r = ⟨x0, x1, x2, x3, x4⟩ := ⟨_, _, _, _, _, rfl⟩
  have HI1 := Lib.hid (fun X g (rv : Row X g 30 [.int .u32 3]) => prim_ints1 X g 3 (by decide) (by decide) rv (z := 1) (by decide))
  have HI2 := Lib.hid (fun X g (rv : Row X g 30 [.int .u32 (q : Nat)]) => prim_ints1 X g q hq hq2 rv hv)
  have HIx := Lib.hid (fun X (hb : Below w.heap.size w X) => prim_indexed (H.below hb) S (R.below hb R.lt) b hl hx)
  have HCl := Lib.hid (fun X (hb : Below w.heap.size w X) => prim_closed_no (H.below hb) S (R.below hb R.lt) b)
  have HSb := Lib.hid (fun X (hb : Below w.heap.size w X) => heap_setbyte (H.below hb) (i := 0) b.is b.fmt (by rw [b.len]; exact h0) hvb)
  have HFw := Lib.hid H.lt
  have HR := Lib.hid R
  have HA := Lib.hid A
  have HpF := Lib.hid (And.intro hpF h5)
  have HgF := Lib.hid hga
  have HGp := Lib.hid (show ga ≠ p from fun e => by subst e; unfold Row at R A; rw [R] at A; simp [callC] at A)
  have HJ0 := Lib.hid (fun W => row_index (P := Tryz.prog) Tryz.underlying53 size_oop ga 2 2 .i64 ((0 : Nat) : Int) 0 rfl (by decide) (W := W))
  have HJ1 := Lib.hid (fun W => row_index (P := Tryz.prog) Tryz.underlying53 size_oop ga 2 2 .i64 ((1 : Nat) : Int) 1 rfl (by decide) (W := W))
  have a0 := A.cell_at 0
  have c3 := R.cell_at 3
  unfold callC at c3
  simp only [List.getElem?_cons_zero, List.getElem?_cons_succ] at c3 a0
  obtain ⟨W1, hW1, r1, b1, z1⟩ := alloc_row w 30 [.int .u32 3]
  have HW1 := Lib.hid hW1
  have HB1 := Lib.hid b1
  have HI := Lib.hid (HI1.out W1 _ r1)
  have ix := HJ0.out
  obtain ⟨tl, htl⟩ : ∃ tl, tl = t.length := ⟨_, rfl⟩
  rw [← htl] at HIx h0 hl
  have Hd1 := Lib.hid (show decide ((tl : Int) < 1) = false from decide_eq_false (by omega))
  have Hd2 := Lib.hid (show decide ((1 : Int) ≤ (tl : Int)) = true from decide_eq_true (by omega))
  have Hv1 := Lib.hid (show decide ((vb : Int) < 0) = false from decide_eq_false (by omega))
  have Hv2 := Lib.hid (show decide (255 < (vb : Int)) = false from decide_eq_false (by omega))
  have Hv3 := Lib.hid hvb
  clear H S R A hq hq2 hv hga hpF h5 b hx hl h0 hW1 r1 b1 z1 HI1 htl hvb
  go_enter Tryz.func105, Tryz.ntmps105
  go_wp2_with fail
  rw [← HW1.out]
  refine HI.out.mono ?_
  rintro e V1 ⟨gl, cl, rfl, hsl, hgl, hb⟩
  (try dsimp only)
  have HB2 := Lib.hid (HB1.out.trans (hb.mono HB1.out.size))
  have HSl := Lib.hid hsl
  have q2 := (HR.out.below HB2.out HR.out.lt).cell_at 2
  unfold callC at q2
  simp only [List.getElem?_cons_zero, List.getElem?_cons_succ] at q2
  clear hsl hgl hb a0 c3 ix HI HB1 HW1
  go_wp2_with fail
  refine (HIx.out _ HB2.out).mono ?_
  rintro e V2 ⟨rfl, hb⟩
  (try dsimp only)
  obtain ⟨V3, hV3, r3, hb3, hz3⟩ := alloc_row V2 102 [.int .i64 x0, .int .i64 2, .int .i64 x2, .int .u32 x3, .int .u32 x4]
  have HV3 := Lib.hid hV3
  have hbb := hb.trans (hb3.mono hb.size)
  have HB3 := Lib.hid (HB2.out.trans (hbb.mono HB2.out.size))
  have HSl3 := Lib.hid (HSl.out.below hbb)
  obtain ⟨k, hk⟩ : ∃ g, g = V2.heap.size := ⟨_, rfl⟩
  rw [← hk] at r3
  have Hk := Lib.hid hk
  have R3 := Lib.hid r3
  clear hV3 hb3 hz3 hb hbb hk r3 HIx HSl HB2 q2
  go_upto_region 3 with fail
  rw [← HV3.out, ← Hk.out]
  have q2 := (HR.out.below HB3.out HR.out.lt).cell_at 2
  unfold callC at q2
  simp only [List.getElem?_cons_zero, List.getElem?_cons_succ] at q2
  go_wp2_with fail
  refine (HCl.out _ HB3.out).mono ?_
  rintro e V4 ⟨rfl, hb⟩
  (try dsimp only)
  have HB4 := Lib.hid (HB3.out.trans (hb.mono HB3.out.size))
  have HSl4 := Lib.hid (HSl3.out.below hb)
  have R4 := Lib.hid (R3.out.below hb R3.out.lt)
  have jx := fun W => HSl4.out.index 48 Tryz.underlying48 size_int W .i64 0 (by decide)
  have s0 : V4.cell? ⟨gl, 0, none⟩ = some (.int .i64 1) := HSl4.out.cell (i := 0) (by decide)
  have d1 := Hd1.out
  have d2 := Hd2.out
  obtain ⟨k0, k1, k2, k3, k4⟩ := R4.out.cells5
  have a1 := (HA.out.below HB4.out HA.out.lt).cell_at 1
  have c3 := (HR.out.below HB4.out HR.out.lt).cell_at 3
  unfold callC at c3
  simp only [List.getElem?_cons_zero, List.getElem?_cons_succ] at c3 a1
  obtain ⟨V5, hV5, r5, hb5, hz5⟩ := alloc_row V4 30 [.int .u32 (q : Nat)]
  have HV5 := Lib.hid hV5
  have HB5 := Lib.hid (HB4.out.trans (hb5.mono HB4.out.size))
  have R5 := Lib.hid (R4.out.below hb5 R4.out.lt)
  have HI := Lib.hid (HI2.out V5 _ r5)
  have ix := HJ1.out
  clear hb q2 HCl HB3 R3 HSl3 hV5 r5 hb5 hz5 HI2 HV3 Hk
  go_upto_region 8 with fail
  clear jx s0 d1 d2 k0 k1 k2 k3 k4
  go_wp2_with fail
  rw [← HV5.out]
  refine HI.out.mono ?_
  rintro e V6 ⟨gv, cv, rfl, hsl, hgv, hb⟩
  (try dsimp only)
  have HB6 := Lib.hid (HB5.out.trans (hb.mono HB5.out.size))
  have HSv := Lib.hid hsl
  have HGv := Lib.hid (show w.heap.size ≤ gv from Nat.le_trans HB5.out.size hgv)
  have R6 := Lib.hid (R5.out.below hb R5.out.lt)
  obtain ⟨k0, k1, k2, k3, k4⟩ := R6.out.cells5
  have HJv := Lib.hid (fun W => HSv.out.index 48 Tryz.underlying48 size_int W .i64 0 (by decide))
  have jx := HJv.out
  have s0 : V6.cell? ⟨gv, 0, none⟩ = some (.int .i64 (vb : Nat)) := HSv.out.cell (i := 0) (by decide)
  have v1 := Hv1.out
  have v2 := Hv2.out
  clear hsl hgv hb a1 c3 ix HI HB5 HV5 R5 HB4 R4 HSl4
  go_upto_region 12 with fail
  clear jx s0 v1 v2 k0 k1 k2 k3 k4
  have SX := Lib.hid (fun X (hb : Below V6.heap.size V6 X) => show X.cell? ⟨p, 1, none⟩ = some (.pointer (some ⟨F.p, 0, none⟩)) ∧ X.cell? ⟨p, 2, none⟩ = some (.int .u32 (r : Nat)) ∧ X.cell? ⟨p, 3, none⟩ = some (.slice (some ⟨ga, 0, none⟩) 2 2) ∧ X.cell? ⟨ga, 1, none⟩ = some (.int .u32 (q : Nat)) ∧ X.cell? ⟨gv, 0, none⟩ = some (.int .i64 (vb : Nat)) from
    ⟨((HR.out.below HB6.out HR.out.lt).below hb (Nat.lt_of_lt_of_le HR.out.lt HB6.out.size)).cell_at 1, ((HR.out.below HB6.out HR.out.lt).below hb (Nat.lt_of_lt_of_le HR.out.lt HB6.out.size)).cell_at 2, ((HR.out.below HB6.out HR.out.lt).below hb (Nat.lt_of_lt_of_le HR.out.lt HB6.out.size)).cell_at 3, ((HA.out.below HB6.out HA.out.lt).below hb (Nat.lt_of_lt_of_le HA.out.lt HB6.out.size)).cell_at 1, (HSv.out.below hb).cell (i := 0) (by decide)⟩)
  have hX := SX.out _ (Below.refl _ _).drew
  have HBd := Lib.hid (HB6.out.drew)
  have HWv := Lib.hid (show IntKind.u8.wrap ((vb : Nat) : Int) = (vb : Nat) from by have := Hv3.out; simp only [IntKind.wrap, IntKind.bits, IntKind.signed]; simp; omega)
  go_wp2_with fail
  refine wp_region_held (S := fun X => X.cell? ⟨p, 1, none⟩ = some (.pointer (some ⟨F.p, 0, none⟩)) ∧ X.cell? ⟨p, 2, none⟩ = some (.int .u32 (r : Nat)) ∧ X.cell? ⟨p, 3, none⟩ = some (.slice (some ⟨ga, 0, none⟩) 2 2) ∧ X.cell? ⟨ga, 1, none⟩ = some (.int .u32 (q : Nat)) ∧ X.cell? ⟨gv, 0, none⟩ = some (.int .i64 (vb : Nat))) (by kernel_rfl) ?_
  refine wpAnyH_take_at (i := 0) (v := .pointer (some ⟨p, 0, none⟩)) 131 rfl rfl (by kernel_rfl) (by kernel_rfl) (by kernel_rfl) (fun _ _ _ h => h) (.inl ⟨rfl, fun X hX => by go_simp⟩) hX ?_
  simp only [Act.put, List.setIfInBounds_toArray, List.set_cons_zero, List.set_cons_succ]
  refine wpAnyH_take_at (i := 1) (v := .pointer (some ⟨p, 0, none⟩)) 132 rfl rfl (by kernel_rfl) (by kernel_rfl) (by kernel_rfl) (fun _ _ _ h => h) (.inl ⟨rfl, fun X hX => by go_simp⟩) hX ?_
  simp only [Act.put, List.setIfInBounds_toArray, List.set_cons_zero, List.set_cons_succ]
  refine wpAnyH_take_at (i := 2) (v := .pointer (some ⟨p, 0, none⟩)) 133 rfl rfl (by kernel_rfl) (by kernel_rfl) (by kernel_rfl) (fun _ _ _ h => h) (.inl ⟨rfl, fun X hX => by go_simp⟩) hX ?_
  simp only [Act.put, List.setIfInBounds_toArray, List.set_cons_zero, List.set_cons_succ]
  refine wpAnyH_take_at (i := 3) (v := .pointer (some ⟨p, 3, none⟩)) 134 rfl rfl (by kernel_rfl) (by kernel_rfl) (by kernel_rfl) (fun _ _ _ h => h) (.inl ⟨rfl, fun X hX => by go_simp⟩) hX ?_
  simp only [Act.put, List.setIfInBounds_toArray, List.set_cons_zero, List.set_cons_succ]
  refine wpAnyH_take_at (i := 4) (v := .slice (some ⟨ga, 0, none⟩) 2 2) 135 rfl rfl (by kernel_rfl) (by kernel_rfl) (by kernel_rfl) (fun _ _ _ h => h) (.inl ⟨rfl, fun X hX => by obtain ⟨s0, s1, s2, s3, s4⟩ := hX; go_simp⟩) hX ?_
  simp only [Act.put, List.setIfInBounds_toArray, List.set_cons_zero, List.set_cons_succ]
  refine wpAnyH_take_at (i := 5) (v := .pointer (some ⟨ga, 1, none⟩)) 136 rfl rfl (by kernel_rfl) (by kernel_rfl) (by kernel_rfl) (fun _ _ _ h => h) (.inl ⟨rfl, fun X hX => by have ix := HJ1.out X; go_simp⟩) hX ?_
  simp only [Act.put, List.setIfInBounds_toArray, List.set_cons_zero, List.set_cons_succ]
  refine wpAnyH_take_at (i := 6) (v := .int .u32 (q : Nat)) 137 rfl rfl (by kernel_rfl) (by kernel_rfl) (by kernel_rfl) (fun _ _ _ h => h) (.inl ⟨rfl, fun X hX => by obtain ⟨s0, s1, s2, s3, s4⟩ := hX; go_simp⟩) hX ?_
  simp only [Act.put, List.setIfInBounds_toArray, List.set_cons_zero, List.set_cons_succ]
  refine wpAnyH_take_at (i := 7) (v := .pointer (some ⟨p, 0, none⟩)) 138 rfl rfl (by kernel_rfl) (by kernel_rfl) (by kernel_rfl) (fun _ _ _ h => h) (.inl ⟨rfl, fun X hX => by go_simp⟩) hX ?_
  simp only [Act.put, List.setIfInBounds_toArray, List.set_cons_zero, List.set_cons_succ]
  refine wpAnyH_take_at (i := 8) (v := .pointer (some ⟨p, 0, none⟩)) 139 rfl rfl (by kernel_rfl) (by kernel_rfl) (by kernel_rfl) (fun _ _ _ h => h) (.inl ⟨rfl, fun X hX => by go_simp⟩) hX ?_
  simp only [Act.put, List.setIfInBounds_toArray, List.set_cons_zero, List.set_cons_succ]
  refine wpAnyH_take_at (i := 9) (v := .pointer (some ⟨p, 1, none⟩)) 140 rfl rfl (by kernel_rfl) (by kernel_rfl) (by kernel_rfl) (fun _ _ _ h => h) (.inl ⟨rfl, fun X hX => by go_simp⟩) hX ?_
  simp only [Act.put, List.setIfInBounds_toArray, List.set_cons_zero, List.set_cons_succ]
  refine wpAnyH_take_at (i := 10) (v := .pointer (some ⟨F.p, 0, none⟩)) 141 rfl rfl (by kernel_rfl) (by kernel_rfl) (by kernel_rfl) (fun _ _ _ h => h) (.inl ⟨rfl, fun X hX => by obtain ⟨s0, s1, s2, s3, s4⟩ := hX; go_simp⟩) hX ?_
  simp only [Act.put, List.setIfInBounds_toArray, List.set_cons_zero, List.set_cons_succ]
  refine wpAnyH_take_at (i := 11) (v := .pointer (some ⟨p, 0, none⟩)) 142 rfl rfl (by kernel_rfl) (by kernel_rfl) (by kernel_rfl) (fun _ _ _ h => h) (.inl ⟨rfl, fun X hX => by go_simp⟩) hX ?_
  simp only [Act.put, List.setIfInBounds_toArray, List.set_cons_zero, List.set_cons_succ]
  refine wpAnyH_take_at (i := 12) (v := .pointer (some ⟨p, 0, none⟩)) 143 rfl rfl (by kernel_rfl) (by kernel_rfl) (by kernel_rfl) (fun _ _ _ h => h) (.inl ⟨rfl, fun X hX => by go_simp⟩) hX ?_
  simp only [Act.put, List.setIfInBounds_toArray, List.set_cons_zero, List.set_cons_succ]
  refine wpAnyH_take_at (i := 13) (v := .pointer (some ⟨p, 2, none⟩)) 144 rfl rfl (by kernel_rfl) (by kernel_rfl) (by kernel_rfl) (fun _ _ _ h => h) (.inl ⟨rfl, fun X hX => by go_simp⟩) hX ?_
  simp only [Act.put, List.setIfInBounds_toArray, List.set_cons_zero, List.set_cons_succ]
  refine wpAnyH_take_at (i := 14) (v := .int .u32 (r : Nat)) 145 rfl rfl (by kernel_rfl) (by kernel_rfl) (by kernel_rfl) (fun _ _ _ h => h) (.inl ⟨rfl, fun X hX => by obtain ⟨s0, s1, s2, s3, s4⟩ := hX; go_simp⟩) hX ?_
  simp only [Act.put, List.setIfInBounds_toArray, List.set_cons_zero, List.set_cons_succ]
  refine wpAnyH_take_at (i := 15) (v := .int .i64 0) 146 rfl rfl (by kernel_rfl) (by kernel_rfl) (by kernel_rfl) (fun _ _ _ h => h) (.inl ⟨rfl, fun X hX => by go_simp⟩) hX ?_
  simp only [Act.put, List.setIfInBounds_toArray, List.set_cons_zero, List.set_cons_succ]
  refine wpAnyH_take_at (i := 16) (v := .slice (some ⟨gv, 0, none⟩) 1 cv) 147 rfl rfl (by kernel_rfl) (by kernel_rfl) (by kernel_rfl) (fun _ _ _ h => h) (.inl ⟨rfl, fun X hX => by go_simp⟩) hX ?_
  simp only [Act.put, List.setIfInBounds_toArray, List.set_cons_zero, List.set_cons_succ]
  refine wpAnyH_take_at (i := 17) (v := .pointer (some ⟨gv, 0, none⟩)) 148 rfl rfl (by kernel_rfl) (by kernel_rfl) (by kernel_rfl) (fun _ _ _ h => h) (.inl ⟨rfl, fun X hX => by have ix := HJv.out X; go_simp⟩) hX ?_
  simp only [Act.put, List.setIfInBounds_toArray, List.set_cons_zero, List.set_cons_succ]
  refine wpAnyH_take_at (i := 18) (v := .int .i64 (vb : Nat)) 149 rfl rfl (by kernel_rfl) (by kernel_rfl) (by kernel_rfl) (fun _ _ _ h => h) (.inl ⟨rfl, fun X hX => by obtain ⟨s0, s1, s2, s3, s4⟩ := hX; go_simp⟩) hX ?_
  simp only [Act.put, List.setIfInBounds_toArray, List.set_cons_zero, List.set_cons_succ]
  refine wpAnyH_take_at (i := 19) (v := .int .u8 (vb : Nat)) 150 rfl rfl (by kernel_rfl) (by kernel_rfl) (by kernel_rfl) (fun _ _ _ h => h) (.inl ⟨rfl, fun X hX => by go_simp; exact HWv.out⟩) hX ?_
  simp only [Act.put, List.setIfInBounds_toArray, List.set_cons_zero, List.set_cons_succ]
  refine wpAnyH_all (rs := [20]) (by kernel_rfl) (by decide) (fun i hi => ?_)
  rw [List.mem_singleton] at hi
  subst hi
  unfold wpOp
  go_simp
  refine .inl ((HSb.out _ HBd.out).mono ?_)
  rintro e X1 ⟨rfl, hst⟩
  have hFg : gv ∉ F.l := fun hm => by have := HFw.out gv hm; have := HGv.out; omega
  have rp := hst.beside (HR.out.below HBd.out HR.out.lt) HpF.out.1
  have ra := hst.beside (HA.out.below HBd.out HA.out.lt) HgF.out
  obtain ⟨cur, rowg⟩ := (HSv.out.below (Below.refl V6.heap.size V6).drew).row
  have rg := hst.beside rowg hFg
  have hgi2 : X1.heap[gv]? = V6.drew.heap[gv]? := by unfold Row at rg rowg; rw [rg, rowg]
  have RP := Lib.hid rp
  have RA := Lib.hid ra
  have HSt := Lib.hid hst
  have s4 := hX.2.2.2.2
  replace hX : X1.cell? ⟨p, 1, none⟩ = some (.pointer (some ⟨F.p, 0, none⟩)) ∧ X1.cell? ⟨p, 2, none⟩ = some (.int .u32 (r : Nat)) ∧ X1.cell? ⟨p, 3, none⟩ = some (.slice (some ⟨ga, 0, none⟩) 2 2) ∧ X1.cell? ⟨ga, 1, none⟩ = some (.int .u32 (q : Nat)) ∧ X1.cell? ⟨gv, 0, none⟩ = some (.int .i64 (vb : Nat)) := ⟨rp.cell_at 1, rp.cell_at 2, rp.cell_at 3, ra.cell_at 1, by rw [World.cell?_of_block hgi2]; exact s4⟩
  have HGi := Lib.hid (show gv < X1.heap.size from by have := rg.lt; exact this)
  clear hst rp ra rg rowg hgi2 s4
  refine ⟨hX, ?_⟩
  (try simp only [Act.put, List.setIfInBounds_toArray, List.set_cons_zero, List.set_cons_succ])
  refine wpAnyH_all (rs := [21]) (by kernel_rfl) (by decide) (fun i hi => ?_)
  rw [List.mem_singleton] at hi
  subst hi
  unfold wpOp
  go_simp
  refine .inl ((prim_made_ok RP.out q).mono ?_)
  rintro e X2 ⟨rfl, ro, oo⟩
  have HDn := Lib.hid (done_of (W1' := X1) HBd.out HFw.out HR.out.lt HpF.out.1 HpF.out.2 HSt.out ro oo)
  have hgp : gv ≠ p := fun e => by have := HGv.out; have := HR.out.lt; omega
  have hgi3 : X2.heap[gv]? = (X1).heap[gv]? := oo.block gv HGi.out (fun hm => hgp (List.mem_singleton.1 hm))
  have s4 := hX.2.2.2.2
  replace hX : X2.cell? ⟨p, 1, none⟩ = some (.pointer (some ⟨F.p, 0, none⟩)) ∧ X2.cell? ⟨p, 2, none⟩ = some (.int .u32 (r : Nat)) ∧ X2.cell? ⟨p, 3, none⟩ = some (.slice (some ⟨ga, 0, none⟩) 2 2) ∧ X2.cell? ⟨ga, 1, none⟩ = some (.int .u32 (q : Nat)) ∧ X2.cell? ⟨gv, 0, none⟩ = some (.int .i64 (vb : Nat)) := ⟨ro.cell_at 1, ro.cell_at 2, ro.cell_at 3, (RA.out.only oo (fun hm => HGp.out (List.mem_singleton.1 hm))).cell_at 1, by rw [World.cell?_of_block hgi3]; exact s4⟩
  clear ro oo hgi3 hgp s4
  refine ⟨hX, ?_⟩
  (try simp only [Act.put, List.setIfInBounds_toArray, List.set_cons_zero, List.set_cons_succ])
  refine wpAnyH_take_at (i := 22) (v := .int .i64 1) 2 rfl rfl (by kernel_rfl) (by kernel_rfl) (by kernel_rfl) (fun _ _ _ h => h) (.inl ⟨rfl, fun X hX => by go_simp⟩) hX ?_
  simp only [Act.put, List.setIfInBounds_toArray, List.set_cons_zero, List.set_cons_succ]
  refine wpAnyH_done (by kernel_rfl) ?_ _
  clear hX SX
  go_wp2_with fail
  go_ret
  exact ⟨rfl, HDn.out⟩
end
end Go.Proofs.YteiikhcadjdkcaaGreatDoor
namespace Go.Proofs.YteiikhcadjdkcaaGreatDoor
open Go Go.RowKit Go.Maps Limb
set_option maxRecDepth 100000 in
theorem prim_alone2 (w : World) (n : Nat) (h1 : 40 ≤ n) (h2 : n ≤ 56) : Calls Tryz.prog 26 #[.int .i64 n] w fun e w' => e = .returned (.bool true) ∧ Below w.heap.size w w' := by
  obtain ⟨V, hV, rv, hbv, hzv⟩ := alloc_row w 46 [.int .i64 1, .int .i64 19, .int .i64 40, .int .i64 56, .int .i64 60, .int .i64 64, .int .i64 75, .int .i64 75, .int .i64 85, .int .i64 87, .int .i64 92, .int .i64 92, .int .i64 122, .int .i64 126]
  have D1 := Lib.hid (decide_eq_true (show (1 : Int) ≤ (n : Int) by omega))
  have D2 := Lib.hid (decide_eq_false (show ¬ (n : Int) ≤ 19 by omega))
  have D3 := Lib.hid (decide_eq_true (show 1 ≤ n by omega))
  have D4 := Lib.hid (decide_eq_false (show ¬ n ≤ 19 by omega))
  have E1 := Lib.hid (decide_eq_true (show (40 : Int) ≤ (n : Int) by omega))
  have E2 := Lib.hid (decide_eq_true (show (n : Int) ≤ 56 by omega))
  have E3 := Lib.hid (decide_eq_true h1)
  have E4 := Lib.hid (decide_eq_true h2)
  have RV := Lib.hid rv
  have HV := Lib.hid hV
  have HB := Lib.hid hbv
  clear hV rv hbv hzv h1 h2
  go_enter Tryz.func26, Tryz.ntmps26
  go_wp2_with fail
  rw [← HV.out]
  go_loopw [14] (fun i wr => (i = .int .i64 0 ∨ i = .int .i64 1) ∧ Hid (Below V.heap.size V wr)) (fun i _ => 1 - (RowKit.intOf i).toNat)
  case atStart => exact ⟨.inl rfl, Lib.hid (Below.refl _ _)⟩
  case round =>
    obtain ⟨hi, hw⟩ := hrel
    rcases hi with rfl | rfl
    · have d1 := D1.out
      have d2 := D2.out
      have d3 := D3.out
      have d4 := D4.out
      have c0 := (RV.out.below hw.out RV.out.lt).cell_at 0
      have c1 := (RV.out.below hw.out RV.out.lt).cell_at 1
      have ix := fun W => idx_spans W w.heap.size 0 (by decide)
      simp only [List.getElem?_cons_zero, List.getElem?_cons_succ] at c0 c1
      go_wp2_with fail
      go_roundw
      case rel => exact ⟨.inr rfl, Lib.hid (hw.out.alloc hw.out.size _)⟩
      case measure => decide
    · have d1 := E1.out
      have d2 := E2.out
      have d3 := E3.out
      have d4 := E4.out
      have c0 := (RV.out.below hw.out RV.out.lt).cell_at 2
      have c1 := (RV.out.below hw.out RV.out.lt).cell_at 3
      have ix := fun W => idx_spans W w.heap.size 1 (by decide)
      simp only [List.getElem?_cons_zero, List.getElem?_cons_succ] at c0 c1
      go_wp2_with fail
      go_ret
      exact ⟨rfl, HB.out.trans ((hw.out.alloc hw.out.size _).mono HB.out.size)⟩
def ArgsAt (W : World) (ao : Option Addr) (l : List Nat) : Prop := (l = [] ∧ ao = none) ∨ ∃ ga, ao = some ⟨ga, 0, none⟩ ∧ Row W ga 30 (nums .u32 l) ∧ 0 < l.length
theorem ArgsAt.below {W W' : World} {ao : Option Addr} {l : List Nat} (h : ArgsAt W ao l) (hb : Below W.heap.size W W') : ArgsAt W' ao l := by
  rcases h with h | ⟨ga, e, r, h0⟩
  · exact .inl h
  · exact .inr ⟨ga, e, r.below hb r.lt, h0⟩
theorem app_args (W : World) {gr r : Nat} (R : Row W gr 30 [.int .u32 (r : Nat)]) {ao : Option Addr} {l : List Nat} (A : ArgsAt W ao l) (hl : l.length ≤ 100) :
    ∃ g c W', (Builtin.append_ #[53, 53] 53 #[.slice (some ⟨gr, 0, none⟩) 1 1, .slice ao l.length l.length]).run Tryz.prog W = .ok (.slice (some ⟨g, 0, none⟩) (1 + l.length) c) W' ∧ Sl W' g 30 (1 + l.length) c (nums .u32 (r :: l)) ∧ Only [gr] W W' := by
  obtain ⟨i0, hi, hz0, hz1, hz2⟩ := info_parts info_oop
  rcases A with ⟨rfl, rfl⟩ | ⟨ga, rfl, A, h0⟩
  · exact ⟨gr, 1, W, run_append_nothing (P := Tryz.prog) W _ _ _ 30 i0 Tryz.underlying53 hi _ _ _ (Nat.le_refl _) _ (Src.ofNil W Tryz.underlying53 0), R.sl (n := 1) rfl (by decide), Only.refl _ _⟩
  · have sA : Sl W ga 30 l.length l.length (nums .u32 l) := A.sl (by rw [nums_length]) (by unfold maxLen; omega)
    obtain ⟨v3, W3, hr3, hg3⟩ := run_sl_append (P := Tryz.prog) (t := 53) (ty := 53) Tryz.underlying53 hi hz0 hz1 hz2 rfl (R.sl (n := 1) rfl (by decide)) ⟨ga, 0, none⟩ l.length l.length (by omega) (nums .u32 l) sA.len (news_of sA) (fun u hu => by obtain ⟨x, _, rfl⟩ := List.mem_map.1 hu; rfl) (by unfold maxLen; omega) (by omega)
    have ho3 := hg3.only
    obtain ⟨g3, c3, rfl, sl3, -, -⟩ := hg3
    exact ⟨g3, c3, W3, hr3, sl3, ho3⟩
def RuleO (F : Foot) (h : Hp) (r : Nat) (l : List Nat) (s : Nat) (h' : Hp) (f : FuncId) : Prop :=
  (∀ args w, (callFunc f args).run Tryz.prog w = .ok (.enter f args) w) ∧ ∀ Y p ao, HeapAt Y F h → Row Y p 57 (callC F.p r ao l.length l.length 0) → ArgsAt Y ao l → p ∉ F.l → 5 ≤ p → (∀ ga, ao = some ⟨ga, 0, none⟩ → ga ∉ F.l) →
    Calls Tryz.prog f #[.pointer (some ⟨p, 0, none⟩)] Y fun e Y' => e = .returned (.int .i64 1) ∧ Done Y F p r ao l.length l.length Y' s h'
theorem moved_of {w V U : World} {F : Foot} {p r n c s : Nat} {a : Option Addr} {h' : Hp} (hb : Below w.heap.size w V) (hp : w.heap.size ≤ p) (d : Done V F p r a n c U s h') : Moved w F U h' := by
  obtain ⟨F', a1, a2, a3, -⟩ := d
  exact ⟨F', a1, (Foot.Next.refl F w).trans a2 hb.size, ⟨a3.os.trans hb.os, a3.tape.trans hb.tape, a3.output.trans hb.output, Nat.le_trans hb.size a3.size, fun k hk hn => (a3.block k (Nat.lt_of_lt_of_le hk hb.size) (fun hm => by
    rcases List.mem_cons.1 hm with e | e
    · omega
    · exact hn e)).trans (hb.block k hk)⟩⟩
section
variable {w : World} {F : Foot} {h : Hp}
set_option maxHeartbeats 6400000 in
set_option maxRecDepth 1000000 in
theorem prim_dataO (H : HeapAt w F h) (n r : Nat) (l : List Nat) {ao : Option Addr} (A : ArgsAt w ao l) (hga : ∀ ga, ao = some ⟨ga, 0, none⟩ → ga ∉ F.l) (hl : l.length ≤ 2) (h1 : 40 ≤ n) (h2 : n ≤ 56) (hr : ∀ k, k < 1 + l.length → wd (r :: l) k < 4294967296 ∧ (wd (r :: l) k % 2 = 1 ∨ isO h (wd (r :: l) k) = true)) {s : Nat} {h' : Hp} {f : FuncId}
    (HT : ∀ X, Calls Tryz.prog 25 #[] X fun e X' => ∃ b t, e = .returned (.map (some b)) ∧ OwnM X X' b t ∧ t.map (·.1) = upK 5 ∧ ((n : Int), entV (l.length, .func f, #[], #[])) ∈ t) (hR : RuleO F h r l s h' f) :
    Calls Tryz.prog 8 #[.pointer (some ⟨F.p, 0, none⟩), .int .i64 n, .int .u32 r, .slice ao l.length l.length] w fun e w' => e = .returned (.tuple #[.int .u32 (s : Nat), .int .i64 1]) ∧ Moved w F w' h' := by
  obtain ⟨W1, hW1, r1, b1, z1⟩ := alloc_row w 57 [.pointer none, .pointer (some ⟨F.p, 0, none⟩), .int .u32 (r : Nat), .slice ao l.length l.length, .int .u32 0]
  obtain ⟨W2, hW2, r2, b2, z2⟩ := alloc_row W1 30 [.int .u32 (r : Nat)]
  have A2 := (A.below b1).below b2
  obtain ⟨g3, c3, W3, hr3, sl3, ho3⟩ := app_args W2 r2 A2 (by omega)
  have hB3 : Below w.heap.size w W3 := b1.trans ((b2.trans (ho3.belowB (B := W1.heap.size) (by omega) (fun p hp => by rw [List.mem_singleton] at hp; omega))).mono b1.size)
  have R3 : Row W3 w.heap.size 57 [.pointer none, .pointer (some ⟨F.p, 0, none⟩), .int .u32 (r : Nat), .slice ao l.length l.length, .int .u32 0] := (r1.below b2 r1.lt).only ho3 (by simp; omega)
  have A3 := A.below hB3
  have HIx := Lib.hid (fun W k (hk : k < 1 + l.length) => sl3.index 53 Tryz.underlying53 size_oop W .i64 k hk)
  have HCx := Lib.hid (fun k (hk : k < 1 + l.length) => show W3.cell? ⟨g3, k, none⟩ = some (.int .u32 (wd (r :: l) k : Nat)) from by
    have := sl3.cell hk
    rwa [nums_get (by rw [List.length_cons]; omega)] at this)
  have HK := Lib.hid (fun k (hk : k < 1 + l.length) => oop_kind W3 (wd (r :: l) k) (hr k hk).1)
  have HIs := Lib.hid (fun k (hk : k < 1 + l.length) => heap_is (H.below hB3) (wd (r :: l) k) (hr k hk).1)
  have HCs := Lib.hid (fun k (hk : k < 1 + l.length) => show (kindN (wd (r :: l) k) = 1) ∨ (kindN (wd (r :: l) k) = 2 ∧ isO h (wd (r :: l) k) = true) from by
    rcases (hr k hk).2 with e | e
    · exact .inl (by unfold kindN; rw [if_neg (by omega), if_pos e])
    · have e1 := isO_iff.1 e
      exact .inr ⟨kind_two.2 ⟨e1.1, e1.2.1⟩, e⟩)
  have HW := Lib.hid (show W2 = (w.alloc (.cells #[.pointer none, .pointer (some ⟨F.p, 0, none⟩), .int .u32 (r : Nat), .slice ao l.length l.length, .int .u32 0] 57)).alloc (.cells #[.int .u32 (r : Nat)] 30) by rw [hW2, hW1])
  have HT3 := Lib.hid (HT W3)
  have HB := Lib.hid hB3
  have HPf := Lib.hid (show w.heap.size ∉ F.l ∧ 5 ≤ w.heap.size from ⟨fun hm => Nat.lt_irrefl _ (H.lt _ hm), by have := H.low; have := H.lt F.p (by simp [Foot.l]); omega⟩)
  have HCall := Lib.hid (fun V (hb : Below W3.heap.size W3 V) => hR.2 V w.heap.size ao ((H.below hB3).below hb) (R3.below hb R3.lt) (A3.below hb) HPf.out.1 HPf.out.2 hga)
  have eF := hR.1
  have HAl := Lib.hid (fun X => prim_alone2 X n h1 h2)
  have HN := Lib.hid (show n ≤ 1000 by omega)
  rw [z1] at hr3
  have HR3 := Lib.hid hr3
  obtain ⟨m, hm⟩ : ∃ m, m = l.length := ⟨_, rfl⟩
  obtain ⟨M, hM⟩ : ∃ M, M = 1 + m := ⟨_, rfl⟩
  rw [← hm] at HR3 HW HT3 HCall HIx HCx HK HIs HCs ⊢
  rw [← hM] at HR3 HIx HCx HK HIs HCs
  have hne : ((m : Int) != (m : Int)) = false := by simp
  have HM3 := Lib.hid (show M ≤ 3 by omega)
  generalize wd (r :: l) = ks at *
  clear hW1 r1 b1 z1 hW2 r2 b2 z2 A A2 sl3 hr3 ho3 hB3 R3 A3 HT H h1 h2 hr hga hR hm hl HPf hM
  go_enter Tryz.func8, Tryz.ntmps8
  go_wp2_with (at_builtin; (try rw [← HW.out]); refine Lib.wpList_append_run _ rfl _ _ _ _ rfl _ _ rfl rfl _ _ HR3.out ?_)
  clear HW HR3
  go_loopw [26] (fun i wr => ∃ k : Nat, k ≤ M ∧ i = .int .i64 k ∧ W3 = wr) (fun i _ => M - (RowKit.intOf i).toNat)
  case atStart => exact ⟨0, Nat.zero_le _, rfl, rfl⟩
  case round =>
    obtain ⟨k, hk, rfl, rfl⟩ := hrel
    by_cases hkm : k < M
    · have ix := fun W => HIx.out W k hkm
      have cx := HCx.out k hkm
      have d1 : decide ((k : Int) < (M : Int)) = true := decide_eq_true (by omega)
      have hk3 : (k : Int) ≤ 3 := by have := HM3.out; omega
      have hk4 : k ≤ 3 := by omega
      have HKk := Lib.hid (HK.out k hkm)
      have HIk := Lib.hid (HIs.out k hkm)
      rcases HCs.out k hkm with e1 | ⟨e1, e2⟩
      · rw [e1] at HKk
        have Hkm := Lib.hid hkm
        clear e1 HT3 HIk
        go_wp2_with fail
        refine HKk.out.mono ?_
        rintro e V ⟨rfl, rfl⟩
        (try dsimp only)
        go_wp2_with fail
        go_roundw
        case rel => exact ⟨k + 1, Hkm.out, by simp, by first | rfl | trivial⟩
        case measure => have := Hkm.out; simp [RowKit.intOf]; omega
      · rw [e1] at HKk
        rw [e2] at HIk
        have Hkm := Lib.hid hkm
        clear e1 e2 HT3
        go_wp2_with fail
        refine HKk.out.mono ?_
        rintro e V ⟨rfl, rfl⟩
        (try dsimp only)
        go_wp2_with fail
        refine HIk.out.mono ?_
        rintro e V ⟨rfl, rfl⟩
        (try dsimp only)
        go_wp2_with fail
        go_roundw
        case rel => exact ⟨k + 1, Hkm.out, by simp, by first | rfl | trivial⟩
        case measure => have := Hkm.out; simp [RowKit.intOf]; omega
    · obtain rfl : k = M := by omega
      have d1 : decide ((k : Int) < (k : Int)) = false := decide_eq_false (by omega)
      clear HIx HCx HK HIs HCs hk hkm
      go_wp2_with fail
      refine HT3.out.mono ?_
      rintro e X ⟨b, t, rfl, hO, hkl, hm⟩
      (try dsimp only)
      have hlk := look_ent hO hkl HN.out hm
      unfold entV at hlk
      have hbX := hO.2.2
      obtain ⟨Y, hY, ry, hby, hzy⟩ := alloc_row X 64 [.int .i64 m, .nilFunc]
      have q1' := ry.cell_at 1
      have f1' := ry.free 1
      have s1 := ry.store_any 1 (.func (.func f) #[] #[])
      have e0 := s1.cell_at 0
      have e1 := s1.cell_at 1
      simp only [List.set_cons_zero, List.set_cons_succ, List.getElem?_cons_zero, List.getElem?_cons_succ] at q1' e0 e1
      obtain ⟨Z, hZ⟩ : ∃ Z, Z = Y.setCell ⟨X.heap.size, 1, none⟩ (.func (.func f) #[] #[]) := ⟨_, rfl⟩
      have hst : (store ⟨X.heap.size, 1, none⟩ (.func (.func f) #[] #[])).run Tryz.prog Y = .ok () Z := by rw [hZ]; simp [store, Sem.run, q1', f1']
      have hbz : Below X.heap.size X Z := by rw [hZ]; exact hby.setCell (by simp) _
      rw [← hZ] at e0 e1 s1
      rw [hY] at hst
      have HS1 := Lib.hid s1
      have HBZ := Lib.hid hbz
      have HBX := Lib.hid hbX
      clear hZ hbz hO hkl hm hY ry hby hzy q1' f1' s1 hbX HT3
      go_wp2_with fail
      refine (HAl.out _).mono ?_
      rintro e V ⟨rfl, hb⟩
      (try dsimp only)
      have s2 := HS1.out.below hb HS1.out.lt
      have e0 := s2.cell_at 0
      have e1 := s2.cell_at 1
      simp only [List.set_cons_zero, List.set_cons_succ, List.getElem?_cons_zero, List.getElem?_cons_succ] at e0 e1
      have hbv := HBZ.out.trans (hb.mono HBZ.out.size)
      have HBV := Lib.hid (HBX.out.trans (hbv.mono HBX.out.size))
      have HCl := Lib.hid (HCall.out V HBV.out)
      have HBw := Lib.hid (HB.out.trans (HBV.out.mono HB.out.size))
      clear s2 hb hbv HS1 HBZ hst hlk HAl HN HBX HCall HBV HB
      go_wp2_with fail
      refine HCl.out.mono ?_
      rintro e U ⟨rfl, hd⟩
      (try dsimp only)
      have HMv := Lib.hid (moved_of HBw.out (Nat.le_refl _) hd)
      obtain ⟨F', -, -, -, hru⟩ := hd
      have c4 := hru.cell_at 4
      unfold callC at c4
      simp only [List.getElem?_cons_zero, List.getElem?_cons_succ] at c4
      clear hru HCl e0 e1
      go_wp2_with fail
      go_ret2
      exact ⟨rfl, HMv.out⟩
end
end Go.Proofs.YteiikhcadjdkcaaGreatDoor
namespace Go.Proofs.YteiikhcadjdkcaaGreatDoor
open Go Go.RowKit Limb
def subL (t : List Nat) (i1 i2 : Int) : List Nat := (t.drop (i1 - 1).toNat).take (i2 - (i1 - 1)).toNat
theorem lay_sub {w : World} {g : Nat} {t : List Nat} (hl : Lay .u8 w (some ⟨g, 0, none⟩) t) {lo hi : Nat} (h1 : lo ≤ hi) (h2 : hi ≤ t.length) : Lay .u8 w (if t.length = lo then some ⟨g, 0, none⟩ else some ⟨g, lo, none⟩) ((t.drop lo).take (hi - lo)) := by
  obtain ⟨b, off, e1, e2⟩ := hl
  by_cases h0 : t.length = lo
  · have : (t.drop lo).take (hi - lo) = [] := by rw [List.drop_of_length_le (by omega)]; simp
    rw [this]; exact Lay.nil _ _ _
  · rw [if_neg h0]
    by_cases ht : 0 < t.length
    · obtain ⟨e3, e4⟩ := e1 ht
      simp only [Option.some.injEq, Addr.mk.injEq, and_true] at e3
      obtain ⟨rfl, rfl⟩ := e3
      refine ⟨g, lo, fun _ => ⟨rfl, e4⟩, fun i hi' => ?_⟩
      rw [List.length_take, List.length_drop] at hi'
      have := e2 (lo + i) (by omega)
      rw [Nat.zero_add] at this
      rw [this, wd_take (by omega), wd_drop]
    · have : (t.drop lo).take (hi - lo) = [] := by rw [List.drop_of_length_le (by omega)]; simp
      rw [this]; exact Lay.nil _ _ _
section
variable {w : World} {F : Foot} {h : Hp}
set_option maxHeartbeats 3200000 in
set_option maxRecDepth 100000 in
theorem prim_part (H : HeapAt w F h) (S : SC h) {p r ga q1 q2 v : Nat} (R : Row w p 57 (callC F.p r (some ⟨ga, 0, none⟩) 2 2 v)) (A : Row w ga 30 [.int .u32 (q1 : Nat), .int .u32 (q2 : Nat)]) (hq1 : q1 % 2 = 1) (hq1' : q1 < 4294967296) (hq2 : q2 % 2 = 1) (hq2' : q2 < 4294967296)
    (hpF : p ∉ F.l) (h5 : 5 ≤ p) {t : List Nat} (b : Bs h r (wd h.rt 19) t) (hl : t.length ≤ 262140) {o : Nat} {h' : Hp} (hp : withinB (valueO q1) (valueO q2) t.length = true → makeP h (wd h.rt 19) (subL t (valueO q1) (valueO q2)) = some (o, h')) :
    Calls Tryz.prog 127 #[.pointer (some ⟨p, 0, none⟩)] w fun e w' => (withinB (valueO q1) (valueO q2) t.length = true → e = .returned (.int .i64 1) ∧ Done w F p r (some ⟨ga, 0, none⟩) 2 2 w' o h') ∧ (withinB (valueO q1) (valueO q2) t.length = false → e = .returned (.int .i64 0) ∧ Below w.heap.size w w') := by
  have hx := b.cls
  have HInts := Lib.hid (prim_ints2 w ga q1 q2 hq1 hq1' hq2 hq2' A)
  have HBy := Lib.hid (fun X (hb : Below w.heap.size w X) => prim_bytes (H.below hb) (R.below hb R.lt) b)
  have HRc := Lib.hid (fun X (hb : Below w.heap.size w X) => show Calls Tryz.prog 218 #[.pointer (some ⟨p, 0, none⟩), .int .u32 r] X fun e w' => e = .returned (.int .u32 (wd h.rt 19 : Nat)) ∧ Below X.heap.size X w' from by
    have := prim_resultClass (H.below hb) (R.below hb R.lt) b.is (by rw [hx]; exact S.d18)
    rwa [hx] at this)
  have hi1 : -1073741824 ≤ valueO q1 ∧ valueO q1 ≤ 1073741823 := by unfold valueO; split <;> omega
  have HMk := Lib.hid (fun X lo hi cap (hb : Below w.heap.size w X) (g : Nat) (hly : Lay .u8 X (some ⟨g, 0, none⟩) t) (e1 : valueO q1 = (lo : Nat) + 1) (e2 : valueO q2 = (hi : Nat)) (h1 : lo ≤ hi) (h2 : hi ≤ t.length) => show Calls Tryz.prog 22 #[.pointer (some ⟨F.p, 0, none⟩), .int .u32 (wd h.rt 19 : Nat), .slice (if t.length = lo then some ⟨g, 0, none⟩ else some ⟨g, lo, none⟩) (hi - lo) cap] X fun e w' => e = .returned (.tuple #[.int .u32 o, .int .i64 0]) ∧ Moved X F w' h' from by
    have e3 : subL t (valueO q1) (valueO q2) = (t.drop lo).take (hi - lo) := by unfold subL; rw [e1, e2, show ((lo : Nat) + 1 - 1 : Int).toNat = lo by omega, show ((hi : Nat) - ((lo : Nat) + 1 - 1) : Int).toNat = hi - lo by omega]
    have hw : withinB (valueO q1) (valueO q2) t.length = true := by unfold withinB; rw [e1, e2, decide_eq_true (by omega), decide_eq_true (by omega), decide_eq_true (by omega)]; rfl
    have hp' := hp hw
    rw [e3] at hp'
    exact heap_MakeE (H.below hb) (wd h.rt 19) _ _ (hi - lo) cap o h' (lay_sub hly h1 h2) (fun x hx => b.b8 x (List.mem_of_mem_drop (List.mem_of_mem_take hx))) (by rw [List.length_take, List.length_drop]; omega) (by omega) hp')
  have HFw := Lib.hid H.lt
  have HR := Lib.hid R
  have HpF := Lib.hid (And.intro hpF h5)
  obtain ⟨i1, hv1⟩ : ∃ i, i = valueO q1 := ⟨_, rfl⟩
  obtain ⟨i2, hv2⟩ : ∃ i, i = valueO q2 := ⟨_, rfl⟩
  rw [← hv1, ← hv2] at HMk HInts ⊢
  rw [← hv1] at hi1
  have q3 := R.cell_at 3
  unfold callC at q3
  simp only [List.getElem?_cons_zero, List.getElem?_cons_succ] at q3
  obtain ⟨tl, htl⟩ : ∃ tl, tl = t.length := ⟨_, rfl⟩
  rw [← htl] at HMk HBy ⊢
  have HWi := Lib.hid (fun X => prim_within X (a := i1) (b := i2) (n := tl) hi1)
  obtain ⟨wb, hwb⟩ : ∃ wb, wb = withinB i1 i2 tl := ⟨_, rfl⟩
  have HWb := Lib.hid hwb
  have HTl := Lib.hid (show tl ≤ 262140 from htl ▸ hl)
  rw [← hwb] at HWi ⊢
  generalize wd h.rt 19 = cv at *
  clear H S R A hq1 hq1' hq2 hq2' hpF h5 b hl hp hx hv1 hv2 htl hwb hi1
  go_enter Tryz.func127, Tryz.ntmps127
  go_wp2_with fail
  refine (HInts.out).mono ?_
  rintro e V1 ⟨gi, ci, rfl, hsl, hgi, hb⟩
  (try dsimp only)
  have HB1 := Lib.hid hb
  have HSl := Lib.hid hsl
  have HGi := Lib.hid hgi
  have q2' := (HR.out.below hb HR.out.lt).cell_at 2
  unfold callC at q2'
  simp only [List.getElem?_cons_zero, List.getElem?_cons_succ] at q2'
  clear hb hsl hgi q3 HInts
  go_wp2_with fail
  refine (HBy.out _ HB1.out).mono ?_
  rintro e V2 ⟨⟨gb, rfl, -, hly⟩, hb⟩
  (try dsimp only)
  have HB2 := Lib.hid (HB1.out.trans (hb.mono HB1.out.size))
  have HLy := Lib.hid hly
  have HSl2 := Lib.hid (HSl.out.below hb)
  clear hb hly q2' HBy HB1 HSl
  have HJ0 := Lib.hid (fun W => HSl2.out.index 48 Tryz.underlying48 size_int W .i64 0 (by decide))
  have HJ1 := Lib.hid (fun W => HSl2.out.index 48 Tryz.underlying48 size_int W .i64 1 (by decide))
  have SX := Lib.hid (fun X (hb : Below V2.heap.size V2 X) => show X.cell? ⟨gi, 0, none⟩ = some (.int .i64 i1) ∧ X.cell? ⟨gi, 1, none⟩ = some (.int .i64 i2) ∧ X.cell? ⟨p, 1, none⟩ = some (.pointer (some ⟨F.p, 0, none⟩)) ∧ X.cell? ⟨p, 2, none⟩ = some (.int .u32 (r : Nat)) from
    ⟨(HSl2.out.below hb).cell (i := 0) (by decide), (HSl2.out.below hb).cell (i := 1) (by decide), ((HR.out.below HB2.out HR.out.lt).below hb (Nat.lt_of_lt_of_le HR.out.lt HB2.out.size)).cell_at 1, ((HR.out.below HB2.out HR.out.lt).below hb (Nat.lt_of_lt_of_le HR.out.lt HB2.out.size)).cell_at 2⟩)
  go_wp2_with fail
  refine wp_region_calm (fun Y => Below V2.heap.size V2 Y) (by kernel_rfl) (by kernel_rfl) (Below.refl _ _).drew ?_
  show wpQuiet _ _ _ _ [_, _, _, _, _, _, _, _, _, _] _
  refine wpQuiet_at 28 (.slice (some ⟨gi, 0, none⟩) 2 ci) rfl (by kernel_rfl) (fun Y hC => ?_) ?_
  · go_simp
  simp only [Act.put, List.setIfInBounds_toArray, List.set_cons_zero, List.set_cons_succ]
  refine wpQuiet_at 29 (.pointer (some ⟨gi, 0, none⟩)) rfl (by kernel_rfl) (fun Y hC => ?_) ?_
  · have ix := HJ0.out Y
    go_simp
  simp only [Act.put, List.setIfInBounds_toArray, List.set_cons_zero, List.set_cons_succ]
  refine wpQuiet_at 30 (.int .i64 i1) rfl (by kernel_rfl) (fun Y hC => ?_) ?_
  · obtain ⟨s0, s1, s2, s3⟩ := SX.out Y hC
    go_simp
  simp only [Act.put, List.setIfInBounds_toArray, List.set_cons_zero, List.set_cons_succ]
  refine wpQuiet_at 31 (.slice (some ⟨gi, 0, none⟩) 2 ci) rfl (by kernel_rfl) (fun Y hC => ?_) ?_
  · go_simp
  simp only [Act.put, List.setIfInBounds_toArray, List.set_cons_zero, List.set_cons_succ]
  refine wpQuiet_at 32 (.pointer (some ⟨gi, 1, none⟩)) rfl (by kernel_rfl) (fun Y hC => ?_) ?_
  · have ix := HJ1.out Y
    go_simp
  simp only [Act.put, List.setIfInBounds_toArray, List.set_cons_zero, List.set_cons_succ]
  refine wpQuiet_at 33 (.int .i64 i2) rfl (by kernel_rfl) (fun Y hC => ?_) ?_
  · obtain ⟨s0, s1, s2, s3⟩ := SX.out Y hC
    go_simp
  simp only [Act.put, List.setIfInBounds_toArray, List.set_cons_zero, List.set_cons_succ]
  refine wpQuiet_at 34 (.slice (some ⟨gb, 0, none⟩) tl tl) rfl (by kernel_rfl) (fun Y hC => ?_) ?_
  · go_simp
  simp only [Act.put, List.setIfInBounds_toArray, List.set_cons_zero, List.set_cons_succ]
  refine wpQuiet_at 35 (.int .i64 tl) rfl (by kernel_rfl) (fun Y hC => ?_) ?_
  · go_simp
  simp only [Act.put, List.setIfInBounds_toArray, List.set_cons_zero, List.set_cons_succ]
  refine wpQuiet_at 36 (.bool wb) rfl (by kernel_rfl) (fun Y hC => ?_) ?_
  · go_simp
    exact (HWi.out Y).mono fun e X' ⟨a, b⟩ => ⟨a, by rw [← b]; exact hC⟩
  simp only [Act.put, List.setIfInBounds_toArray, List.set_cons_zero, List.set_cons_succ]
  refine wpQuiet_at 37 (.bool (!wb)) rfl (by kernel_rfl) (fun Y hC => ?_) ?_
  · go_simp
  simp only [Act.put, List.setIfInBounds_toArray, List.set_cons_zero, List.set_cons_succ]
  refine wpQuiet_nil ?_
  intro V3 hb3
  have HB3 := Lib.hid (HB2.out.trans (hb3.mono HB2.out.size))
  cases wb with
  | false =>
    clear SX HMk HRc HLy HSl2 HJ0 HJ1 HWi hb3
    go_wp2_with fail
    go_ret
    exact ⟨rfl, HB3.out⟩
  | true =>
    have hw := HWb.out.symm
    unfold withinB at hw
    simp only [Bool.and_eq_true, decide_eq_true_eq] at hw
    obtain ⟨w1, w2, w3⟩ := hw
    obtain ⟨lo, hlo⟩ : ∃ lo : Nat, i1 = (lo : Int) + 1 := ⟨(i1 - 1).toNat, by omega⟩
    obtain ⟨hi, hhi⟩ : ∃ hi : Nat, i2 = (hi : Int) := ⟨i2.toNat, by omega⟩
    subst hlo hhi
    have l1 : lo ≤ hi := by omega
    have l2 : hi ≤ tl := by omega
    have HWl := Lib.hid (show IntKind.i64.wrap ((lo : Nat) : Int) = lo from i64_self (by omega) (by have := HTl.out; omega))
    have HSl3 := Lib.hid (HSl2.out.below hb3)
    have HLy3 := Lib.hid (HLy.out.below hb3)
    have HJ0 := Lib.hid (fun W => HSl3.out.index 48 Tryz.underlying48 size_int W .i64 0 (by decide))
    have HJ1 := Lib.hid (fun W => HSl3.out.index 48 Tryz.underlying48 size_int W .i64 1 (by decide))
    have HMk3 := Lib.hid (fun X (hb : Below V3.heap.size V3 X) => HMk.out X lo hi (tl - lo) (HB3.out.trans (hb.mono HB3.out.size)) gb (HLy3.out.below hb) rfl rfl l1 l2)
    have HRc3 := Lib.hid (fun X (hb : Below V3.heap.size V3 X) => HRc.out X (HB3.out.trans (hb.mono HB3.out.size)))
    have SY := Lib.hid (fun X (hb : Below V3.heap.size V3 X) => SX.out X (hb3.trans (hb.mono hb3.size)))
    obtain ⟨Da, hDa⟩ : ∃ Da, Da = (if tl = lo then (some ⟨gb, 0, none⟩ : Option Addr) else some ⟨gb, lo, none⟩) := ⟨_, rfl⟩
    rw [← hDa] at HMk3
    have HDa := Lib.hid hDa
    have hX := SY.out _ (Below.refl _ _).drew
    clear SX HMk HRc HLy HSl2 HWi hb3 w1 w2 w3 hDa HB2
    go_wp2_with fail
    refine wp_region_held (S := fun X => X.cell? ⟨gi, 0, none⟩ = some (.int .i64 ((lo : Int) + 1)) ∧ X.cell? ⟨gi, 1, none⟩ = some (.int .i64 (hi : Int)) ∧ X.cell? ⟨p, 1, none⟩ = some (.pointer (some ⟨F.p, 0, none⟩)) ∧ X.cell? ⟨p, 2, none⟩ = some (.int .u32 (r : Nat))) (by kernel_rfl) ?_
    refine wpAnyH_take_at (i := 0) (v := .pointer (some ⟨p, 0, none⟩)) 38 rfl rfl (by kernel_rfl) (by kernel_rfl) (by kernel_rfl) (fun _ _ _ h => h) (.inl ⟨rfl, fun X hX => by go_simp⟩) hX ?_
    simp only [Act.put, List.setIfInBounds_toArray, List.set_cons_zero, List.set_cons_succ]
    refine wpAnyH_take_at (i := 1) (v := .pointer (some ⟨p, 0, none⟩)) 39 rfl rfl (by kernel_rfl) (by kernel_rfl) (by kernel_rfl) (fun _ _ _ h => h) (.inl ⟨rfl, fun X hX => by go_simp⟩) hX ?_
    simp only [Act.put, List.setIfInBounds_toArray, List.set_cons_zero, List.set_cons_succ]
    refine wpAnyH_take_at (i := 2) (v := .pointer (some ⟨p, 0, none⟩)) 40 rfl rfl (by kernel_rfl) (by kernel_rfl) (by kernel_rfl) (fun _ _ _ h => h) (.inl ⟨rfl, fun X hX => by go_simp⟩) hX ?_
    simp only [Act.put, List.setIfInBounds_toArray, List.set_cons_zero, List.set_cons_succ]
    refine wpAnyH_take_at (i := 3) (v := .pointer (some ⟨p, 1, none⟩)) 41 rfl rfl (by kernel_rfl) (by kernel_rfl) (by kernel_rfl) (fun _ _ _ h => h) (.inl ⟨rfl, fun X hX => by go_simp⟩) hX ?_
    simp only [Act.put, List.setIfInBounds_toArray, List.set_cons_zero, List.set_cons_succ]
    refine wpAnyH_take_at (i := 4) (v := .pointer (some ⟨F.p, 0, none⟩)) 42 rfl rfl (by kernel_rfl) (by kernel_rfl) (by kernel_rfl) (fun _ _ _ h => h) (.inl ⟨rfl, fun X hX => by obtain ⟨s0, s1, s2, s3⟩ := hX; go_simp⟩) hX ?_
    simp only [Act.put, List.setIfInBounds_toArray, List.set_cons_zero, List.set_cons_succ]
    refine wpAnyH_take_at (i := 5) (v := .pointer (some ⟨p, 0, none⟩)) 43 rfl rfl (by kernel_rfl) (by kernel_rfl) (by kernel_rfl) (fun _ _ _ h => h) (.inl ⟨rfl, fun X hX => by go_simp⟩) hX ?_
    simp only [Act.put, List.setIfInBounds_toArray, List.set_cons_zero, List.set_cons_succ]
    refine wpAnyH_take_at (i := 6) (v := .pointer (some ⟨p, 0, none⟩)) 44 rfl rfl (by kernel_rfl) (by kernel_rfl) (by kernel_rfl) (fun _ _ _ h => h) (.inl ⟨rfl, fun X hX => by go_simp⟩) hX ?_
    simp only [Act.put, List.setIfInBounds_toArray, List.set_cons_zero, List.set_cons_succ]
    refine wpAnyH_take_at (i := 7) (v := .pointer (some ⟨p, 0, none⟩)) 45 rfl rfl (by kernel_rfl) (by kernel_rfl) (by kernel_rfl) (fun _ _ _ h => h) (.inl ⟨rfl, fun X hX => by go_simp⟩) hX ?_
    simp only [Act.put, List.setIfInBounds_toArray, List.set_cons_zero, List.set_cons_succ]
    refine wpAnyH_take_at (i := 8) (v := .pointer (some ⟨p, 2, none⟩)) 46 rfl rfl (by kernel_rfl) (by kernel_rfl) (by kernel_rfl) (fun _ _ _ h => h) (.inl ⟨rfl, fun X hX => by go_simp⟩) hX ?_
    simp only [Act.put, List.setIfInBounds_toArray, List.set_cons_zero, List.set_cons_succ]
    refine wpAnyH_take_at (i := 9) (v := .int .u32 (r : Nat)) 47 rfl rfl (by kernel_rfl) (by kernel_rfl) (by kernel_rfl) (fun _ _ _ h => h) (.inl ⟨rfl, fun X hX => by obtain ⟨s0, s1, s2, s3⟩ := hX; go_simp⟩) hX ?_
    simp only [Act.put, List.setIfInBounds_toArray, List.set_cons_zero, List.set_cons_succ]
    refine wpAnyH_take_at (i := 11) (v := .slice (some ⟨gb, 0, none⟩) tl tl) 49 rfl rfl (by kernel_rfl) (by kernel_rfl) (by kernel_rfl) (fun _ _ _ h => h) (.inl ⟨rfl, fun X hX => by go_simp⟩) hX ?_
    simp only [Act.put, List.setIfInBounds_toArray, List.set_cons_zero, List.set_cons_succ]
    refine wpAnyH_take_at (i := 12) (v := .slice (some ⟨gi, 0, none⟩) 2 ci) 50 rfl rfl (by kernel_rfl) (by kernel_rfl) (by kernel_rfl) (fun _ _ _ h => h) (.inl ⟨rfl, fun X hX => by go_simp⟩) hX ?_
    simp only [Act.put, List.setIfInBounds_toArray, List.set_cons_zero, List.set_cons_succ]
    refine wpAnyH_take_at (i := 13) (v := .pointer (some ⟨gi, 0, none⟩)) 51 rfl rfl (by kernel_rfl) (by kernel_rfl) (by kernel_rfl) (fun _ _ _ h => h) (.inl ⟨rfl, fun X hX => by have ix := HJ0.out X; go_simp⟩) hX ?_
    simp only [Act.put, List.setIfInBounds_toArray, List.set_cons_zero, List.set_cons_succ]
    refine wpAnyH_take_at (i := 14) (v := .int .i64 ((lo : Int) + 1)) 52 rfl rfl (by kernel_rfl) (by kernel_rfl) (by kernel_rfl) (fun _ _ _ h => h) (.inl ⟨rfl, fun X hX => by obtain ⟨s0, s1, s2, s3⟩ := hX; go_simp⟩) hX ?_
    simp only [Act.put, List.setIfInBounds_toArray, List.set_cons_zero, List.set_cons_succ]
    refine wpAnyH_take_at (i := 15) (v := .int .i64 lo) 53 rfl rfl (by kernel_rfl) (by kernel_rfl) (by kernel_rfl) (fun _ _ _ h => h) (.inl ⟨rfl, fun X hX => by go_simp; exact HWl.out⟩) hX ?_
    simp only [Act.put, List.setIfInBounds_toArray, List.set_cons_zero, List.set_cons_succ]
    refine wpAnyH_take_at (i := 16) (v := .slice (some ⟨gi, 0, none⟩) 2 ci) 54 rfl rfl (by kernel_rfl) (by kernel_rfl) (by kernel_rfl) (fun _ _ _ h => h) (.inl ⟨rfl, fun X hX => by go_simp⟩) hX ?_
    simp only [Act.put, List.setIfInBounds_toArray, List.set_cons_zero, List.set_cons_succ]
    refine wpAnyH_take_at (i := 17) (v := .pointer (some ⟨gi, 1, none⟩)) 55 rfl rfl (by kernel_rfl) (by kernel_rfl) (by kernel_rfl) (fun _ _ _ h => h) (.inl ⟨rfl, fun X hX => by have ix := HJ1.out X; go_simp⟩) hX ?_
    simp only [Act.put, List.setIfInBounds_toArray, List.set_cons_zero, List.set_cons_succ]
    refine wpAnyH_take_at (i := 18) (v := .int .i64 hi) 56 rfl rfl (by kernel_rfl) (by kernel_rfl) (by kernel_rfl) (fun _ _ _ h => h) (.inl ⟨rfl, fun X hX => by obtain ⟨s0, s1, s2, s3⟩ := hX; go_simp⟩) hX ?_
    simp only [Act.put, List.setIfInBounds_toArray, List.set_cons_zero, List.set_cons_succ]
    refine wpAnyH_take_at (i := 19) (v := .slice Da (hi - lo) (tl - lo)) 57 rfl rfl (by kernel_rfl) (by kernel_rfl) (by kernel_rfl) (fun _ _ _ h => h) (.inl ⟨rfl, fun X hX => by go_simp; exact HDa.out.symm⟩) hX ?_
    simp only [Act.put, List.setIfInBounds_toArray, List.set_cons_zero, List.set_cons_succ]
    refine wpAnyH_all (rs := [10]) (by kernel_rfl) (by decide) (fun i hi => ?_)
    rw [List.mem_singleton] at hi
    subst hi
    unfold wpOp
    go_simp
    refine .inl ((HRc3.out _ (Below.refl _ _).drew).mono ?_)
    rintro e X1 ⟨rfl, hb⟩
    have HBr := Lib.hid ((Below.refl V3.heap.size V3).drew.trans hb)
    clear hX hb
    have hX := SY.out _ HBr.out
    refine ⟨hX, ?_⟩
    (try simp only [Act.put, List.setIfInBounds_toArray, List.set_cons_zero, List.set_cons_succ])
    refine wpAnyH_all (rs := [20]) (by kernel_rfl) (by decide) (fun i hi => ?_)
    rw [List.mem_singleton] at hi
    subst hi
    unfold wpOp
    go_simp
    refine .inl ((HMk3.out _ HBr.out).mono ?_)
    rintro e X2 ⟨rfl, F1, hst⟩
    have HBa := Lib.hid (HB3.out.trans (HBr.out.mono HB3.out.size))
    have hFg : gi ∉ F.l := fun hm => by have := HFw.out gi hm; have := HGi.out; omega
    have rp := hst.beside (HR.out.below HBa.out HR.out.lt) HpF.out.1
    obtain ⟨cur, rowg⟩ := (HSl3.out.below HBr.out).row
    have rg := hst.beside rowg hFg
    have hgi2 : X2.heap[gi]? = X1.heap[gi]? := by unfold Row at rg rowg; rw [rg, rowg]
    have RP := Lib.hid rp
    have HSt := Lib.hid hst
    replace hX : X2.cell? ⟨gi, 0, none⟩ = some (.int .i64 ((lo : Int) + 1)) ∧ X2.cell? ⟨gi, 1, none⟩ = some (.int .i64 (hi : Int)) ∧ X2.cell? ⟨p, 1, none⟩ = some (.pointer (some ⟨F.p, 0, none⟩)) ∧ X2.cell? ⟨p, 2, none⟩ = some (.int .u32 (r : Nat)) := ⟨by rw [World.cell?_of_block hgi2]; exact hX.1, by rw [World.cell?_of_block hgi2]; exact hX.2.1, rp.cell_at 1, rp.cell_at 2⟩
    clear hst rp rg rowg hgi2
    refine ⟨hX, ?_⟩
    (try simp only [Act.put, List.setIfInBounds_toArray, List.set_cons_zero, List.set_cons_succ])
    refine wpAnyH_take_at (i := 21) (v := .int .u32 o) 59 rfl rfl (by kernel_rfl) (by kernel_rfl) (by kernel_rfl) (fun _ _ _ h => h) (.inl ⟨rfl, fun X hX => by go_simp⟩) hX ?_
    simp only [Act.put, List.setIfInBounds_toArray, List.set_cons_zero, List.set_cons_succ]
    refine wpAnyH_take_at (i := 22) (v := .int .i64 0) 60 rfl rfl (by kernel_rfl) (by kernel_rfl) (by kernel_rfl) (fun _ _ _ h => h) (.inl ⟨rfl, fun X hX => by go_simp⟩) hX ?_
    simp only [Act.put, List.setIfInBounds_toArray, List.set_cons_zero, List.set_cons_succ]
    refine wpAnyH_all (rs := [23]) (by kernel_rfl) (by decide) (fun i hi => ?_)
    rw [List.mem_singleton] at hi
    subst hi
    unfold wpOp
    go_simp
    refine .inl ((prim_made_ok RP.out o).mono ?_)
    rintro e X3 ⟨rfl, ro, oo⟩
    have HDn := Lib.hid (done_of (W1' := X2) HBa.out HFw.out HR.out.lt HpF.out.1 HpF.out.2 HSt.out ro oo)
    have hgp : gi ≠ p := fun e => by have := HGi.out; have := HR.out.lt; omega
    have hgi3 : X3.heap[gi]? = X2.heap[gi]? := oo.block gi (by have h1 := HSt.out.2.2.size; have h2 := (HSl3.out.below HBr.out).lt; omega) (fun hm => hgp (List.mem_singleton.1 hm))
    replace hX : X3.cell? ⟨gi, 0, none⟩ = some (.int .i64 ((lo : Int) + 1)) ∧ X3.cell? ⟨gi, 1, none⟩ = some (.int .i64 (hi : Int)) ∧ X3.cell? ⟨p, 1, none⟩ = some (.pointer (some ⟨F.p, 0, none⟩)) ∧ X3.cell? ⟨p, 2, none⟩ = some (.int .u32 (r : Nat)) := ⟨by rw [World.cell?_of_block hgi3]; exact hX.1, by rw [World.cell?_of_block hgi3]; exact hX.2.1, ro.cell_at 1, ro.cell_at 2⟩
    clear ro oo hgi3 hgp
    refine ⟨hX, ?_⟩
    (try simp only [Act.put, List.setIfInBounds_toArray, List.set_cons_zero, List.set_cons_succ])
    refine wpAnyH_take_at (i := 24) (v := .int .i64 1) 2 rfl rfl (by kernel_rfl) (by kernel_rfl) (by kernel_rfl) (fun _ _ _ h => h) (.inl ⟨rfl, fun X hX => by go_simp⟩) hX ?_
    simp only [Act.put, List.setIfInBounds_toArray, List.set_cons_zero, List.set_cons_succ]
    refine wpAnyH_done (by kernel_rfl) ?_ _
    clear hX SY HMk3 HRc3 RP HSt HLy3 HSl3 HJ0 HJ1 HBr
    go_wp2_with fail
    go_ret
    exact ⟨rfl, HDn.out⟩
end
end Go.Proofs.YteiikhcadjdkcaaGreatDoor
