/- The walk of the reference's ModPow. -/
import Derived.Test.YtbffpkmfhkphdaaGreatDoorGX33
import Derived.Test.YtbffpkmfhkphdaaGreatDoorRefShiftC
import Derived.Test.YtbffpkmfhkphdaaGreatDoorRefSqrtC
import Derived.Test.YtbffpkmfhkphdaaGreatDoorGX00
import Derived.Deep.DeepCutAuto
set_option linter.unusedVariables false
set_option linter.unusedSimpArgs false
namespace Go.Proofs.YtbffpkmfhkphdaaGreatDoor
open Go Go.RowKit Limb

/-- What the loop has: the power so far, the square so far, and what came in. -/
structure PowInv (w : World) (gp gx : Nat) (P X : Int) (V : World) (v1 v2 v3 v4 : Value) (bp : Bool) (ap : Option Addr) (np cp : Nat) (bx : Bool) (ax : Option Addr) (nx cx : Nat) : Prop where
  rp : Row V gp 24 [.bool bp, .slice ap np cp]
  hp : ApiV V (.agg #[.bool bp, .slice ap np cp]) P
  rx : Row V gx 24 [.bool bx, .slice ax nx cx]
  hx : ApiV V (.agg #[.bool bx, .slice ax nx cx]) X
  rn : Row V (w.heap.size + 1) 24 [v1, v2]
  rm : Row V (w.heap.size + 1 + 1) 24 [v3, v4]
  rr : Row V (w.heap.size + 1 + 1 + 1) 24 [.bool false, .slice none 0 0]
  below : Below w.heap.size w V
  far : w.heap.size + 1 + 1 + 1 < gp ∧ w.heap.size + 1 + 1 + 1 < gx ∧ gp ≠ gx
theorem PowInv.next {w : World} {gp gx : Nat} {P X : Int} {V V' : World} {v1 v2 v3 v4 : Value} {bp : Bool} {ap : Option Addr} {np cp : Nat} {bx : Bool} {ax : Option Addr} {nx cx : Nat}
    (h : PowInv w gp gx P X V v1 v2 v3 v4 bp ap np cp bx ax nx cx) (hb : Below V.heap.size V V') : PowInv w gp gx P X V' v1 v2 v3 v4 bp ap np cp bx ax nx cx :=
  ⟨h.rp.below hb h.rp.lt, h.hp.below hb, h.rx.below hb h.rx.lt, h.hx.below hb, h.rn.below hb h.rn.lt, h.rm.below hb h.rm.lt, h.rr.below hb h.rr.lt, h.below.trans (hb.mono h.below.size), h.far⟩
theorem PowInv.put_p {w : World} {gp gx : Nat} {P X P' : Int} {V : World} {v1 v2 v3 v4 : Value} {bp : Bool} {ap : Option Addr} {np cp : Nat} {bx : Bool} {ax : Option Addr} {nx cx : Nat} {b : Bool} {a : Option Addr} {n c : Nat}
    (h : PowInv w gp gx P X V v1 v2 v3 v4 bp ap np cp bx ax nx cx) (hu : ApiV V (.agg #[.bool b, .slice a n c]) P') : PowInv w gp gx P' X ((V.setCell ⟨gp, 0, none⟩ (.bool b)).setCell ⟨gp, 1, none⟩ (.slice a n c)) v1 v2 v3 v4 b a n c bx ax nx cx := by
  obtain ⟨f1, f2, f3⟩ := h.far
  refine ⟨(h.rp.store_any 0 _).store_any 1 _, ApiV.to hu (fun _ _ hl => hl.pair h.rp _ _), (h.rx.other ?_ _).other ?_ _, ApiV.to h.hx (fun _ _ hl => hl.pair h.rp _ _), (h.rn.other ?_ _).other ?_ _, (h.rm.other ?_ _).other ?_ _, (h.rr.other ?_ _).other ?_ _, below_store (below_store h.below (by omega) _) (by omega) _, f1, f2, f3⟩ <;> (simp; omega)
theorem PowInv.put_x {w : World} {gp gx : Nat} {P X X' : Int} {V : World} {v1 v2 v3 v4 : Value} {bp : Bool} {ap : Option Addr} {np cp : Nat} {bx : Bool} {ax : Option Addr} {nx cx : Nat} {b : Bool} {a : Option Addr} {n c : Nat}
    (h : PowInv w gp gx P X V v1 v2 v3 v4 bp ap np cp bx ax nx cx) (hu : ApiV V (.agg #[.bool b, .slice a n c]) X') : PowInv w gp gx P X' ((V.setCell ⟨gx, 0, none⟩ (.bool b)).setCell ⟨gx, 1, none⟩ (.slice a n c)) v1 v2 v3 v4 bp ap np cp b a n c := by
  obtain ⟨f1, f2, f3⟩ := h.far
  refine ⟨(h.rp.other ?_ _).other ?_ _, ApiV.to h.hp (fun _ _ hl => hl.pair h.rx _ _), (h.rx.store_any 0 _).store_any 1 _, ApiV.to hu (fun _ _ hl => hl.pair h.rx _ _), (h.rn.other ?_ _).other ?_ _, (h.rm.other ?_ _).other ?_ _, (h.rr.other ?_ _).other ?_ _, below_store (below_store h.below (by omega) _) (by omega) _, f1, f2, f3⟩ <;> (simp; omega)

theorem pmod_len {x m : Int} (hm : m ≠ 0) (lm : (rep m.natAbs).length ≤ 1024) (n : Nat) : (rep (pmod x m n).natAbs).length ≤ 1024 :=
  Nat.le_trans (rep_mono (Nat.le_of_lt (pmod_abs x hm n))) lm
theorem pmul_len {p q : Int} (hp : (rep p.natAbs).length ≤ 1024) (hq : (rep q.natAbs).length ≤ 1024) : (rep (p * q).natAbs).length ≤ 1048576 := by
  obtain ⟨c, hc⟩ : ∃ c, c = 1024 := ⟨_, rfl⟩
  rw [← hc] at hp hq
  refine Nat.le_trans (rep_length_le.2 (show (p * q).natAbs < Limb.W (c + c) from ?_)) (by omega)
  rw [Int.natAbs_mul, W_add]
  exact Nat.mul_lt_mul'' (rep_length_le.1 hp) (rep_length_le.1 hq)

set_option maxHeartbeats 12800000 in
set_option maxRecDepth 1000000 in
theorem ref_modpow (w : World) (v1 v2 v3 : Value) (x y m : Int) (h1 : ApiV w v1 x) (h2 : ApiV w v2 y) (h3 : ApiV w v3 m) (lx : (rep x.natAbs).length ≤ 1024) (ly : (rep y.natAbs).length ≤ 1024) (lm : (rep m.natAbs).length ≤ 1024) (hm : m ≠ 0) :
    Calls Tryz.prog 28 #[v1, v2, v3] w fun e w' => ∃ u, e = .returned u ∧ ApiV w' u (pmod x m y.natAbs) ∧ Below w.heap.size w w' := by
  have HV1 := Lib.hid h1
  have HV3 := Lib.hid h3
  obtain ⟨a1, c1, rfl, hc1, hl1⟩ := h1
  obtain ⟨a2, c2, rfl, hc2, hl2⟩ := h2
  obtain ⟨a3, c3, rfl, hc3, hl3⟩ := h3
  obtain ⟨N, hN⟩ : ∃ N, N = y.natAbs := ⟨_, rfl⟩
  rw [← hN] at ly hc2 hl2 ⊢
  obtain ⟨n1, hn1⟩ : ∃ k, k = (rep x.natAbs).length := ⟨_, rfl⟩
  obtain ⟨n2, hn2⟩ : ∃ k, k = (rep N).length := ⟨_, rfl⟩
  obtain ⟨n3, hn3⟩ : ∃ k, k = (rep m.natAbs).length := ⟨_, rfl⟩
  obtain ⟨s1, hs1⟩ : ∃ s, s = decide (x < 0) := ⟨_, rfl⟩
  obtain ⟨s2, hs2⟩ : ∃ s, s = decide (y < 0) := ⟨_, rfl⟩
  obtain ⟨s3, hs3⟩ : ∃ s, s = decide (m < 0) := ⟨_, rfl⟩
  rw [← hs1, ← hn1] at HV1
  rw [← hs3, ← hn3] at HV3
  rw [← hs1, ← hs2, ← hs3, ← hn1, ← hn2, ← hn3]
  obtain ⟨W, hWe, r0, r1, r2, r3, hW, hsz⟩ := rows4 w 24 (.bool s1) (.slice a1 n1 c1) (.bool s2) (.slice a2 n2 c2) (.bool s3) (.slice a3 n3 c3) (.bool false) (.slice none 0 0)
  have HWe := Lib.hid hWe; clear hWe
  have HM0 := Lib.hid hm
  have HLx := Lib.hid (show (rep x.natAbs).length ≤ 1048576 by omega)
  have HLm := Lib.hid (show (rep m.natAbs).length ≤ 1048576 by omega)
  have HLm10 := Lib.hid lm
  have HNum := Lib.hid (fun X (h : Below w.heap.size w X) => show Lay .u32 X a2 (rep N) from hl2.below h)
  have HHi := Lib.hid (show N < 2 ^ (32 * n2) by have h := rep_len_hi N; rwa [← hn2, W_two] at h)
  have HN2 := Lib.hid hn2
  have hn2b : n2 ≤ 1024 := by omega
  have hvW1 := Lib.hid (fun X (h : Below W.heap.size W X) => HV1.out.below (hW.trans (h.mono hW.size)))
  have hvW3 := Lib.hid (fun X (h : Below W.heap.size W X) => HV3.out.below (hW.trans (h.mono hW.size)))
  have HBx := Lib.hid (fun X (h : Below W.heap.size W X) => show X.cell? ⟨w.heap.size, 0, none⟩ = some (.bool s1) ∧ X.cell? ⟨w.heap.size, 1, none⟩ = some (.slice a1 n1 c1) ∧ X.cell? ⟨w.heap.size + 1 + 1, 0, none⟩ = some (.bool s3) ∧ X.cell? ⟨w.heap.size + 1 + 1, 1, none⟩ = some (.slice a3 n3 c3) from
    ⟨(r0.below h r0.lt).cell_at 0, (r0.below h r0.lt).cell_at 1, (r2.below h r2.lt).cell_at 0, (r2.below h r2.lt).cell_at 1⟩)
  have HV3k := Lib.hid HV3.out
  clear hm lx ly lm hn1 hn2 hn3 hs1 hs2 hs3 hl1 hl2 hl3 hc1 hc2 hc3 hN HV1 HV3
  go_enter Tryz.func28, Tryz.ntmps28
  go_upto_region 1 with fail
  rw [← HWe.out]
  go_cut [8] (fun s8 wx => BoxAt W ((1 : Int).fmod m) s8 wx)
  case first =>
    clear r0 r1 r2 r3 hW hsz
    have hX : Below W.heap.size W W.drew := (Below.refl _ _).drew
    refine wp_region_held (S := fun X => Below W.heap.size W X) (by kernel_rfl) ?_
    refine wpAnyH_take_at (i := 1) (v := .agg #[.bool s3, .slice a3 n3 c3]) 14 rfl rfl (by kernel_rfl) (by kernel_rfl) (by kernel_rfl) (fun _ _ _ h => h) (.inl ⟨rfl, fun X hX => by obtain ⟨i0, i1, i2, i3⟩ := HBx.out X hX; go_simp⟩) hX ?_
    simp only [Act.put, List.setIfInBounds_toArray, List.set_cons_zero, List.set_cons_succ]
    refine wpAnyH_all (rs := [0, 6, 7]) (by kernel_rfl) (by decide) (fun i hi => ?_)
    simp only [List.mem_cons, List.not_mem_nil, or_false] at hi
    rcases hi with rfl | rfl | rfl
    · unfold wpOp
      go_simp
      refine .inl ((ref_of _ 1 (by decide) (by decide)).mono ?_)
      rintro e X1 ⟨u13, rfl, hu13, hb⟩
      replace hX := hX.trans (hb.mono hX.size)
      clear hb
      replace hu13 := Lib.hid hu13
      refine ⟨hX, ?_⟩
      refine wpAnyH_all (rs := [2, 6, 7]) (by kernel_rfl) (by decide) (fun i hi => ?_)
      simp only [List.mem_cons, List.not_mem_nil, or_false] at hi
      rcases hi with rfl | rfl | rfl
      · unfold wpOp
        go_simp
        refine .inl ((ref_div _ _ _ 1 m hu13.out (hvW3.out _ hX) (by decide) HLm.out HM0.out).mono ?_)
        rintro e X2 ⟨bq, aq, nq, cq, br, ar, nr, cr, rfl, -, hr, hb⟩
        replace hu13 := Lib.hid (hu13.out.below hb)
        replace hX := hX.trans (hb.mono hX.size)
        clear hb
        replace hr := Lib.hid hr
        clear hu13
        refine ⟨hX, ?_⟩
        refine wpAnyH_take_at (i := 3) (v := .tuple #[.agg #[.bool bq, .slice aq nq cq], .agg #[.bool br, .slice ar nr cr]]) 12 rfl rfl (by kernel_rfl) (by kernel_rfl) (by kernel_rfl) (fun _ _ _ h => h) (.inl ⟨rfl, fun X hX => by go_simp⟩) hX ?_
        simp only [Act.put, List.setIfInBounds_toArray, List.set_cons_zero, List.set_cons_succ]
        refine wpAnyH_take_at (i := 4) (v := .agg #[.bool bq, .slice aq nq cq]) 16 rfl rfl (by kernel_rfl) (by kernel_rfl) (by kernel_rfl) (fun _ _ _ h => h) (.inl ⟨rfl, fun X hX => by go_simp⟩) hX ?_
        simp only [Act.put, List.setIfInBounds_toArray, List.set_cons_zero, List.set_cons_succ]
        refine wpAnyH_take_at (i := 5) (v := .agg #[.bool br, .slice ar nr cr]) 17 rfl rfl (by kernel_rfl) (by kernel_rfl) (by kernel_rfl) (fun _ _ _ h => h) (.inl ⟨rfl, fun X hX => by go_simp⟩) hX ?_
        simp only [Act.put, List.setIfInBounds_toArray, List.set_cons_zero, List.set_cons_succ]
        refine wpAnyH_all (rs := [6, 7]) (by kernel_rfl) (by decide) (fun i hi => ?_)
        simp only [List.mem_cons, List.not_mem_nil, or_false] at hi
        rcases hi with rfl | rfl
        · refine wpOp_alloc_int (o := _) rfl rfl rfl (fun X3 ga rga hb hga hlt => ?_)
          clear hlt
          replace hga := Nat.le_trans hX.size hga
          replace hr := Lib.hid (hr.out.below hb)
          replace hX := hX.trans (hb.mono hX.size)
          clear hb
          refine ⟨hX, ?_⟩
          simp only [Act.put, List.setIfInBounds_toArray, List.set_cons_zero, List.set_cons_succ]
          refine wpAnyH_all (rs := [7]) (by kernel_rfl) (by decide) (fun i hi => ?_)
          rw [List.mem_singleton] at hi
          subst hi
          refine wpOp_alloc_int (o := _) rfl rfl rfl (fun X4 gb rgb hb hgb hlt => ?_)
          clear hlt
          have hng : gb ≠ ga := by have := rga.lt; omega
          replace hgb := Nat.le_trans hX.size hgb
          replace hr := Lib.hid (hr.out.below hb)
          replace rga := rga.below hb rga.lt
          replace hX := hX.trans (hb.mono hX.size)
          clear hb
          refine ⟨hX, ?_⟩
          simp only [Act.put, List.setIfInBounds_toArray, List.set_cons_zero, List.set_cons_succ]
          refine wpAnyH_all (rs := [8]) (by kernel_rfl) (by decide) (fun i hi => ?_)
          rw [List.mem_singleton] at hi
          subst hi
          have k0 := rga.cell_at 0
          have k1 := rga.cell_at 1
          have f0 := rga.free 0
          have f1 := rga.free 1
          simp only [List.getElem?_cons_zero, List.getElem?_cons_succ] at k0 k1
          unfold wpOp
          go_simp
          have hne := rgb.other (a := ⟨ga, 0, none⟩) hng (.bool bq)
          replace rgb := hne.other (a := ⟨ga, 1, none⟩) hng (.slice aq nq cq)
          replace hr := Lib.hid (ApiV.to hr.out (fun _ _ hl => hl.pair rga (.bool bq) (.slice aq nq cq)))
          replace hX := below_store (below_store hX hga (i := 0) (.bool bq)) hga (i := 1) (.slice aq nq cq)
          clear k0 k1 f0 f1 rga hne
          refine .inl ⟨hX, ?_⟩
          refine wpAnyH_all (rs := [9]) (by kernel_rfl) (by decide) (fun i hi => ?_)
          rw [List.mem_singleton] at hi
          subst hi
          have k0 := rgb.cell_at 0
          have k1 := rgb.cell_at 1
          have f0 := rgb.free 0
          have f1 := rgb.free 1
          simp only [List.getElem?_cons_zero, List.getElem?_cons_succ] at k0 k1
          unfold wpOp
          go_simp
          have HF := Lib.hid (box_store (U := W) rgb hgb hr.out hX)
          replace hX := below_store (below_store hX hgb (i := 0) (.bool br)) hgb (i := 1) (.slice ar nr cr)
          clear k0 k1 f0 f1 rgb hr
          refine .inl ⟨hX, ?_⟩
          refine wpAnyH_done (by kernel_rfl) ?_ _
          go_wp2_with fail
          go_meet
          exact HF.out
        · refine wpOp_alloc_int (o := _) rfl rfl rfl (fun X7 gb rgb hb hgb hlt => ?_)
          clear hlt
          replace hgb := Nat.le_trans hX.size hgb
          replace hr := Lib.hid (hr.out.below hb)
          replace hX := hX.trans (hb.mono hX.size)
          clear hb
          refine ⟨hX, ?_⟩
          simp only [Act.put, List.setIfInBounds_toArray, List.set_cons_zero, List.set_cons_succ]
          refine wpAnyH_all (rs := [6]) (by kernel_rfl) (by decide) (fun i hi => ?_)
          rw [List.mem_singleton] at hi
          subst hi
          refine wpOp_alloc_int (o := _) rfl rfl rfl (fun X8 ga rga hb hga hlt => ?_)
          clear hlt
          have hng : gb ≠ ga := by have := rgb.lt; omega
          replace hga := Nat.le_trans hX.size hga
          replace hr := Lib.hid (hr.out.below hb)
          replace rgb := rgb.below hb rgb.lt
          replace hX := hX.trans (hb.mono hX.size)
          clear hb
          refine ⟨hX, ?_⟩
          simp only [Act.put, List.setIfInBounds_toArray, List.set_cons_zero, List.set_cons_succ]
          refine wpAnyH_all (rs := [8]) (by kernel_rfl) (by decide) (fun i hi => ?_)
          rw [List.mem_singleton] at hi
          subst hi
          have k0 := rga.cell_at 0
          have k1 := rga.cell_at 1
          have f0 := rga.free 0
          have f1 := rga.free 1
          simp only [List.getElem?_cons_zero, List.getElem?_cons_succ] at k0 k1
          unfold wpOp
          go_simp
          have hne := rgb.other (a := ⟨ga, 0, none⟩) hng (.bool bq)
          replace rgb := hne.other (a := ⟨ga, 1, none⟩) hng (.slice aq nq cq)
          replace hr := Lib.hid (ApiV.to hr.out (fun _ _ hl => hl.pair rga (.bool bq) (.slice aq nq cq)))
          replace hX := below_store (below_store hX hga (i := 0) (.bool bq)) hga (i := 1) (.slice aq nq cq)
          clear k0 k1 f0 f1 rga hne
          refine .inl ⟨hX, ?_⟩
          refine wpAnyH_all (rs := [9]) (by kernel_rfl) (by decide) (fun i hi => ?_)
          rw [List.mem_singleton] at hi
          subst hi
          have k0 := rgb.cell_at 0
          have k1 := rgb.cell_at 1
          have f0 := rgb.free 0
          have f1 := rgb.free 1
          simp only [List.getElem?_cons_zero, List.getElem?_cons_succ] at k0 k1
          unfold wpOp
          go_simp
          have HF := Lib.hid (box_store (U := W) rgb hgb hr.out hX)
          replace hX := below_store (below_store hX hgb (i := 0) (.bool br)) hgb (i := 1) (.slice ar nr cr)
          clear k0 k1 f0 f1 rgb hr
          refine .inl ⟨hX, ?_⟩
          refine wpAnyH_done (by kernel_rfl) ?_ _
          go_wp2_with fail
          go_meet
          exact HF.out
      · refine wpOp_alloc_int (o := _) rfl rfl rfl (fun X11 ga rga hb hga hlt => ?_)
        clear hlt
        replace hga := Nat.le_trans hX.size hga
        replace hu13 := Lib.hid (hu13.out.below hb)
        replace hX := hX.trans (hb.mono hX.size)
        clear hb
        refine ⟨hX, ?_⟩
        simp only [Act.put, List.setIfInBounds_toArray, List.set_cons_zero, List.set_cons_succ]
        refine wpAnyH_all (rs := [2, 7]) (by kernel_rfl) (by decide) (fun i hi => ?_)
        simp only [List.mem_cons, List.not_mem_nil, or_false] at hi
        rcases hi with rfl | rfl
        · unfold wpOp
          go_simp
          refine .inl ((ref_div _ _ _ 1 m hu13.out (hvW3.out _ hX) (by decide) HLm.out HM0.out).mono ?_)
          rintro e X12 ⟨bq, aq, nq, cq, br, ar, nr, cr, rfl, -, hr, hb⟩
          replace hu13 := Lib.hid (hu13.out.below hb)
          replace rga := rga.below hb rga.lt
          replace hX := hX.trans (hb.mono hX.size)
          clear hb
          replace hr := Lib.hid hr
          clear hu13
          refine ⟨hX, ?_⟩
          refine wpAnyH_take_at (i := 3) (v := .tuple #[.agg #[.bool bq, .slice aq nq cq], .agg #[.bool br, .slice ar nr cr]]) 12 rfl rfl (by kernel_rfl) (by kernel_rfl) (by kernel_rfl) (fun _ _ _ h => h) (.inl ⟨rfl, fun X hX => by go_simp⟩) hX ?_
          simp only [Act.put, List.setIfInBounds_toArray, List.set_cons_zero, List.set_cons_succ]
          refine wpAnyH_take_at (i := 4) (v := .agg #[.bool bq, .slice aq nq cq]) 16 rfl rfl (by kernel_rfl) (by kernel_rfl) (by kernel_rfl) (fun _ _ _ h => h) (.inl ⟨rfl, fun X hX => by go_simp⟩) hX ?_
          simp only [Act.put, List.setIfInBounds_toArray, List.set_cons_zero, List.set_cons_succ]
          refine wpAnyH_take_at (i := 5) (v := .agg #[.bool br, .slice ar nr cr]) 17 rfl rfl (by kernel_rfl) (by kernel_rfl) (by kernel_rfl) (fun _ _ _ h => h) (.inl ⟨rfl, fun X hX => by go_simp⟩) hX ?_
          simp only [Act.put, List.setIfInBounds_toArray, List.set_cons_zero, List.set_cons_succ]
          refine wpAnyH_all (rs := [7]) (by kernel_rfl) (by decide) (fun i hi => ?_)
          rw [List.mem_singleton] at hi
          subst hi
          refine wpOp_alloc_int (o := _) rfl rfl rfl (fun X13 gb rgb hb hgb hlt => ?_)
          clear hlt
          have hng : gb ≠ ga := by have := rga.lt; omega
          replace hgb := Nat.le_trans hX.size hgb
          replace hr := Lib.hid (hr.out.below hb)
          replace rga := rga.below hb rga.lt
          replace hX := hX.trans (hb.mono hX.size)
          clear hb
          refine ⟨hX, ?_⟩
          simp only [Act.put, List.setIfInBounds_toArray, List.set_cons_zero, List.set_cons_succ]
          refine wpAnyH_all (rs := [8]) (by kernel_rfl) (by decide) (fun i hi => ?_)
          rw [List.mem_singleton] at hi
          subst hi
          have k0 := rga.cell_at 0
          have k1 := rga.cell_at 1
          have f0 := rga.free 0
          have f1 := rga.free 1
          simp only [List.getElem?_cons_zero, List.getElem?_cons_succ] at k0 k1
          unfold wpOp
          go_simp
          have hne := rgb.other (a := ⟨ga, 0, none⟩) hng (.bool bq)
          replace rgb := hne.other (a := ⟨ga, 1, none⟩) hng (.slice aq nq cq)
          replace hr := Lib.hid (ApiV.to hr.out (fun _ _ hl => hl.pair rga (.bool bq) (.slice aq nq cq)))
          replace hX := below_store (below_store hX hga (i := 0) (.bool bq)) hga (i := 1) (.slice aq nq cq)
          clear k0 k1 f0 f1 rga hne
          refine .inl ⟨hX, ?_⟩
          refine wpAnyH_all (rs := [9]) (by kernel_rfl) (by decide) (fun i hi => ?_)
          rw [List.mem_singleton] at hi
          subst hi
          have k0 := rgb.cell_at 0
          have k1 := rgb.cell_at 1
          have f0 := rgb.free 0
          have f1 := rgb.free 1
          simp only [List.getElem?_cons_zero, List.getElem?_cons_succ] at k0 k1
          unfold wpOp
          go_simp
          have HF := Lib.hid (box_store (U := W) rgb hgb hr.out hX)
          replace hX := below_store (below_store hX hgb (i := 0) (.bool br)) hgb (i := 1) (.slice ar nr cr)
          clear k0 k1 f0 f1 rgb hr
          refine .inl ⟨hX, ?_⟩
          refine wpAnyH_done (by kernel_rfl) ?_ _
          go_wp2_with fail
          go_meet
          exact HF.out
        · refine wpOp_alloc_int (o := _) rfl rfl rfl (fun X16 gb rgb hb hgb hlt => ?_)
          clear hlt
          have hng : gb ≠ ga := by have := rga.lt; omega
          replace hgb := Nat.le_trans hX.size hgb
          replace hu13 := Lib.hid (hu13.out.below hb)
          replace rga := rga.below hb rga.lt
          replace hX := hX.trans (hb.mono hX.size)
          clear hb
          refine ⟨hX, ?_⟩
          simp only [Act.put, List.setIfInBounds_toArray, List.set_cons_zero, List.set_cons_succ]
          refine wpAnyH_all (rs := [2]) (by kernel_rfl) (by decide) (fun i hi => ?_)
          rw [List.mem_singleton] at hi
          subst hi
          unfold wpOp
          go_simp
          refine .inl ((ref_div _ _ _ 1 m hu13.out (hvW3.out _ hX) (by decide) HLm.out HM0.out).mono ?_)
          rintro e X17 ⟨bq, aq, nq, cq, br, ar, nr, cr, rfl, -, hr, hb⟩
          replace hu13 := Lib.hid (hu13.out.below hb)
          replace rga := rga.below hb rga.lt
          replace rgb := rgb.below hb rgb.lt
          replace hX := hX.trans (hb.mono hX.size)
          clear hb
          replace hr := Lib.hid hr
          clear hu13
          refine ⟨hX, ?_⟩
          refine wpAnyH_take_at (i := 3) (v := .tuple #[.agg #[.bool bq, .slice aq nq cq], .agg #[.bool br, .slice ar nr cr]]) 12 rfl rfl (by kernel_rfl) (by kernel_rfl) (by kernel_rfl) (fun _ _ _ h => h) (.inl ⟨rfl, fun X hX => by go_simp⟩) hX ?_
          simp only [Act.put, List.setIfInBounds_toArray, List.set_cons_zero, List.set_cons_succ]
          refine wpAnyH_take_at (i := 4) (v := .agg #[.bool bq, .slice aq nq cq]) 16 rfl rfl (by kernel_rfl) (by kernel_rfl) (by kernel_rfl) (fun _ _ _ h => h) (.inl ⟨rfl, fun X hX => by go_simp⟩) hX ?_
          simp only [Act.put, List.setIfInBounds_toArray, List.set_cons_zero, List.set_cons_succ]
          refine wpAnyH_take_at (i := 5) (v := .agg #[.bool br, .slice ar nr cr]) 17 rfl rfl (by kernel_rfl) (by kernel_rfl) (by kernel_rfl) (fun _ _ _ h => h) (.inl ⟨rfl, fun X hX => by go_simp⟩) hX ?_
          simp only [Act.put, List.setIfInBounds_toArray, List.set_cons_zero, List.set_cons_succ]
          refine wpAnyH_all (rs := [8]) (by kernel_rfl) (by decide) (fun i hi => ?_)
          rw [List.mem_singleton] at hi
          subst hi
          have k0 := rga.cell_at 0
          have k1 := rga.cell_at 1
          have f0 := rga.free 0
          have f1 := rga.free 1
          simp only [List.getElem?_cons_zero, List.getElem?_cons_succ] at k0 k1
          unfold wpOp
          go_simp
          have hne := rgb.other (a := ⟨ga, 0, none⟩) hng (.bool bq)
          replace rgb := hne.other (a := ⟨ga, 1, none⟩) hng (.slice aq nq cq)
          replace hr := Lib.hid (ApiV.to hr.out (fun _ _ hl => hl.pair rga (.bool bq) (.slice aq nq cq)))
          replace hX := below_store (below_store hX hga (i := 0) (.bool bq)) hga (i := 1) (.slice aq nq cq)
          clear k0 k1 f0 f1 rga hne
          refine .inl ⟨hX, ?_⟩
          refine wpAnyH_all (rs := [9]) (by kernel_rfl) (by decide) (fun i hi => ?_)
          rw [List.mem_singleton] at hi
          subst hi
          have k0 := rgb.cell_at 0
          have k1 := rgb.cell_at 1
          have f0 := rgb.free 0
          have f1 := rgb.free 1
          simp only [List.getElem?_cons_zero, List.getElem?_cons_succ] at k0 k1
          unfold wpOp
          go_simp
          have HF := Lib.hid (box_store (U := W) rgb hgb hr.out hX)
          replace hX := below_store (below_store hX hgb (i := 0) (.bool br)) hgb (i := 1) (.slice ar nr cr)
          clear k0 k1 f0 f1 rgb hr
          refine .inl ⟨hX, ?_⟩
          refine wpAnyH_done (by kernel_rfl) ?_ _
          go_wp2_with fail
          go_meet
          exact HF.out
      · refine wpOp_alloc_int (o := _) rfl rfl rfl (fun X20 gb rgb hb hgb hlt => ?_)
        clear hlt
        replace hgb := Nat.le_trans hX.size hgb
        replace hu13 := Lib.hid (hu13.out.below hb)
        replace hX := hX.trans (hb.mono hX.size)
        clear hb
        refine ⟨hX, ?_⟩
        simp only [Act.put, List.setIfInBounds_toArray, List.set_cons_zero, List.set_cons_succ]
        refine wpAnyH_all (rs := [2, 6]) (by kernel_rfl) (by decide) (fun i hi => ?_)
        simp only [List.mem_cons, List.not_mem_nil, or_false] at hi
        rcases hi with rfl | rfl
        · unfold wpOp
          go_simp
          refine .inl ((ref_div _ _ _ 1 m hu13.out (hvW3.out _ hX) (by decide) HLm.out HM0.out).mono ?_)
          rintro e X21 ⟨bq, aq, nq, cq, br, ar, nr, cr, rfl, -, hr, hb⟩
          replace hu13 := Lib.hid (hu13.out.below hb)
          replace rgb := rgb.below hb rgb.lt
          replace hX := hX.trans (hb.mono hX.size)
          clear hb
          replace hr := Lib.hid hr
          clear hu13
          refine ⟨hX, ?_⟩
          refine wpAnyH_take_at (i := 3) (v := .tuple #[.agg #[.bool bq, .slice aq nq cq], .agg #[.bool br, .slice ar nr cr]]) 12 rfl rfl (by kernel_rfl) (by kernel_rfl) (by kernel_rfl) (fun _ _ _ h => h) (.inl ⟨rfl, fun X hX => by go_simp⟩) hX ?_
          simp only [Act.put, List.setIfInBounds_toArray, List.set_cons_zero, List.set_cons_succ]
          refine wpAnyH_take_at (i := 4) (v := .agg #[.bool bq, .slice aq nq cq]) 16 rfl rfl (by kernel_rfl) (by kernel_rfl) (by kernel_rfl) (fun _ _ _ h => h) (.inl ⟨rfl, fun X hX => by go_simp⟩) hX ?_
          simp only [Act.put, List.setIfInBounds_toArray, List.set_cons_zero, List.set_cons_succ]
          refine wpAnyH_take_at (i := 5) (v := .agg #[.bool br, .slice ar nr cr]) 17 rfl rfl (by kernel_rfl) (by kernel_rfl) (by kernel_rfl) (fun _ _ _ h => h) (.inl ⟨rfl, fun X hX => by go_simp⟩) hX ?_
          simp only [Act.put, List.setIfInBounds_toArray, List.set_cons_zero, List.set_cons_succ]
          refine wpAnyH_all (rs := [6]) (by kernel_rfl) (by decide) (fun i hi => ?_)
          rw [List.mem_singleton] at hi
          subst hi
          refine wpOp_alloc_int (o := _) rfl rfl rfl (fun X22 ga rga hb hga hlt => ?_)
          clear hlt
          have hng : gb ≠ ga := by have := rgb.lt; omega
          replace hga := Nat.le_trans hX.size hga
          replace hr := Lib.hid (hr.out.below hb)
          replace rgb := rgb.below hb rgb.lt
          replace hX := hX.trans (hb.mono hX.size)
          clear hb
          refine ⟨hX, ?_⟩
          simp only [Act.put, List.setIfInBounds_toArray, List.set_cons_zero, List.set_cons_succ]
          refine wpAnyH_all (rs := [8]) (by kernel_rfl) (by decide) (fun i hi => ?_)
          rw [List.mem_singleton] at hi
          subst hi
          have k0 := rga.cell_at 0
          have k1 := rga.cell_at 1
          have f0 := rga.free 0
          have f1 := rga.free 1
          simp only [List.getElem?_cons_zero, List.getElem?_cons_succ] at k0 k1
          unfold wpOp
          go_simp
          have hne := rgb.other (a := ⟨ga, 0, none⟩) hng (.bool bq)
          replace rgb := hne.other (a := ⟨ga, 1, none⟩) hng (.slice aq nq cq)
          replace hr := Lib.hid (ApiV.to hr.out (fun _ _ hl => hl.pair rga (.bool bq) (.slice aq nq cq)))
          replace hX := below_store (below_store hX hga (i := 0) (.bool bq)) hga (i := 1) (.slice aq nq cq)
          clear k0 k1 f0 f1 rga hne
          refine .inl ⟨hX, ?_⟩
          refine wpAnyH_all (rs := [9]) (by kernel_rfl) (by decide) (fun i hi => ?_)
          rw [List.mem_singleton] at hi
          subst hi
          have k0 := rgb.cell_at 0
          have k1 := rgb.cell_at 1
          have f0 := rgb.free 0
          have f1 := rgb.free 1
          simp only [List.getElem?_cons_zero, List.getElem?_cons_succ] at k0 k1
          unfold wpOp
          go_simp
          have HF := Lib.hid (box_store (U := W) rgb hgb hr.out hX)
          replace hX := below_store (below_store hX hgb (i := 0) (.bool br)) hgb (i := 1) (.slice ar nr cr)
          clear k0 k1 f0 f1 rgb hr
          refine .inl ⟨hX, ?_⟩
          refine wpAnyH_done (by kernel_rfl) ?_ _
          go_wp2_with fail
          go_meet
          exact HF.out
        · refine wpOp_alloc_int (o := _) rfl rfl rfl (fun X25 ga rga hb hga hlt => ?_)
          clear hlt
          have hng : gb ≠ ga := by have := rgb.lt; omega
          replace hga := Nat.le_trans hX.size hga
          replace hu13 := Lib.hid (hu13.out.below hb)
          replace rgb := rgb.below hb rgb.lt
          replace hX := hX.trans (hb.mono hX.size)
          clear hb
          refine ⟨hX, ?_⟩
          simp only [Act.put, List.setIfInBounds_toArray, List.set_cons_zero, List.set_cons_succ]
          refine wpAnyH_all (rs := [2]) (by kernel_rfl) (by decide) (fun i hi => ?_)
          rw [List.mem_singleton] at hi
          subst hi
          unfold wpOp
          go_simp
          refine .inl ((ref_div _ _ _ 1 m hu13.out (hvW3.out _ hX) (by decide) HLm.out HM0.out).mono ?_)
          rintro e X26 ⟨bq, aq, nq, cq, br, ar, nr, cr, rfl, -, hr, hb⟩
          replace hu13 := Lib.hid (hu13.out.below hb)
          replace rga := rga.below hb rga.lt
          replace rgb := rgb.below hb rgb.lt
          replace hX := hX.trans (hb.mono hX.size)
          clear hb
          replace hr := Lib.hid hr
          clear hu13
          refine ⟨hX, ?_⟩
          refine wpAnyH_take_at (i := 3) (v := .tuple #[.agg #[.bool bq, .slice aq nq cq], .agg #[.bool br, .slice ar nr cr]]) 12 rfl rfl (by kernel_rfl) (by kernel_rfl) (by kernel_rfl) (fun _ _ _ h => h) (.inl ⟨rfl, fun X hX => by go_simp⟩) hX ?_
          simp only [Act.put, List.setIfInBounds_toArray, List.set_cons_zero, List.set_cons_succ]
          refine wpAnyH_take_at (i := 4) (v := .agg #[.bool bq, .slice aq nq cq]) 16 rfl rfl (by kernel_rfl) (by kernel_rfl) (by kernel_rfl) (fun _ _ _ h => h) (.inl ⟨rfl, fun X hX => by go_simp⟩) hX ?_
          simp only [Act.put, List.setIfInBounds_toArray, List.set_cons_zero, List.set_cons_succ]
          refine wpAnyH_take_at (i := 5) (v := .agg #[.bool br, .slice ar nr cr]) 17 rfl rfl (by kernel_rfl) (by kernel_rfl) (by kernel_rfl) (fun _ _ _ h => h) (.inl ⟨rfl, fun X hX => by go_simp⟩) hX ?_
          simp only [Act.put, List.setIfInBounds_toArray, List.set_cons_zero, List.set_cons_succ]
          refine wpAnyH_all (rs := [8]) (by kernel_rfl) (by decide) (fun i hi => ?_)
          rw [List.mem_singleton] at hi
          subst hi
          have k0 := rga.cell_at 0
          have k1 := rga.cell_at 1
          have f0 := rga.free 0
          have f1 := rga.free 1
          simp only [List.getElem?_cons_zero, List.getElem?_cons_succ] at k0 k1
          unfold wpOp
          go_simp
          have hne := rgb.other (a := ⟨ga, 0, none⟩) hng (.bool bq)
          replace rgb := hne.other (a := ⟨ga, 1, none⟩) hng (.slice aq nq cq)
          replace hr := Lib.hid (ApiV.to hr.out (fun _ _ hl => hl.pair rga (.bool bq) (.slice aq nq cq)))
          replace hX := below_store (below_store hX hga (i := 0) (.bool bq)) hga (i := 1) (.slice aq nq cq)
          clear k0 k1 f0 f1 rga hne
          refine .inl ⟨hX, ?_⟩
          refine wpAnyH_all (rs := [9]) (by kernel_rfl) (by decide) (fun i hi => ?_)
          rw [List.mem_singleton] at hi
          subst hi
          have k0 := rgb.cell_at 0
          have k1 := rgb.cell_at 1
          have f0 := rgb.free 0
          have f1 := rgb.free 1
          simp only [List.getElem?_cons_zero, List.getElem?_cons_succ] at k0 k1
          unfold wpOp
          go_simp
          have HF := Lib.hid (box_store (U := W) rgb hgb hr.out hX)
          replace hX := below_store (below_store hX hgb (i := 0) (.bool br)) hgb (i := 1) (.slice ar nr cr)
          clear k0 k1 f0 f1 rgb hr
          refine .inl ⟨hX, ?_⟩
          refine wpAnyH_done (by kernel_rfl) ?_ _
          go_wp2_with fail
          go_meet
          exact HF.out
    · refine wpOp_alloc_int (o := _) rfl rfl rfl (fun X29 ga rga hb hga hlt => ?_)
      clear hlt
      replace hga := Nat.le_trans hX.size hga
      replace hX := hX.trans (hb.mono hX.size)
      clear hb
      refine ⟨hX, ?_⟩
      simp only [Act.put, List.setIfInBounds_toArray, List.set_cons_zero, List.set_cons_succ]
      refine wpAnyH_all (rs := [0, 7]) (by kernel_rfl) (by decide) (fun i hi => ?_)
      simp only [List.mem_cons, List.not_mem_nil, or_false] at hi
      rcases hi with rfl | rfl
      · unfold wpOp
        go_simp
        refine .inl ((ref_of _ 1 (by decide) (by decide)).mono ?_)
        rintro e X30 ⟨u13, rfl, hu13, hb⟩
        replace rga := rga.below hb rga.lt
        replace hX := hX.trans (hb.mono hX.size)
        clear hb
        replace hu13 := Lib.hid hu13
        refine ⟨hX, ?_⟩
        refine wpAnyH_all (rs := [2, 7]) (by kernel_rfl) (by decide) (fun i hi => ?_)
        simp only [List.mem_cons, List.not_mem_nil, or_false] at hi
        rcases hi with rfl | rfl
        · unfold wpOp
          go_simp
          refine .inl ((ref_div _ _ _ 1 m hu13.out (hvW3.out _ hX) (by decide) HLm.out HM0.out).mono ?_)
          rintro e X31 ⟨bq, aq, nq, cq, br, ar, nr, cr, rfl, -, hr, hb⟩
          replace hu13 := Lib.hid (hu13.out.below hb)
          replace rga := rga.below hb rga.lt
          replace hX := hX.trans (hb.mono hX.size)
          clear hb
          replace hr := Lib.hid hr
          clear hu13
          refine ⟨hX, ?_⟩
          refine wpAnyH_take_at (i := 3) (v := .tuple #[.agg #[.bool bq, .slice aq nq cq], .agg #[.bool br, .slice ar nr cr]]) 12 rfl rfl (by kernel_rfl) (by kernel_rfl) (by kernel_rfl) (fun _ _ _ h => h) (.inl ⟨rfl, fun X hX => by go_simp⟩) hX ?_
          simp only [Act.put, List.setIfInBounds_toArray, List.set_cons_zero, List.set_cons_succ]
          refine wpAnyH_take_at (i := 4) (v := .agg #[.bool bq, .slice aq nq cq]) 16 rfl rfl (by kernel_rfl) (by kernel_rfl) (by kernel_rfl) (fun _ _ _ h => h) (.inl ⟨rfl, fun X hX => by go_simp⟩) hX ?_
          simp only [Act.put, List.setIfInBounds_toArray, List.set_cons_zero, List.set_cons_succ]
          refine wpAnyH_take_at (i := 5) (v := .agg #[.bool br, .slice ar nr cr]) 17 rfl rfl (by kernel_rfl) (by kernel_rfl) (by kernel_rfl) (fun _ _ _ h => h) (.inl ⟨rfl, fun X hX => by go_simp⟩) hX ?_
          simp only [Act.put, List.setIfInBounds_toArray, List.set_cons_zero, List.set_cons_succ]
          refine wpAnyH_all (rs := [7]) (by kernel_rfl) (by decide) (fun i hi => ?_)
          rw [List.mem_singleton] at hi
          subst hi
          refine wpOp_alloc_int (o := _) rfl rfl rfl (fun X32 gb rgb hb hgb hlt => ?_)
          clear hlt
          have hng : gb ≠ ga := by have := rga.lt; omega
          replace hgb := Nat.le_trans hX.size hgb
          replace hr := Lib.hid (hr.out.below hb)
          replace rga := rga.below hb rga.lt
          replace hX := hX.trans (hb.mono hX.size)
          clear hb
          refine ⟨hX, ?_⟩
          simp only [Act.put, List.setIfInBounds_toArray, List.set_cons_zero, List.set_cons_succ]
          refine wpAnyH_all (rs := [8]) (by kernel_rfl) (by decide) (fun i hi => ?_)
          rw [List.mem_singleton] at hi
          subst hi
          have k0 := rga.cell_at 0
          have k1 := rga.cell_at 1
          have f0 := rga.free 0
          have f1 := rga.free 1
          simp only [List.getElem?_cons_zero, List.getElem?_cons_succ] at k0 k1
          unfold wpOp
          go_simp
          have hne := rgb.other (a := ⟨ga, 0, none⟩) hng (.bool bq)
          replace rgb := hne.other (a := ⟨ga, 1, none⟩) hng (.slice aq nq cq)
          replace hr := Lib.hid (ApiV.to hr.out (fun _ _ hl => hl.pair rga (.bool bq) (.slice aq nq cq)))
          replace hX := below_store (below_store hX hga (i := 0) (.bool bq)) hga (i := 1) (.slice aq nq cq)
          clear k0 k1 f0 f1 rga hne
          refine .inl ⟨hX, ?_⟩
          refine wpAnyH_all (rs := [9]) (by kernel_rfl) (by decide) (fun i hi => ?_)
          rw [List.mem_singleton] at hi
          subst hi
          have k0 := rgb.cell_at 0
          have k1 := rgb.cell_at 1
          have f0 := rgb.free 0
          have f1 := rgb.free 1
          simp only [List.getElem?_cons_zero, List.getElem?_cons_succ] at k0 k1
          unfold wpOp
          go_simp
          have HF := Lib.hid (box_store (U := W) rgb hgb hr.out hX)
          replace hX := below_store (below_store hX hgb (i := 0) (.bool br)) hgb (i := 1) (.slice ar nr cr)
          clear k0 k1 f0 f1 rgb hr
          refine .inl ⟨hX, ?_⟩
          refine wpAnyH_done (by kernel_rfl) ?_ _
          go_wp2_with fail
          go_meet
          exact HF.out
        · refine wpOp_alloc_int (o := _) rfl rfl rfl (fun X35 gb rgb hb hgb hlt => ?_)
          clear hlt
          have hng : gb ≠ ga := by have := rga.lt; omega
          replace hgb := Nat.le_trans hX.size hgb
          replace hu13 := Lib.hid (hu13.out.below hb)
          replace rga := rga.below hb rga.lt
          replace hX := hX.trans (hb.mono hX.size)
          clear hb
          refine ⟨hX, ?_⟩
          simp only [Act.put, List.setIfInBounds_toArray, List.set_cons_zero, List.set_cons_succ]
          refine wpAnyH_all (rs := [2]) (by kernel_rfl) (by decide) (fun i hi => ?_)
          rw [List.mem_singleton] at hi
          subst hi
          unfold wpOp
          go_simp
          refine .inl ((ref_div _ _ _ 1 m hu13.out (hvW3.out _ hX) (by decide) HLm.out HM0.out).mono ?_)
          rintro e X36 ⟨bq, aq, nq, cq, br, ar, nr, cr, rfl, -, hr, hb⟩
          replace hu13 := Lib.hid (hu13.out.below hb)
          replace rga := rga.below hb rga.lt
          replace rgb := rgb.below hb rgb.lt
          replace hX := hX.trans (hb.mono hX.size)
          clear hb
          replace hr := Lib.hid hr
          clear hu13
          refine ⟨hX, ?_⟩
          refine wpAnyH_take_at (i := 3) (v := .tuple #[.agg #[.bool bq, .slice aq nq cq], .agg #[.bool br, .slice ar nr cr]]) 12 rfl rfl (by kernel_rfl) (by kernel_rfl) (by kernel_rfl) (fun _ _ _ h => h) (.inl ⟨rfl, fun X hX => by go_simp⟩) hX ?_
          simp only [Act.put, List.setIfInBounds_toArray, List.set_cons_zero, List.set_cons_succ]
          refine wpAnyH_take_at (i := 4) (v := .agg #[.bool bq, .slice aq nq cq]) 16 rfl rfl (by kernel_rfl) (by kernel_rfl) (by kernel_rfl) (fun _ _ _ h => h) (.inl ⟨rfl, fun X hX => by go_simp⟩) hX ?_
          simp only [Act.put, List.setIfInBounds_toArray, List.set_cons_zero, List.set_cons_succ]
          refine wpAnyH_take_at (i := 5) (v := .agg #[.bool br, .slice ar nr cr]) 17 rfl rfl (by kernel_rfl) (by kernel_rfl) (by kernel_rfl) (fun _ _ _ h => h) (.inl ⟨rfl, fun X hX => by go_simp⟩) hX ?_
          simp only [Act.put, List.setIfInBounds_toArray, List.set_cons_zero, List.set_cons_succ]
          refine wpAnyH_all (rs := [8]) (by kernel_rfl) (by decide) (fun i hi => ?_)
          rw [List.mem_singleton] at hi
          subst hi
          have k0 := rga.cell_at 0
          have k1 := rga.cell_at 1
          have f0 := rga.free 0
          have f1 := rga.free 1
          simp only [List.getElem?_cons_zero, List.getElem?_cons_succ] at k0 k1
          unfold wpOp
          go_simp
          have hne := rgb.other (a := ⟨ga, 0, none⟩) hng (.bool bq)
          replace rgb := hne.other (a := ⟨ga, 1, none⟩) hng (.slice aq nq cq)
          replace hr := Lib.hid (ApiV.to hr.out (fun _ _ hl => hl.pair rga (.bool bq) (.slice aq nq cq)))
          replace hX := below_store (below_store hX hga (i := 0) (.bool bq)) hga (i := 1) (.slice aq nq cq)
          clear k0 k1 f0 f1 rga hne
          refine .inl ⟨hX, ?_⟩
          refine wpAnyH_all (rs := [9]) (by kernel_rfl) (by decide) (fun i hi => ?_)
          rw [List.mem_singleton] at hi
          subst hi
          have k0 := rgb.cell_at 0
          have k1 := rgb.cell_at 1
          have f0 := rgb.free 0
          have f1 := rgb.free 1
          simp only [List.getElem?_cons_zero, List.getElem?_cons_succ] at k0 k1
          unfold wpOp
          go_simp
          have HF := Lib.hid (box_store (U := W) rgb hgb hr.out hX)
          replace hX := below_store (below_store hX hgb (i := 0) (.bool br)) hgb (i := 1) (.slice ar nr cr)
          clear k0 k1 f0 f1 rgb hr
          refine .inl ⟨hX, ?_⟩
          refine wpAnyH_done (by kernel_rfl) ?_ _
          go_wp2_with fail
          go_meet
          exact HF.out
      · refine wpOp_alloc_int (o := _) rfl rfl rfl (fun X39 gb rgb hb hgb hlt => ?_)
        clear hlt
        have hng : gb ≠ ga := by have := rga.lt; omega
        replace hgb := Nat.le_trans hX.size hgb
        replace rga := rga.below hb rga.lt
        replace hX := hX.trans (hb.mono hX.size)
        clear hb
        refine ⟨hX, ?_⟩
        simp only [Act.put, List.setIfInBounds_toArray, List.set_cons_zero, List.set_cons_succ]
        refine wpAnyH_all (rs := [0]) (by kernel_rfl) (by decide) (fun i hi => ?_)
        rw [List.mem_singleton] at hi
        subst hi
        unfold wpOp
        go_simp
        refine .inl ((ref_of _ 1 (by decide) (by decide)).mono ?_)
        rintro e X40 ⟨u13, rfl, hu13, hb⟩
        replace rga := rga.below hb rga.lt
        replace rgb := rgb.below hb rgb.lt
        replace hX := hX.trans (hb.mono hX.size)
        clear hb
        replace hu13 := Lib.hid hu13
        refine ⟨hX, ?_⟩
        refine wpAnyH_all (rs := [2]) (by kernel_rfl) (by decide) (fun i hi => ?_)
        rw [List.mem_singleton] at hi
        subst hi
        unfold wpOp
        go_simp
        refine .inl ((ref_div _ _ _ 1 m hu13.out (hvW3.out _ hX) (by decide) HLm.out HM0.out).mono ?_)
        rintro e X41 ⟨bq, aq, nq, cq, br, ar, nr, cr, rfl, -, hr, hb⟩
        replace hu13 := Lib.hid (hu13.out.below hb)
        replace rga := rga.below hb rga.lt
        replace rgb := rgb.below hb rgb.lt
        replace hX := hX.trans (hb.mono hX.size)
        clear hb
        replace hr := Lib.hid hr
        clear hu13
        refine ⟨hX, ?_⟩
        refine wpAnyH_take_at (i := 3) (v := .tuple #[.agg #[.bool bq, .slice aq nq cq], .agg #[.bool br, .slice ar nr cr]]) 12 rfl rfl (by kernel_rfl) (by kernel_rfl) (by kernel_rfl) (fun _ _ _ h => h) (.inl ⟨rfl, fun X hX => by go_simp⟩) hX ?_
        simp only [Act.put, List.setIfInBounds_toArray, List.set_cons_zero, List.set_cons_succ]
        refine wpAnyH_take_at (i := 4) (v := .agg #[.bool bq, .slice aq nq cq]) 16 rfl rfl (by kernel_rfl) (by kernel_rfl) (by kernel_rfl) (fun _ _ _ h => h) (.inl ⟨rfl, fun X hX => by go_simp⟩) hX ?_
        simp only [Act.put, List.setIfInBounds_toArray, List.set_cons_zero, List.set_cons_succ]
        refine wpAnyH_take_at (i := 5) (v := .agg #[.bool br, .slice ar nr cr]) 17 rfl rfl (by kernel_rfl) (by kernel_rfl) (by kernel_rfl) (fun _ _ _ h => h) (.inl ⟨rfl, fun X hX => by go_simp⟩) hX ?_
        simp only [Act.put, List.setIfInBounds_toArray, List.set_cons_zero, List.set_cons_succ]
        refine wpAnyH_all (rs := [8]) (by kernel_rfl) (by decide) (fun i hi => ?_)
        rw [List.mem_singleton] at hi
        subst hi
        have k0 := rga.cell_at 0
        have k1 := rga.cell_at 1
        have f0 := rga.free 0
        have f1 := rga.free 1
        simp only [List.getElem?_cons_zero, List.getElem?_cons_succ] at k0 k1
        unfold wpOp
        go_simp
        have hne := rgb.other (a := ⟨ga, 0, none⟩) hng (.bool bq)
        replace rgb := hne.other (a := ⟨ga, 1, none⟩) hng (.slice aq nq cq)
        replace hr := Lib.hid (ApiV.to hr.out (fun _ _ hl => hl.pair rga (.bool bq) (.slice aq nq cq)))
        replace hX := below_store (below_store hX hga (i := 0) (.bool bq)) hga (i := 1) (.slice aq nq cq)
        clear k0 k1 f0 f1 rga hne
        refine .inl ⟨hX, ?_⟩
        refine wpAnyH_all (rs := [9]) (by kernel_rfl) (by decide) (fun i hi => ?_)
        rw [List.mem_singleton] at hi
        subst hi
        have k0 := rgb.cell_at 0
        have k1 := rgb.cell_at 1
        have f0 := rgb.free 0
        have f1 := rgb.free 1
        simp only [List.getElem?_cons_zero, List.getElem?_cons_succ] at k0 k1
        unfold wpOp
        go_simp
        have HF := Lib.hid (box_store (U := W) rgb hgb hr.out hX)
        replace hX := below_store (below_store hX hgb (i := 0) (.bool br)) hgb (i := 1) (.slice ar nr cr)
        clear k0 k1 f0 f1 rgb hr
        refine .inl ⟨hX, ?_⟩
        refine wpAnyH_done (by kernel_rfl) ?_ _
        go_wp2_with fail
        go_meet
        exact HF.out
    · refine wpOp_alloc_int (o := _) rfl rfl rfl (fun X44 gb rgb hb hgb hlt => ?_)
      clear hlt
      replace hgb := Nat.le_trans hX.size hgb
      replace hX := hX.trans (hb.mono hX.size)
      clear hb
      refine ⟨hX, ?_⟩
      simp only [Act.put, List.setIfInBounds_toArray, List.set_cons_zero, List.set_cons_succ]
      refine wpAnyH_all (rs := [0, 6]) (by kernel_rfl) (by decide) (fun i hi => ?_)
      simp only [List.mem_cons, List.not_mem_nil, or_false] at hi
      rcases hi with rfl | rfl
      · unfold wpOp
        go_simp
        refine .inl ((ref_of _ 1 (by decide) (by decide)).mono ?_)
        rintro e X45 ⟨u13, rfl, hu13, hb⟩
        replace rgb := rgb.below hb rgb.lt
        replace hX := hX.trans (hb.mono hX.size)
        clear hb
        replace hu13 := Lib.hid hu13
        refine ⟨hX, ?_⟩
        refine wpAnyH_all (rs := [2, 6]) (by kernel_rfl) (by decide) (fun i hi => ?_)
        simp only [List.mem_cons, List.not_mem_nil, or_false] at hi
        rcases hi with rfl | rfl
        · unfold wpOp
          go_simp
          refine .inl ((ref_div _ _ _ 1 m hu13.out (hvW3.out _ hX) (by decide) HLm.out HM0.out).mono ?_)
          rintro e X46 ⟨bq, aq, nq, cq, br, ar, nr, cr, rfl, -, hr, hb⟩
          replace hu13 := Lib.hid (hu13.out.below hb)
          replace rgb := rgb.below hb rgb.lt
          replace hX := hX.trans (hb.mono hX.size)
          clear hb
          replace hr := Lib.hid hr
          clear hu13
          refine ⟨hX, ?_⟩
          refine wpAnyH_take_at (i := 3) (v := .tuple #[.agg #[.bool bq, .slice aq nq cq], .agg #[.bool br, .slice ar nr cr]]) 12 rfl rfl (by kernel_rfl) (by kernel_rfl) (by kernel_rfl) (fun _ _ _ h => h) (.inl ⟨rfl, fun X hX => by go_simp⟩) hX ?_
          simp only [Act.put, List.setIfInBounds_toArray, List.set_cons_zero, List.set_cons_succ]
          refine wpAnyH_take_at (i := 4) (v := .agg #[.bool bq, .slice aq nq cq]) 16 rfl rfl (by kernel_rfl) (by kernel_rfl) (by kernel_rfl) (fun _ _ _ h => h) (.inl ⟨rfl, fun X hX => by go_simp⟩) hX ?_
          simp only [Act.put, List.setIfInBounds_toArray, List.set_cons_zero, List.set_cons_succ]
          refine wpAnyH_take_at (i := 5) (v := .agg #[.bool br, .slice ar nr cr]) 17 rfl rfl (by kernel_rfl) (by kernel_rfl) (by kernel_rfl) (fun _ _ _ h => h) (.inl ⟨rfl, fun X hX => by go_simp⟩) hX ?_
          simp only [Act.put, List.setIfInBounds_toArray, List.set_cons_zero, List.set_cons_succ]
          refine wpAnyH_all (rs := [6]) (by kernel_rfl) (by decide) (fun i hi => ?_)
          rw [List.mem_singleton] at hi
          subst hi
          refine wpOp_alloc_int (o := _) rfl rfl rfl (fun X47 ga rga hb hga hlt => ?_)
          clear hlt
          have hng : gb ≠ ga := by have := rgb.lt; omega
          replace hga := Nat.le_trans hX.size hga
          replace hr := Lib.hid (hr.out.below hb)
          replace rgb := rgb.below hb rgb.lt
          replace hX := hX.trans (hb.mono hX.size)
          clear hb
          refine ⟨hX, ?_⟩
          simp only [Act.put, List.setIfInBounds_toArray, List.set_cons_zero, List.set_cons_succ]
          refine wpAnyH_all (rs := [8]) (by kernel_rfl) (by decide) (fun i hi => ?_)
          rw [List.mem_singleton] at hi
          subst hi
          have k0 := rga.cell_at 0
          have k1 := rga.cell_at 1
          have f0 := rga.free 0
          have f1 := rga.free 1
          simp only [List.getElem?_cons_zero, List.getElem?_cons_succ] at k0 k1
          unfold wpOp
          go_simp
          have hne := rgb.other (a := ⟨ga, 0, none⟩) hng (.bool bq)
          replace rgb := hne.other (a := ⟨ga, 1, none⟩) hng (.slice aq nq cq)
          replace hr := Lib.hid (ApiV.to hr.out (fun _ _ hl => hl.pair rga (.bool bq) (.slice aq nq cq)))
          replace hX := below_store (below_store hX hga (i := 0) (.bool bq)) hga (i := 1) (.slice aq nq cq)
          clear k0 k1 f0 f1 rga hne
          refine .inl ⟨hX, ?_⟩
          refine wpAnyH_all (rs := [9]) (by kernel_rfl) (by decide) (fun i hi => ?_)
          rw [List.mem_singleton] at hi
          subst hi
          have k0 := rgb.cell_at 0
          have k1 := rgb.cell_at 1
          have f0 := rgb.free 0
          have f1 := rgb.free 1
          simp only [List.getElem?_cons_zero, List.getElem?_cons_succ] at k0 k1
          unfold wpOp
          go_simp
          have HF := Lib.hid (box_store (U := W) rgb hgb hr.out hX)
          replace hX := below_store (below_store hX hgb (i := 0) (.bool br)) hgb (i := 1) (.slice ar nr cr)
          clear k0 k1 f0 f1 rgb hr
          refine .inl ⟨hX, ?_⟩
          refine wpAnyH_done (by kernel_rfl) ?_ _
          go_wp2_with fail
          go_meet
          exact HF.out
        · refine wpOp_alloc_int (o := _) rfl rfl rfl (fun X50 ga rga hb hga hlt => ?_)
          clear hlt
          have hng : gb ≠ ga := by have := rgb.lt; omega
          replace hga := Nat.le_trans hX.size hga
          replace hu13 := Lib.hid (hu13.out.below hb)
          replace rgb := rgb.below hb rgb.lt
          replace hX := hX.trans (hb.mono hX.size)
          clear hb
          refine ⟨hX, ?_⟩
          simp only [Act.put, List.setIfInBounds_toArray, List.set_cons_zero, List.set_cons_succ]
          refine wpAnyH_all (rs := [2]) (by kernel_rfl) (by decide) (fun i hi => ?_)
          rw [List.mem_singleton] at hi
          subst hi
          unfold wpOp
          go_simp
          refine .inl ((ref_div _ _ _ 1 m hu13.out (hvW3.out _ hX) (by decide) HLm.out HM0.out).mono ?_)
          rintro e X51 ⟨bq, aq, nq, cq, br, ar, nr, cr, rfl, -, hr, hb⟩
          replace hu13 := Lib.hid (hu13.out.below hb)
          replace rga := rga.below hb rga.lt
          replace rgb := rgb.below hb rgb.lt
          replace hX := hX.trans (hb.mono hX.size)
          clear hb
          replace hr := Lib.hid hr
          clear hu13
          refine ⟨hX, ?_⟩
          refine wpAnyH_take_at (i := 3) (v := .tuple #[.agg #[.bool bq, .slice aq nq cq], .agg #[.bool br, .slice ar nr cr]]) 12 rfl rfl (by kernel_rfl) (by kernel_rfl) (by kernel_rfl) (fun _ _ _ h => h) (.inl ⟨rfl, fun X hX => by go_simp⟩) hX ?_
          simp only [Act.put, List.setIfInBounds_toArray, List.set_cons_zero, List.set_cons_succ]
          refine wpAnyH_take_at (i := 4) (v := .agg #[.bool bq, .slice aq nq cq]) 16 rfl rfl (by kernel_rfl) (by kernel_rfl) (by kernel_rfl) (fun _ _ _ h => h) (.inl ⟨rfl, fun X hX => by go_simp⟩) hX ?_
          simp only [Act.put, List.setIfInBounds_toArray, List.set_cons_zero, List.set_cons_succ]
          refine wpAnyH_take_at (i := 5) (v := .agg #[.bool br, .slice ar nr cr]) 17 rfl rfl (by kernel_rfl) (by kernel_rfl) (by kernel_rfl) (fun _ _ _ h => h) (.inl ⟨rfl, fun X hX => by go_simp⟩) hX ?_
          simp only [Act.put, List.setIfInBounds_toArray, List.set_cons_zero, List.set_cons_succ]
          refine wpAnyH_all (rs := [8]) (by kernel_rfl) (by decide) (fun i hi => ?_)
          rw [List.mem_singleton] at hi
          subst hi
          have k0 := rga.cell_at 0
          have k1 := rga.cell_at 1
          have f0 := rga.free 0
          have f1 := rga.free 1
          simp only [List.getElem?_cons_zero, List.getElem?_cons_succ] at k0 k1
          unfold wpOp
          go_simp
          have hne := rgb.other (a := ⟨ga, 0, none⟩) hng (.bool bq)
          replace rgb := hne.other (a := ⟨ga, 1, none⟩) hng (.slice aq nq cq)
          replace hr := Lib.hid (ApiV.to hr.out (fun _ _ hl => hl.pair rga (.bool bq) (.slice aq nq cq)))
          replace hX := below_store (below_store hX hga (i := 0) (.bool bq)) hga (i := 1) (.slice aq nq cq)
          clear k0 k1 f0 f1 rga hne
          refine .inl ⟨hX, ?_⟩
          refine wpAnyH_all (rs := [9]) (by kernel_rfl) (by decide) (fun i hi => ?_)
          rw [List.mem_singleton] at hi
          subst hi
          have k0 := rgb.cell_at 0
          have k1 := rgb.cell_at 1
          have f0 := rgb.free 0
          have f1 := rgb.free 1
          simp only [List.getElem?_cons_zero, List.getElem?_cons_succ] at k0 k1
          unfold wpOp
          go_simp
          have HF := Lib.hid (box_store (U := W) rgb hgb hr.out hX)
          replace hX := below_store (below_store hX hgb (i := 0) (.bool br)) hgb (i := 1) (.slice ar nr cr)
          clear k0 k1 f0 f1 rgb hr
          refine .inl ⟨hX, ?_⟩
          refine wpAnyH_done (by kernel_rfl) ?_ _
          go_wp2_with fail
          go_meet
          exact HF.out
      · refine wpOp_alloc_int (o := _) rfl rfl rfl (fun X54 ga rga hb hga hlt => ?_)
        clear hlt
        have hng : gb ≠ ga := by have := rgb.lt; omega
        replace hga := Nat.le_trans hX.size hga
        replace rgb := rgb.below hb rgb.lt
        replace hX := hX.trans (hb.mono hX.size)
        clear hb
        refine ⟨hX, ?_⟩
        simp only [Act.put, List.setIfInBounds_toArray, List.set_cons_zero, List.set_cons_succ]
        refine wpAnyH_all (rs := [0]) (by kernel_rfl) (by decide) (fun i hi => ?_)
        rw [List.mem_singleton] at hi
        subst hi
        unfold wpOp
        go_simp
        refine .inl ((ref_of _ 1 (by decide) (by decide)).mono ?_)
        rintro e X55 ⟨u13, rfl, hu13, hb⟩
        replace rga := rga.below hb rga.lt
        replace rgb := rgb.below hb rgb.lt
        replace hX := hX.trans (hb.mono hX.size)
        clear hb
        replace hu13 := Lib.hid hu13
        refine ⟨hX, ?_⟩
        refine wpAnyH_all (rs := [2]) (by kernel_rfl) (by decide) (fun i hi => ?_)
        rw [List.mem_singleton] at hi
        subst hi
        unfold wpOp
        go_simp
        refine .inl ((ref_div _ _ _ 1 m hu13.out (hvW3.out _ hX) (by decide) HLm.out HM0.out).mono ?_)
        rintro e X56 ⟨bq, aq, nq, cq, br, ar, nr, cr, rfl, -, hr, hb⟩
        replace hu13 := Lib.hid (hu13.out.below hb)
        replace rga := rga.below hb rga.lt
        replace rgb := rgb.below hb rgb.lt
        replace hX := hX.trans (hb.mono hX.size)
        clear hb
        replace hr := Lib.hid hr
        clear hu13
        refine ⟨hX, ?_⟩
        refine wpAnyH_take_at (i := 3) (v := .tuple #[.agg #[.bool bq, .slice aq nq cq], .agg #[.bool br, .slice ar nr cr]]) 12 rfl rfl (by kernel_rfl) (by kernel_rfl) (by kernel_rfl) (fun _ _ _ h => h) (.inl ⟨rfl, fun X hX => by go_simp⟩) hX ?_
        simp only [Act.put, List.setIfInBounds_toArray, List.set_cons_zero, List.set_cons_succ]
        refine wpAnyH_take_at (i := 4) (v := .agg #[.bool bq, .slice aq nq cq]) 16 rfl rfl (by kernel_rfl) (by kernel_rfl) (by kernel_rfl) (fun _ _ _ h => h) (.inl ⟨rfl, fun X hX => by go_simp⟩) hX ?_
        simp only [Act.put, List.setIfInBounds_toArray, List.set_cons_zero, List.set_cons_succ]
        refine wpAnyH_take_at (i := 5) (v := .agg #[.bool br, .slice ar nr cr]) 17 rfl rfl (by kernel_rfl) (by kernel_rfl) (by kernel_rfl) (fun _ _ _ h => h) (.inl ⟨rfl, fun X hX => by go_simp⟩) hX ?_
        simp only [Act.put, List.setIfInBounds_toArray, List.set_cons_zero, List.set_cons_succ]
        refine wpAnyH_all (rs := [8]) (by kernel_rfl) (by decide) (fun i hi => ?_)
        rw [List.mem_singleton] at hi
        subst hi
        have k0 := rga.cell_at 0
        have k1 := rga.cell_at 1
        have f0 := rga.free 0
        have f1 := rga.free 1
        simp only [List.getElem?_cons_zero, List.getElem?_cons_succ] at k0 k1
        unfold wpOp
        go_simp
        have hne := rgb.other (a := ⟨ga, 0, none⟩) hng (.bool bq)
        replace rgb := hne.other (a := ⟨ga, 1, none⟩) hng (.slice aq nq cq)
        replace hr := Lib.hid (ApiV.to hr.out (fun _ _ hl => hl.pair rga (.bool bq) (.slice aq nq cq)))
        replace hX := below_store (below_store hX hga (i := 0) (.bool bq)) hga (i := 1) (.slice aq nq cq)
        clear k0 k1 f0 f1 rga hne
        refine .inl ⟨hX, ?_⟩
        refine wpAnyH_all (rs := [9]) (by kernel_rfl) (by decide) (fun i hi => ?_)
        rw [List.mem_singleton] at hi
        subst hi
        have k0 := rgb.cell_at 0
        have k1 := rgb.cell_at 1
        have f0 := rgb.free 0
        have f1 := rgb.free 1
        simp only [List.getElem?_cons_zero, List.getElem?_cons_succ] at k0 k1
        unfold wpOp
        go_simp
        have HF := Lib.hid (box_store (U := W) rgb hgb hr.out hX)
        replace hX := below_store (below_store hX hgb (i := 0) (.bool br)) hgb (i := 1) (.slice ar nr cr)
        clear k0 k1 f0 f1 rgb hr
        refine .inl ⟨hX, ?_⟩
        refine wpAnyH_done (by kernel_rfl) ?_ _
        go_wp2_with fail
        go_meet
        exact HF.out
  case rest =>
  obtain ⟨gp, bp, ap, np, cp, rfl, hgp, rp, hap, hX1⟩ := hcut
  have HP1 := Lib.hid hap
  have s0 := r0.below hX1 r0.lt
  have s1r := r1.below hX1 r1.lt
  have s2r := r2.below hX1 r2.lt
  have s3r := r3.below hX1 r3.lt
  have hB1 := hW.trans (hX1.mono hW.size)
  obtain ⟨V, hV⟩ : ∃ V, V = wc := ⟨_, rfl⟩
  rw [← hV] at rp HP1 s0 s1r s2r s3r hB1 hX1 ⊢
  have HBv := Lib.hid (fun X (h : Below V.heap.size V X) => HBx.out X (hX1.trans (h.mono hX1.size)))
  have HV1v := Lib.hid (fun X (h : Below V.heap.size V X) => hvW1.out X (hX1.trans (h.mono hX1.size)))
  have HV3v := Lib.hid (fun X (h : Below V.heap.size V X) => hvW3.out X (hX1.trans (h.mono hX1.size)))
  clear hV hap r0 r1 r2 r3 hW HBx hvW1
  have hgpf : w.heap.size + 1 + 1 + 1 < gp := by omega
  clear hgp hsz
  obtain ⟨i0, i1, i2, i3⟩ := HBv.out V (Below.refl _ _)
  go_wp2_with fail
  refine (ref_div V _ _ x m (HV1v.out _ (Below.refl _ _)) (HV3v.out _ (Below.refl _ _)) HLx.out HLm.out HM0.out).mono ?_
  rintro e w5 ⟨bq, aq, nq, cq, bx, ax, nx, cx, rfl, -, hax, hb5⟩
  obtain ⟨Y, hY, rq, rx, hbY, hzY⟩ := rows2 w5 24 (.bool bq) (.slice aq nq cq) (.bool bx) (.slice ax nx cx)
  obtain ⟨gx, hgx⟩ : ∃ gx, gx = w5.heap.size + 1 := ⟨_, rfl⟩
  rw [← hgx] at rx
  have hX2 : Below V.heap.size V Y := hb5.trans (hbY.mono hb5.size)
  have hinv : PowInv w gp gx (pmod x m 0) (pmod x m 1) Y (.bool s2) (.slice a2 n2 c2) (.bool s3) (.slice a3 n3 c3) bp ap np cp bx ax nx cx := by
    rw [pmod_zero, pmod_one]
    have hVp := rp.lt
    have hV5 := hb5.size
    exact ⟨rp.below hX2 rp.lt, HP1.out.below hX2, rx, hax.below hbY, s1r.below hX2 s1r.lt, s2r.below hX2 s2r.lt, s3r.below hX2 s3r.lt, hB1.trans (hX2.mono hB1.size), hgpf, by omega, by omega⟩
  have HI0 := Lib.hid hinv
  have HYe := Lib.hid hY
  have HGx := Lib.hid hgx
  have HV3w := Lib.hid (fun X (h : Below w.heap.size w X) => (show ApiV X (.agg #[.bool s3, .slice a3 n3 c3]) m from HV3k.out.below h))
  clear rp s0 s1r s2r s3r hB1 hX1 rx rq hax hX2 hinv HP1 HBv HV1v HV3v hgx hgpf hY hbY hzY hb5 i0 i1 i2 i3
  go_wp2_with fail
  rw [← HYe.out, ← HGx.out]
  go_loopw [11] (fun iv wr => ∃ (i : Nat) (bp : Bool) (ap : Option Addr) (np cp : Nat) (bx : Bool) (ax : Option Addr) (nx cx : Nat), i ≤ 32 * n2 ∧ iv = .int .i64 (i : Nat) ∧
    Hid (PowInv w gp gx (pmod x m (N % 2 ^ i)) (pmod x m (2 ^ i)) wr (.bool s2) (.slice a2 n2 c2) (.bool s3) (.slice a3 n3 c3) bp ap np cp bx ax nx cx)) (fun iv _ => 32 * n2 - (intOf iv).toNat)
  case atStart => exact ⟨0, bp, ap, np, cp, bx, ax, nx, cx, Nat.zero_le _, rfl, Lib.hid (by rw [Nat.pow_zero, Nat.mod_one]; exact HI0.out)⟩
  case round =>
    clear HI0 HYe HGx
    obtain ⟨i, bp, ap, np, cp, bx, ax, nx, cx, hi, rfl, HI⟩ := hrel
    have kn := HI.out.rn.cell_at 1
    simp only [List.getElem?_cons_zero, List.getElem?_cons_succ] at kn
    have hn0 : (0 : Int) ≤ 32 * (n2 : Int) := by omega
    by_cases hik : i = 32 * n2
    · have d2 : decide ((i : Int) < 32 * (n2 : Int)) = false := decide_eq_false (by omega)
      have HE := Lib.hid (show N % 2 ^ i = N by rw [hik]; exact Nat.mod_eq_of_lt HHi.out)
      have rr := HI.out.rr
      have j0 := HI.out.rp.cell_at 0
      have j1 := HI.out.rp.cell_at 1
      have k0 := rr.cell_at 0
      have k1 := rr.cell_at 1
      have k2 := rr.free 0
      have k3 := rr.free 1
      simp only [List.getElem?_cons_zero, List.getElem?_cons_succ] at j0 j1 k0 k1
      have e0 : (wr.setCell ⟨w.heap.size + 1 + 1 + 1, 0, none⟩ (.bool bp)).cell? ⟨w.heap.size + 1 + 1 + 1, 0, none⟩ = some (.bool bp) := (rr.store_any 0 _).cell_at 0
      have e1 : ((wr.setCell ⟨w.heap.size + 1 + 1 + 1, 0, none⟩ (.bool bp)).setCell ⟨w.heap.size + 1 + 1 + 1, 1, none⟩ (.slice ap np cp)).cell? ⟨w.heap.size + 1 + 1 + 1, 1, none⟩ = some (.slice ap np cp) := ((rr.store_any 0 _).store_any 1 _).cell_at 1
      have HB := Lib.hid (below_store (below_store HI.out.below (g := w.heap.size + 1 + 1 + 1) (i := 0) (by omega) (.bool bp)) (g := w.heap.size + 1 + 1 + 1) (i := 1) (by omega) (.slice ap np cp))
      have HF := Lib.hid (ApiV.to HI.out.hp (fun _ _ hl => hl.pair rr (.bool bp) (.slice ap np cp)))
      clear rr hik
      go_wp2
      (try simp only [Exit.inBlock, Exit.then])
      refine bodyPost_ret (v := .agg #[.bool bp, .slice ap np cp]) (by simp [results, Tryz.results28, go_sem, e0, e1]) rfl ?_
      rw [HE.out] at HF
      exact ⟨_, rfl, HF.out, HB.out⟩
    · have hlt : i < 32 * n2 := by omega
      have d2 : decide ((i : Int) < 32 * (n2 : Int)) = true := decide_eq_true (by omega)
      have hbit := ref_bit wr a2 (rep N) n2 c2 i (HNum.out wr HI.out.below) (rep_lim _) HN2.out (by omega) (by omega)
      rw [val_rep] at hbit
      obtain ⟨q, hq⟩ : ∃ q, q = N / 2 ^ i % 2 := ⟨_, rfl⟩
      rw [← hq] at hbit
      have HBit := Lib.hid hbit
      have Hq := Lib.hid hq
      have hq2 : q < 2 := by omega
      clear hbit hq hik hi
      go_wp2_with fail
      refine HBit.out.mono ?_
      rintro e w' ⟨rfl, hww⟩
      subst hww
      go_upto_if 36 with fail
      go_cut [] (fun wx => ∃ (bp : Bool) (ap : Option Addr) (np cp : Nat), PowInv w gp gx (pmod x m (N % 2 ^ (i + 1))) (pmod x m (2 ^ i)) wx (.bool s2) (.slice a2 n2 c2) (.bool s3) (.slice a3 n3 c3) bp ap np cp bx ax nx cx)
      case first =>
        by_cases hb1 : q = 1
        · subst hb1
          have HS := Lib.hid (pmod_bit1 x m Hq.out.symm)
          clear hq2
          go_wp2_with fail
          have HC := Lib.hid (fun X (h : Below wr.heap.size wr X) => show X.cell? ⟨gp, 0, none⟩ = some (.bool bp) ∧ X.cell? ⟨gp, 1, none⟩ = some (.slice ap np cp) ∧ X.cell? ⟨gx, 0, none⟩ = some (.bool bx) ∧ X.cell? ⟨gx, 1, none⟩ = some (.slice ax nx cx) ∧ X.cell? ⟨w.heap.size + 1 + 1, 0, none⟩ = some (.bool s3) ∧ X.cell? ⟨w.heap.size + 1 + 1, 1, none⟩ = some (.slice a3 n3 c3) from
            ⟨(HI.out.rp.below h HI.out.rp.lt).cell_at 0, (HI.out.rp.below h HI.out.rp.lt).cell_at 1, (HI.out.rx.below h HI.out.rx.lt).cell_at 0, (HI.out.rx.below h HI.out.rx.lt).cell_at 1, (HI.out.rm.below h HI.out.rm.lt).cell_at 0, (HI.out.rm.below h HI.out.rm.lt).cell_at 1⟩)
          have h0 : Below wr.heap.size wr wr.drew := (Below.refl _ _).drew
          refine wp_region_S (n := 8) (S := fun X => Below wr.heap.size wr X) (by kernel_rfl) (by decide) (fun inv => ?_)
          refine wpAnyS_take_at (i := 0) (v := .agg #[.bool bp, .slice ap np cp]) 38 inv rfl rfl (by kernel_rfl) (by kernel_rfl) (by kernel_rfl) (by decide) (by decide) (by kernel_rfl) (by kernel_rfl) (fun _ _ _ h => h) (.inl ⟨rfl, fun X hX => by obtain ⟨i0, i1, i2, i3, i4, i5⟩ := HC.out X hX; go_simp⟩) h0 (fun inv => ?_)
          simp only [Act.put, List.setIfInBounds_toArray, List.set_cons_zero, List.set_cons_succ]
          refine wpAnyS_take_at (i := 1) (v := .agg #[.bool bx, .slice ax nx cx]) 39 inv rfl rfl (by kernel_rfl) (by kernel_rfl) (by kernel_rfl) (by decide) (by decide) (by kernel_rfl) (by kernel_rfl) (fun _ _ _ h => h) (.inl ⟨rfl, fun X hX => by obtain ⟨i0, i1, i2, i3, i4, i5⟩ := HC.out X hX; go_simp⟩) h0 (fun inv => ?_)
          simp only [Act.put, List.setIfInBounds_toArray, List.set_cons_zero, List.set_cons_succ]
          refine wpAnyS_take_at (i := 3) (v := .agg #[.bool s3, .slice a3 n3 c3]) 41 inv rfl rfl (by kernel_rfl) (by kernel_rfl) (by kernel_rfl) (by decide) (by decide) (by kernel_rfl) (by kernel_rfl) (fun _ _ _ h => h) (.inl ⟨rfl, fun X hX => by obtain ⟨i0, i1, i2, i3, i4, i5⟩ := HC.out X hX; go_simp⟩) h0 (fun inv => ?_)
          simp only [Act.put, List.setIfInBounds_toArray, List.set_cons_zero, List.set_cons_succ]
          refine wpAnyS_one (i := 2) inv (by decide) (by kernel_rfl) (fun inv => ?_)
          unfold wpOp
          go_simp
          refine .inl ((ref_mul _ _ _ (pmod x m (N % 2 ^ i)) (pmod x m (2 ^ i)) (HI.out.hp.below h0) (HI.out.hx.below h0) (Nat.le_trans (pmod_len HM0.out HLm10.out _) (by decide)) (Nat.le_trans (pmod_len HM0.out HLm10.out _) (by decide))).mono ?_)
          rintro e X1 ⟨u5, rfl, hu5, hb5⟩
          have h5 := h0.trans (hb5.mono h0.size)
          obtain ⟨b5, a5, n5, c5, rfl, -⟩ := id hu5.open
          replace hu5 := Lib.hid hu5
          refine ⟨h5, ?_⟩
          refine wpAnyS_one (i := 4) inv (by decide) (by kernel_rfl) (fun inv => ?_)
          unfold wpOp
          go_simp
          refine .inl ((ref_div _ _ _ (pmod x m (N % 2 ^ i) * pmod x m (2 ^ i)) m hu5.out (HV3w.out _ (HI.out.below.trans (h5.mono HI.out.below.size))) (pmul_len (pmod_len HM0.out HLm10.out _) (pmod_len HM0.out HLm10.out _)) HLm.out HM0.out).mono ?_)
          rintro e X2 ⟨q1, q2, q3, q4, t1, t2, t3, t4, rfl, -, hr6, hb6⟩
          have h6 := h5.trans (hb6.mono h5.size)
          refine ⟨h6, ?_⟩
          rw [HS.out] at hr6
          replace hr6 := Lib.hid hr6
          refine wpAnyS_take_at (i := 5) (v := .tuple #[.agg #[.bool q1, .slice q2 q3 q4], .agg #[.bool t1, .slice t2 t3 t4]]) 37 inv rfl rfl (by kernel_rfl) (by kernel_rfl) (by kernel_rfl) (by decide) (by decide) (by kernel_rfl) (by kernel_rfl) (fun _ _ _ h => h) (.inl ⟨rfl, fun X hX => by go_simp⟩) h6 (fun inv => ?_)
          simp only [Act.put, List.setIfInBounds_toArray, List.set_cons_zero, List.set_cons_succ]
          refine wpAnyS_take_at (i := 6) (v := .agg #[.bool q1, .slice q2 q3 q4]) 43 inv rfl rfl (by kernel_rfl) (by kernel_rfl) (by kernel_rfl) (by decide) (by decide) (by kernel_rfl) (by kernel_rfl) (fun _ _ _ h => h) (.inl ⟨rfl, fun X hX => by go_simp⟩) h6 (fun inv => ?_)
          simp only [Act.put, List.setIfInBounds_toArray, List.set_cons_zero, List.set_cons_succ]
          refine wpAnyS_take_at (i := 7) (v := .agg #[.bool t1, .slice t2 t3 t4]) 44 inv rfl rfl (by kernel_rfl) (by kernel_rfl) (by kernel_rfl) (by decide) (by decide) (by kernel_rfl) (by kernel_rfl) (fun _ _ _ h => h) (.inl ⟨rfl, fun X hX => by go_simp⟩) h6 (fun inv => ?_)
          simp only [Act.put, List.setIfInBounds_toArray, List.set_cons_zero, List.set_cons_succ]
          refine wpAnyS_tail (by decide) ?_
          have HI6 := Lib.hid (HI.out.next h6)
          have HZ := Lib.hid (HI6.out.put_p hr6.out)
          have z0 := HI6.out.rp.cell_at 0
          have z1 := HI6.out.rp.cell_at 1
          have f0 := HI6.out.rp.free 0
          have f1 := HI6.out.rp.free 1
          simp only [List.getElem?_cons_zero, List.getElem?_cons_succ] at z0 z1
          clear hb5 hb6 h0 h5 h6 hu5 HC
          refine wpAny_one (i := 8) (by kernel_rfl) ?_
          unfold wpOp
          go_simp
          refine .inl (wpAny_done (by kernel_rfl) ?_ _)
          clear z0 z1 f0 f1
          go_wp2_with fail
          go_meet
          exact ⟨_, _, _, _, HZ.out⟩
        · obtain rfl : q = 0 := by omega
          have HS := Lib.hid (pmod_bit0 (n := N) (i := i) (by rw [← Hq.out]; decide))
          clear hq2 hb1
          go_wp2_with fail
          go_meet
          exact ⟨bp, ap, np, cp, by rw [HS.out]; exact HI.out⟩
      case rest =>
      clear kn HI bp ap np cp HBit Hq hq2
      obtain ⟨bp, ap, np, cp, HI'⟩ := hcut
      have HI := Lib.hid HI'; clear HI'
      have HS := Lib.hid (pmod_sq x m i)
      go_wp2_with fail
      have HC := Lib.hid (fun X (h : Below wc.heap.size wc X) => show X.cell? ⟨gp, 0, none⟩ = some (.bool bp) ∧ X.cell? ⟨gp, 1, none⟩ = some (.slice ap np cp) ∧ X.cell? ⟨gx, 0, none⟩ = some (.bool bx) ∧ X.cell? ⟨gx, 1, none⟩ = some (.slice ax nx cx) ∧ X.cell? ⟨w.heap.size + 1 + 1, 0, none⟩ = some (.bool s3) ∧ X.cell? ⟨w.heap.size + 1 + 1, 1, none⟩ = some (.slice a3 n3 c3) from
        ⟨(HI.out.rp.below h HI.out.rp.lt).cell_at 0, (HI.out.rp.below h HI.out.rp.lt).cell_at 1, (HI.out.rx.below h HI.out.rx.lt).cell_at 0, (HI.out.rx.below h HI.out.rx.lt).cell_at 1, (HI.out.rm.below h HI.out.rm.lt).cell_at 0, (HI.out.rm.below h HI.out.rm.lt).cell_at 1⟩)
      have h0 : Below wc.heap.size wc wc.drew := (Below.refl _ _).drew
      refine wp_region_S (n := 8) (S := fun X => Below wc.heap.size wc X) (by kernel_rfl) (by decide) (fun inv => ?_)
      refine wpAnyS_take_at (i := 0) (v := .agg #[.bool bx, .slice ax nx cx]) 46 inv rfl rfl (by kernel_rfl) (by kernel_rfl) (by kernel_rfl) (by decide) (by decide) (by kernel_rfl) (by kernel_rfl) (fun _ _ _ h => h) (.inl ⟨rfl, fun X hX => by obtain ⟨i0, i1, i2, i3, i4, i5⟩ := HC.out X hX; go_simp⟩) h0 (fun inv => ?_)
      simp only [Act.put, List.setIfInBounds_toArray, List.set_cons_zero, List.set_cons_succ]
      refine wpAnyS_take_at (i := 1) (v := .agg #[.bool bx, .slice ax nx cx]) 47 inv rfl rfl (by kernel_rfl) (by kernel_rfl) (by kernel_rfl) (by decide) (by decide) (by kernel_rfl) (by kernel_rfl) (fun _ _ _ h => h) (.inl ⟨rfl, fun X hX => by obtain ⟨i0, i1, i2, i3, i4, i5⟩ := HC.out X hX; go_simp⟩) h0 (fun inv => ?_)
      simp only [Act.put, List.setIfInBounds_toArray, List.set_cons_zero, List.set_cons_succ]
      refine wpAnyS_take_at (i := 3) (v := .agg #[.bool s3, .slice a3 n3 c3]) 49 inv rfl rfl (by kernel_rfl) (by kernel_rfl) (by kernel_rfl) (by decide) (by decide) (by kernel_rfl) (by kernel_rfl) (fun _ _ _ h => h) (.inl ⟨rfl, fun X hX => by obtain ⟨i0, i1, i2, i3, i4, i5⟩ := HC.out X hX; go_simp⟩) h0 (fun inv => ?_)
      simp only [Act.put, List.setIfInBounds_toArray, List.set_cons_zero, List.set_cons_succ]
      refine wpAnyS_one (i := 2) inv (by decide) (by kernel_rfl) (fun inv => ?_)
      unfold wpOp
      go_simp
      refine .inl ((ref_mul _ _ _ (pmod x m (2 ^ i)) (pmod x m (2 ^ i)) (HI.out.hx.below h0) (HI.out.hx.below h0) (Nat.le_trans (pmod_len HM0.out HLm10.out _) (by decide)) (Nat.le_trans (pmod_len HM0.out HLm10.out _) (by decide))).mono ?_)
      rintro e X1 ⟨u5, rfl, hu5, hb5⟩
      have h5 := h0.trans (hb5.mono h0.size)
      obtain ⟨b5, a5, n5, c5, rfl, -⟩ := id hu5.open
      replace hu5 := Lib.hid hu5
      refine ⟨h5, ?_⟩
      refine wpAnyS_one (i := 4) inv (by decide) (by kernel_rfl) (fun inv => ?_)
      unfold wpOp
      go_simp
      refine .inl ((ref_div _ _ _ (pmod x m (2 ^ i) * pmod x m (2 ^ i)) m hu5.out (HV3w.out _ (HI.out.below.trans (h5.mono HI.out.below.size))) (pmul_len (pmod_len HM0.out HLm10.out _) (pmod_len HM0.out HLm10.out _)) HLm.out HM0.out).mono ?_)
      rintro e X2 ⟨q1, q2, q3, q4, t1, t2, t3, t4, rfl, -, hr6, hb6⟩
      have h6 := h5.trans (hb6.mono h5.size)
      refine ⟨h6, ?_⟩
      rw [HS.out] at hr6
      replace hr6 := Lib.hid hr6
      refine wpAnyS_take_at (i := 5) (v := .tuple #[.agg #[.bool q1, .slice q2 q3 q4], .agg #[.bool t1, .slice t2 t3 t4]]) 45 inv rfl rfl (by kernel_rfl) (by kernel_rfl) (by kernel_rfl) (by decide) (by decide) (by kernel_rfl) (by kernel_rfl) (fun _ _ _ h => h) (.inl ⟨rfl, fun X hX => by go_simp⟩) h6 (fun inv => ?_)
      simp only [Act.put, List.setIfInBounds_toArray, List.set_cons_zero, List.set_cons_succ]
      refine wpAnyS_take_at (i := 6) (v := .agg #[.bool q1, .slice q2 q3 q4]) 51 inv rfl rfl (by kernel_rfl) (by kernel_rfl) (by kernel_rfl) (by decide) (by decide) (by kernel_rfl) (by kernel_rfl) (fun _ _ _ h => h) (.inl ⟨rfl, fun X hX => by go_simp⟩) h6 (fun inv => ?_)
      simp only [Act.put, List.setIfInBounds_toArray, List.set_cons_zero, List.set_cons_succ]
      refine wpAnyS_take_at (i := 7) (v := .agg #[.bool t1, .slice t2 t3 t4]) 52 inv rfl rfl (by kernel_rfl) (by kernel_rfl) (by kernel_rfl) (by decide) (by decide) (by kernel_rfl) (by kernel_rfl) (fun _ _ _ h => h) (.inl ⟨rfl, fun X hX => by go_simp⟩) h6 (fun inv => ?_)
      simp only [Act.put, List.setIfInBounds_toArray, List.set_cons_zero, List.set_cons_succ]
      refine wpAnyS_tail (by decide) ?_
      have HI6 := Lib.hid (HI.out.next h6)
      have HZ := Lib.hid (HI6.out.put_x hr6.out)
      have z0 := HI6.out.rx.cell_at 0
      have z1 := HI6.out.rx.cell_at 1
      have f0 := HI6.out.rx.free 0
      have f1 := HI6.out.rx.free 1
      simp only [List.getElem?_cons_zero, List.getElem?_cons_succ] at z0 z1
      clear hb5 hb6 h0 h5 h6 hu5 HC
      refine wpAny_one (i := 8) (by kernel_rfl) ?_
      unfold wpOp
      go_simp
      refine .inl (wpAny_done (by kernel_rfl) ?_ _)
      clear z0 z1 f0 f1
      go_wp2
      go_roundw
      case rel => exact ⟨i + 1, bp, ap, np, cp, t1, t2, t3, t4, hlt, by go_num, Lib.hid HZ.out⟩
      case measure => simp [intOf] <;> omega

end Go.Proofs.YtbffpkmfhkphdaaGreatDoor
