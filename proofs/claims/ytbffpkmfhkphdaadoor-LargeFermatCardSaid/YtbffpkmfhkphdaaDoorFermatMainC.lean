/- The walk of LargeFermat where the integer may be and is not too long. -/
import Derived.Test.YtbffpkmfhkphdaaDoorFermatAidC
import Derived.Test.YtbffpkmfhkphdaaDoorGTree
import Derived.Deep.DeepCutAuto
namespace Go.Proofs.YtbffpkmfhkphdaaDoor
open Go Go.RowKit Limb

set_option maxHeartbeats 16000000 in
set_option maxRecDepth 1000000 in
theorem fermat_main (w : World) (b1 : Bool) (a1 : Option Addr) (l1 : List Nat) (nx c1 : Nat) (which : Int) (h1 : Came w b1 a1 nx l1) (hm1 : mayB b1 l1 = true) (hs : nx ≤ 300) (hc1 : nx ≤ c1) (hw1 : -9223372036854775808 ≤ which) (hw2 : which ≤ 9223372036854775807) :
    Calls Tryd.prog 6 #[.agg #[.bool b1, .slice a1 nx c1], .int .i64 which] w fun e w' => e = .returned (.bool true) ∧ Below w.heap.size w w' := by
  obtain ⟨W, hWe, r2, hB, hszW⟩ := rows1 w 24 (.bool b1) (.slice a1 nx c1)
  have HWe := Lib.hid hWe; clear hWe
  have d0 : decide ((300 : Int) < (nx : Int)) = false := by rw [decide_eq_false_iff_not]; omega
  have d0' : decide (300 < nx) = false := by rw [decide_eq_false_iff_not]; omega
  have hx := h1.api hm1 hc1
  have lx := h1.len hm1
  obtain ⟨x, hxv⟩ : ∃ x, x = signed b1 (val l1) := ⟨_, rfl⟩
  rw [← hxv] at hx lx
  have Hx := Lib.hid hx
  have Lx := Lib.hid lx
  have hm1s := fun X (h : Below w.heap.size w X) => since_may (c := c1) (W := w) h1 h
  rw [hm1] at hm1s
  have Hm1 := Lib.hid hm1s
  clear hm1s h1 hm1 hs hc1 hx lx hxv
  go_enter Tryd.func6, Tryd.ntmps6
  obtain ⟨kr20, kr21⟩ := r2.cells
  go_wp2_with fail
  rw [← HWe.out]
  refine (Hm1.out W hB).mono ?_
  rintro e V1 ⟨rfl, hb⟩
  replace r2 := r2.below hb r2.lt
  replace hB := hB.trans (hb.mono hB.size)
  clear kr20 kr21
  obtain ⟨kr20, kr21⟩ := r2.cells
  go_wp2_with fail
  refine (law_awake V1).mono ?_
  rintro e V2 ⟨rfl, hb⟩
  replace r2 := r2.below hb r2.lt
  replace hB := hB.trans (hb.mono hB.size)
  clear kr20 kr21
  obtain ⟨kr20, kr21⟩ := r2.cells
  obtain ⟨U, hU, re, hbU, hzU⟩ := rowsC V2 3 #[.int .i64 61, .int .i64 89, .int .i64 107, .int .i64 127]
  replace r2 := r2.below hbU r2.lt
  replace hB := hB.trans (hbU.mono hB.size)
  obtain ⟨e, he⟩ : ∃ e, e = V2.heap.size := ⟨_, rfl⟩
  rw [← he] at re
  have HU := Lib.hid hU
  have HE := Lib.hid he
  clear hU he kr20 kr21
  go_upto_if 34 with fail
  rw [← HU.out, ← HE.out]
  go_cut [1] (fun s1 wx => ∃ v : Int, 0 ≤ v ∧ v ≤ 9223372036854775807 ∧ s1 = .int .i64 v ∧ U = wx)
  case first =>
    by_cases hneg : which < 0
    · go_wp2_with fail
      go_meet
      exact ⟨_, by omega, by omega, rfl, rfl⟩
    · go_wp2_with fail
      go_meet
      exact ⟨_, by omega, by omega, rfl, rfl⟩
  case rest =>
    obtain ⟨v, hv0, hv1, rfl, rfl⟩ := hcut
    have r2U := r2
    have hBU := hB
    obtain ⟨k, hk⟩ : ∃ k : Nat, v % 7 = (k : Int) := ⟨(v % 7).toNat, by omega⟩
    have hk7 : k < 7 := by omega
    go_upto_region 7 with fail
    rw [hk]
    clear hk hv0 hv1 hw1 hw2
    go_cut [6] (fun s6 wx => FP U (tbl k) s6 wx)
    case first =>
      have hk' : k = 0 ∨ k = 1 ∨ k = 2 ∨ k = 3 ∨ k = 4 ∨ k = 5 ∨ k = 6 := by omega
      clear hk7
      rcases hk' with rfl | rfl | rfl | rfl | rfl | rfl | rfl
      · go_wp2_with fail
        refine (large_of _ 0 (by decide) (by decide)).mono ?_
        rintro e' X ⟨u, rfl, hu, hb⟩
        obtain ⟨b, a, n, c, rfl, H⟩ := hu.agg'
        clear hu
        go_wp2_with fail
        go_meet
        exact fp_mk hb H.out
      · go_wp2_with fail
        refine (large_of _ 0 (by decide) (by decide)).mono ?_
        rintro e' X ⟨u, rfl, hu, hb⟩
        obtain ⟨b, a, n, c, rfl, H⟩ := hu.agg'
        clear hu
        go_wp2_with fail
        go_meet
        exact fp_mk hb H.out
      · go_wp2_with fail
        refine (large_of _ 0 (by decide) (by decide)).mono ?_
        rintro e' X ⟨u, rfl, hu, hb⟩
        obtain ⟨b, a, n, c, rfl, H⟩ := hu.agg'
        clear hu
        go_wp2_with fail
        go_meet
        exact fp_mk hb H.out
      · go_wp2_with fail
        refine (large_of _ 0 (by decide) (by decide)).mono ?_
        rintro e' X ⟨u, rfl, hu, hb⟩
        obtain ⟨b, a, n, c, rfl, H⟩ := hu.agg'
        clear hu
        go_wp2_with fail
        go_meet
        exact fp_mk hb H.out
      · go_wp2_with fail
        refine (large_of _ 3 (by decide) (by decide)).mono ?_
        rintro e' X ⟨u, rfl, hu, hb⟩
        obtain ⟨b, a, n, c, rfl, H⟩ := hu.agg'
        clear hu
        go_wp2_with fail
        go_meet
        exact fp_mk hb H.out
      · go_wp2_with fail
        refine (large_of _ 7 (by decide) (by decide)).mono ?_
        rintro e' X ⟨u, rfl, hu, hb⟩
        obtain ⟨b, a, n, c, rfl, H⟩ := hu.agg'
        clear hu
        go_wp2_with fail
        go_meet
        exact fp_mk hb H.out
      · go_wp2_with fail
        refine (large_of _ 104729 (by decide) (by decide)).mono ?_
        rintro e' X ⟨u, rfl, hu, hb⟩
        obtain ⟨b, a, n, c, rfl, H⟩ := hu.agg'
        clear hu
        go_wp2_with fail
        go_meet
        exact fp_mk hb H.out
    case rest =>
      obtain ⟨g, b6, a6, n6, c6, rfl, hg6, r6, A6, hb⟩ := hcut
      replace r2 := r2.below hb r2.lt
      replace re := re.below hb re.lt
      replace hB := hB.trans (hb.mono hB.size)
      go_upto_if 46 with fail
      go_cut [6] (fun s6 wx => FQ U s6 wx)
      case first =>
        by_cases k4 : k < 4
        · have d4 : decide ((k : Int) < 4) = true := by rw [decide_eq_true_eq]; omega
          have d4' : decide (k < 4) = true := by rw [decide_eq_true_eq]; exact k4
          obtain ⟨hxf, hxl, hx1, hx2⟩ := expo_flt k k4
          have Hxf := Lib.hid hxf
          have Hxl := Lib.hid hxl
          clear hxf hxl
          have hex : ∀ X, Below wc.heap.size wc X → X.cell? ⟨e, k, none⟩ = some (.int .i64 (expo k : Nat)) := by
            intro X h
            have re' := re.below h re.lt
            have : k = 0 ∨ k = 1 ∨ k = 2 ∨ k = 3 := by omega
            rcases this with rfl | rfl | rfl | rfl <;> (rw [re'.cell_at]; rfl)
          have HEx := Lib.hid hex; clear hex
          have hsz : ∀ W : World, (sizeOf 3).run Tryd.prog W = .ok 1 W := fun W => by kernel_rfl
          have hix := fun X => row_index (P := Tryd.prog) Tryd.underlying45 hsz e 4 4 .i64 (k : Int) k rfl (by omega) X
          have IX := Lib.hid hix; clear hix
          go_upto_region 9 with fail
          go_cut [7, 8] (fun s7 s8 wx => MadeAt wc ((2 : Int) ^ expo k) s7 s8 wx)
          case first =>
            clear r2 re r6 A6 hb hB hg6
            have hX : Below wc.heap.size wc wc.drew := (Below.refl _ _).drew
            refine wp_region_held (S := fun X => Below wc.heap.size wc X) (by kernel_rfl) ?_
            refine wpAnyH_take_at (i := 1) (v := .slice (some ⟨e, 0, none⟩) 4 4) 49 rfl rfl (by kernel_rfl) (by kernel_rfl) (by kernel_rfl) (fun _ _ _ h => h) (.inl ⟨rfl, fun X hX => by go_simp⟩) hX ?_
            simp only [Act.put, List.setIfInBounds_toArray, List.set_cons_zero, List.set_cons_succ]
            refine wpAnyH_take_at (i := 2) (v := .int .i64 (k : Int)) 50 rfl rfl (by kernel_rfl) (by kernel_rfl) (by kernel_rfl) (fun _ _ _ h => h) (.inl ⟨rfl, fun X hX => by go_simp⟩) hX ?_
            simp only [Act.put, List.setIfInBounds_toArray, List.set_cons_zero, List.set_cons_succ]
            refine wpAnyH_take_at (i := 3) (v := .pointer (some ⟨e, k, none⟩)) 51 rfl rfl (by kernel_rfl) (by kernel_rfl) (by kernel_rfl) (fun _ _ _ h => h) (.inl ⟨rfl, fun X hX => by have i1 := IX.out X; go_simp⟩) hX ?_
            simp only [Act.put, List.setIfInBounds_toArray, List.set_cons_zero, List.set_cons_succ]
            refine wpAnyH_take_at (i := 4) (v := .int .i64 (expo k : Nat)) 52 rfl rfl (by kernel_rfl) (by kernel_rfl) (by kernel_rfl) (fun _ _ _ h => h) (.inl ⟨rfl, fun X hX => by have i1 := HEx.out X hX; go_simp⟩) hX ?_
            simp only [Act.put, List.setIfInBounds_toArray, List.set_cons_zero, List.set_cons_succ]
            refine wpAnyH_all (rs := [0, 9]) (by kernel_rfl) (by decide) (fun i hi => ?_)
            simp only [List.mem_cons, List.not_mem_nil, or_false] at hi
            rcases hi with rfl | rfl
            · unfold wpOp
              go_simp
              refine .inl ((large_of _ 2 (by decide) (by decide)).mono ?_)
              rintro e X1 ⟨u48, rfl, hu48, hb⟩
              replace hX := hX.trans (hb.mono hX.size)
              clear hb
              obtain ⟨b48, a48, n48, c48, rfl, H48⟩ := hu48.agg'
              clear hu48
              refine ⟨hX, ?_⟩
              refine wpAnyH_all (rs := [5, 9]) (by kernel_rfl) (by decide) (fun i hi => ?_)
              simp only [List.mem_cons, List.not_mem_nil, or_false] at hi
              rcases hi with rfl | rfl
              · unfold wpOp
                go_simp
                refine .inl ((api_pow2 _ _ (expo k) H48.out hx1 hx2).mono ?_)
                rintro e X2 ⟨b53, a53, n53, c53, rfl, H53, hb⟩
                replace H48 := Lib.hid (H48.out.below hb)
                replace hX := hX.trans (hb.mono hX.size)
                clear hb
                refine ⟨hX, ?_⟩
                refine wpAnyH_take_at (i := 6) (v := .tuple #[.agg #[.bool b53, .slice a53 n53 c53], .int .i64 0]) 47 rfl rfl (by kernel_rfl) (by kernel_rfl) (by kernel_rfl) (fun _ _ _ h => h) (.inl ⟨rfl, fun X hX => by go_simp⟩) hX ?_
                simp only [Act.put, List.setIfInBounds_toArray, List.set_cons_zero, List.set_cons_succ]
                refine wpAnyH_take_at (i := 7) (v := .agg #[.bool b53, .slice a53 n53 c53]) 54 rfl rfl (by kernel_rfl) (by kernel_rfl) (by kernel_rfl) (fun _ _ _ h => h) (.inl ⟨rfl, fun X hX => by go_simp⟩) hX ?_
                simp only [Act.put, List.setIfInBounds_toArray, List.set_cons_zero, List.set_cons_succ]
                refine wpAnyH_take_at (i := 8) (v := .int .i64 0) 55 rfl rfl (by kernel_rfl) (by kernel_rfl) (by kernel_rfl) (fun _ _ _ h => h) (.inl ⟨rfl, fun X hX => by go_simp⟩) hX ?_
                simp only [Act.put, List.setIfInBounds_toArray, List.set_cons_zero, List.set_cons_succ]
                refine wpAnyH_all (rs := [9]) (by kernel_rfl) (by decide) (fun i hi => ?_)
                rw [List.mem_singleton] at hi
                subst hi
                refine wpOp_alloc_int (o := _) rfl rfl rfl (fun X3 g7 rg7 hb hg7 hlt => ?_)
                clear hlt
                replace hg7 := Nat.le_trans hX.size hg7
                replace H53 := Lib.hid (H53.out.below hb)
                replace hX := hX.trans (hb.mono hX.size)
                clear hb
                refine ⟨hX, ?_⟩
                simp only [Act.put, List.setIfInBounds_toArray, List.set_cons_zero, List.set_cons_succ]
                refine wpAnyH_all (rs := [10]) (by kernel_rfl) (by decide) (fun i hi => ?_)
                rw [List.mem_singleton] at hi
                subst hi
                have k0 := rg7.cell_at 0
                have k1 := rg7.cell_at 1
                have f0 := rg7.free 0
                have f1 := rg7.free 1
                simp only [List.getElem?_cons_zero, List.getElem?_cons_succ] at k0 k1
                unfold wpOp
                go_simp
                have HF := Lib.hid (fp_store (U := wc) rg7 hg7 H53.out hX)
                replace hX := below_store (below_store hX hg7 (i := 0) (.bool b53)) hg7 (i := 1) (.slice a53 n53 c53)
                clear k0 k1 f0 f1 rg7 H53
                refine .inl ⟨hX, ?_⟩
                refine wpAnyH_take_at (i := 11) (v := .int .i64 0) 8 rfl rfl (by kernel_rfl) (by kernel_rfl) (by kernel_rfl) (fun _ _ _ h => h) (.inl ⟨rfl, fun X hX => by go_simp⟩) hX ?_
                simp only [Act.put, List.setIfInBounds_toArray, List.set_cons_zero, List.set_cons_succ]
                refine wpAnyH_done (by kernel_rfl) ?_ _
                go_wp2_with fail
                go_meet
                exact ⟨HF.out, rfl⟩
              · refine wpOp_alloc_int (o := _) rfl rfl rfl (fun X5 g7 rg7 hb hg7 hlt => ?_)
                clear hlt
                replace hg7 := Nat.le_trans hX.size hg7
                replace H48 := Lib.hid (H48.out.below hb)
                replace hX := hX.trans (hb.mono hX.size)
                clear hb
                refine ⟨hX, ?_⟩
                simp only [Act.put, List.setIfInBounds_toArray, List.set_cons_zero, List.set_cons_succ]
                refine wpAnyH_all (rs := [5]) (by kernel_rfl) (by decide) (fun i hi => ?_)
                rw [List.mem_singleton] at hi
                subst hi
                unfold wpOp
                go_simp
                refine .inl ((api_pow2 _ _ (expo k) H48.out hx1 hx2).mono ?_)
                rintro e X6 ⟨b53, a53, n53, c53, rfl, H53, hb⟩
                replace H48 := Lib.hid (H48.out.below hb)
                replace rg7 := rg7.below hb rg7.lt
                replace hX := hX.trans (hb.mono hX.size)
                clear hb
                refine ⟨hX, ?_⟩
                refine wpAnyH_take_at (i := 6) (v := .tuple #[.agg #[.bool b53, .slice a53 n53 c53], .int .i64 0]) 47 rfl rfl (by kernel_rfl) (by kernel_rfl) (by kernel_rfl) (fun _ _ _ h => h) (.inl ⟨rfl, fun X hX => by go_simp⟩) hX ?_
                simp only [Act.put, List.setIfInBounds_toArray, List.set_cons_zero, List.set_cons_succ]
                refine wpAnyH_take_at (i := 7) (v := .agg #[.bool b53, .slice a53 n53 c53]) 54 rfl rfl (by kernel_rfl) (by kernel_rfl) (by kernel_rfl) (fun _ _ _ h => h) (.inl ⟨rfl, fun X hX => by go_simp⟩) hX ?_
                simp only [Act.put, List.setIfInBounds_toArray, List.set_cons_zero, List.set_cons_succ]
                refine wpAnyH_take_at (i := 8) (v := .int .i64 0) 55 rfl rfl (by kernel_rfl) (by kernel_rfl) (by kernel_rfl) (fun _ _ _ h => h) (.inl ⟨rfl, fun X hX => by go_simp⟩) hX ?_
                simp only [Act.put, List.setIfInBounds_toArray, List.set_cons_zero, List.set_cons_succ]
                refine wpAnyH_all (rs := [10]) (by kernel_rfl) (by decide) (fun i hi => ?_)
                rw [List.mem_singleton] at hi
                subst hi
                have k0 := rg7.cell_at 0
                have k1 := rg7.cell_at 1
                have f0 := rg7.free 0
                have f1 := rg7.free 1
                simp only [List.getElem?_cons_zero, List.getElem?_cons_succ] at k0 k1
                unfold wpOp
                go_simp
                have HF := Lib.hid (fp_store (U := wc) rg7 hg7 H53.out hX)
                replace hX := below_store (below_store hX hg7 (i := 0) (.bool b53)) hg7 (i := 1) (.slice a53 n53 c53)
                clear k0 k1 f0 f1 rg7 H53
                refine .inl ⟨hX, ?_⟩
                refine wpAnyH_take_at (i := 11) (v := .int .i64 0) 8 rfl rfl (by kernel_rfl) (by kernel_rfl) (by kernel_rfl) (fun _ _ _ h => h) (.inl ⟨rfl, fun X hX => by go_simp⟩) hX ?_
                simp only [Act.put, List.setIfInBounds_toArray, List.set_cons_zero, List.set_cons_succ]
                refine wpAnyH_done (by kernel_rfl) ?_ _
                go_wp2_with fail
                go_meet
                exact ⟨HF.out, rfl⟩
            · refine wpOp_alloc_int (o := _) rfl rfl rfl (fun X8 g7 rg7 hb hg7 hlt => ?_)
              clear hlt
              replace hg7 := Nat.le_trans hX.size hg7
              replace hX := hX.trans (hb.mono hX.size)
              clear hb
              refine ⟨hX, ?_⟩
              simp only [Act.put, List.setIfInBounds_toArray, List.set_cons_zero, List.set_cons_succ]
              refine wpAnyH_all (rs := [0]) (by kernel_rfl) (by decide) (fun i hi => ?_)
              rw [List.mem_singleton] at hi
              subst hi
              unfold wpOp
              go_simp
              refine .inl ((large_of _ 2 (by decide) (by decide)).mono ?_)
              rintro e X9 ⟨u48, rfl, hu48, hb⟩
              replace rg7 := rg7.below hb rg7.lt
              replace hX := hX.trans (hb.mono hX.size)
              clear hb
              obtain ⟨b48, a48, n48, c48, rfl, H48⟩ := hu48.agg'
              clear hu48
              refine ⟨hX, ?_⟩
              refine wpAnyH_all (rs := [5]) (by kernel_rfl) (by decide) (fun i hi => ?_)
              rw [List.mem_singleton] at hi
              subst hi
              unfold wpOp
              go_simp
              refine .inl ((api_pow2 _ _ (expo k) H48.out hx1 hx2).mono ?_)
              rintro e X10 ⟨b53, a53, n53, c53, rfl, H53, hb⟩
              replace H48 := Lib.hid (H48.out.below hb)
              replace rg7 := rg7.below hb rg7.lt
              replace hX := hX.trans (hb.mono hX.size)
              clear hb
              refine ⟨hX, ?_⟩
              refine wpAnyH_take_at (i := 6) (v := .tuple #[.agg #[.bool b53, .slice a53 n53 c53], .int .i64 0]) 47 rfl rfl (by kernel_rfl) (by kernel_rfl) (by kernel_rfl) (fun _ _ _ h => h) (.inl ⟨rfl, fun X hX => by go_simp⟩) hX ?_
              simp only [Act.put, List.setIfInBounds_toArray, List.set_cons_zero, List.set_cons_succ]
              refine wpAnyH_take_at (i := 7) (v := .agg #[.bool b53, .slice a53 n53 c53]) 54 rfl rfl (by kernel_rfl) (by kernel_rfl) (by kernel_rfl) (fun _ _ _ h => h) (.inl ⟨rfl, fun X hX => by go_simp⟩) hX ?_
              simp only [Act.put, List.setIfInBounds_toArray, List.set_cons_zero, List.set_cons_succ]
              refine wpAnyH_take_at (i := 8) (v := .int .i64 0) 55 rfl rfl (by kernel_rfl) (by kernel_rfl) (by kernel_rfl) (fun _ _ _ h => h) (.inl ⟨rfl, fun X hX => by go_simp⟩) hX ?_
              simp only [Act.put, List.setIfInBounds_toArray, List.set_cons_zero, List.set_cons_succ]
              refine wpAnyH_all (rs := [10]) (by kernel_rfl) (by decide) (fun i hi => ?_)
              rw [List.mem_singleton] at hi
              subst hi
              have k0 := rg7.cell_at 0
              have k1 := rg7.cell_at 1
              have f0 := rg7.free 0
              have f1 := rg7.free 1
              simp only [List.getElem?_cons_zero, List.getElem?_cons_succ] at k0 k1
              unfold wpOp
              go_simp
              have HF := Lib.hid (fp_store (U := wc) rg7 hg7 H53.out hX)
              replace hX := below_store (below_store hX hg7 (i := 0) (.bool b53)) hg7 (i := 1) (.slice a53 n53 c53)
              clear k0 k1 f0 f1 rg7 H53
              refine .inl ⟨hX, ?_⟩
              refine wpAnyH_take_at (i := 11) (v := .int .i64 0) 8 rfl rfl (by kernel_rfl) (by kernel_rfl) (by kernel_rfl) (fun _ _ _ h => h) (.inl ⟨rfl, fun X hX => by go_simp⟩) hX ?_
              simp only [Act.put, List.setIfInBounds_toArray, List.set_cons_zero, List.set_cons_succ]
              refine wpAnyH_done (by kernel_rfl) ?_ _
              go_wp2_with fail
              go_meet
              exact ⟨HF.out, rfl⟩
          case rest =>
            obtain ⟨⟨g7, b7, a7, n7, c7, rfl, hg7, r7, A7, hb'⟩, rfl⟩ := hcut
            replace r2 := r2.below hb' r2.lt
            replace re := re.below hb' re.lt
            replace hB := hB.trans (hb'.mono hB.size)
            replace r6 := r6.below hb' r6.lt
            replace hb := hb.trans (hb'.mono hb.size)
            clear A6 hb' HEx IX hg7
            have HBx := Lib.hid (fun X (h : Below wc.heap.size wc X) => (r7.below h r7.lt).cells)
            have HBa := Lib.hid (fun X (h : Below wc.heap.size wc X) => A7.below h)
            have hl7 : (rep ((2 : Int) ^ expo k).natAbs).length ≤ 1024 := by rw [Int.natAbs_pow]; exact Nat.le_trans (rep_length_le.2 (by rw [W_two]; exact Nat.pow_lt_pow_right (by decide) (by omega : expo k < 32 * 4))) (by decide : 4 ≤ 1024)
            have e2 : ((2 ^ expo k - 1 : Nat) : Int) = (2 : Int) ^ expo k - 1 := by
              have : 1 ≤ 2 ^ expo k := Nat.one_le_two_pow
              rw [Int.natCast_sub this, Int.natCast_pow]; rfl
            have hl8 : (rep ((2 : Int) ^ expo k - 1).natAbs).length ≤ 1024 := by rw [← e2, Int.natAbs_natCast]; exact Nat.le_trans Hxl.out (by decide)
            have HE2 := Lib.hid e2
            have HL7 := Lib.hid hl7
            have HL8 := Lib.hid hl8
            clear e2 hl7 hl8
            go_upto_region 10 with fail
            go_cut [9, 10] (fun s9 s10 wx => MadeAt wc ((2 : Int) ^ expo k - 1) s9 s10 wx)
            case first =>
              clear r2 re r6 r7 A7 hb hB hg6
              have hX : Below wc.heap.size wc wc.drew := (Below.refl _ _).drew
              refine wp_region_held (S := fun X => Below wc.heap.size wc X) (by kernel_rfl) ?_
              refine wpAnyH_take_at (i := 0) (v := .agg #[.bool b7, .slice a7 n7 c7]) 57 rfl rfl (by kernel_rfl) (by kernel_rfl) (by kernel_rfl) (fun _ _ _ h => h) (.inl ⟨rfl, fun X hX => by obtain ⟨i0, i1⟩ := HBx.out X hX; go_simp⟩) hX ?_
              simp only [Act.put, List.setIfInBounds_toArray, List.set_cons_zero, List.set_cons_succ]
              refine wpAnyH_all (rs := [1, 6]) (by kernel_rfl) (by decide) (fun i hi => ?_)
              simp only [List.mem_cons, List.not_mem_nil, or_false] at hi
              rcases hi with rfl | rfl
              · unfold wpOp
                go_simp
                refine .inl ((large_of _ 1 (by decide) (by decide)).mono ?_)
                rintro e X1 ⟨u48, rfl, hu48, hb⟩
                replace hX := hX.trans (hb.mono hX.size)
                clear hb
                obtain ⟨b48, a48, n48, c48, rfl, H48⟩ := hu48.agg'
                clear hu48
                refine ⟨hX, ?_⟩
                refine wpAnyH_all (rs := [2, 6]) (by kernel_rfl) (by decide) (fun i hi => ?_)
                simp only [List.mem_cons, List.not_mem_nil, or_false] at hi
                rcases hi with rfl | rfl
                · unfold wpOp
                  go_simp
                  refine .inl (((api_sub _ _ _ ((2 : Int) ^ expo k) 1 (HBa.out _ hX) H48.out HL7.out (by decide)).mono fun e X' h => h.ok HL8.out).mono ?_)
                  rintro e X2 ⟨b53, a53, n53, c53, rfl, H53, hb⟩
                  replace H48 := Lib.hid (H48.out.below hb)
                  replace hX := hX.trans (hb.mono hX.size)
                  clear hb
                  refine ⟨hX, ?_⟩
                  refine wpAnyH_take_at (i := 3) (v := .tuple #[.agg #[.bool b53, .slice a53 n53 c53], .int .i64 0]) 56 rfl rfl (by kernel_rfl) (by kernel_rfl) (by kernel_rfl) (fun _ _ _ h => h) (.inl ⟨rfl, fun X hX => by go_simp⟩) hX ?_
                  simp only [Act.put, List.setIfInBounds_toArray, List.set_cons_zero, List.set_cons_succ]
                  refine wpAnyH_take_at (i := 4) (v := .agg #[.bool b53, .slice a53 n53 c53]) 60 rfl rfl (by kernel_rfl) (by kernel_rfl) (by kernel_rfl) (fun _ _ _ h => h) (.inl ⟨rfl, fun X hX => by go_simp⟩) hX ?_
                  simp only [Act.put, List.setIfInBounds_toArray, List.set_cons_zero, List.set_cons_succ]
                  refine wpAnyH_take_at (i := 5) (v := .int .i64 0) 61 rfl rfl (by kernel_rfl) (by kernel_rfl) (by kernel_rfl) (fun _ _ _ h => h) (.inl ⟨rfl, fun X hX => by go_simp⟩) hX ?_
                  simp only [Act.put, List.setIfInBounds_toArray, List.set_cons_zero, List.set_cons_succ]
                  refine wpAnyH_all (rs := [6]) (by kernel_rfl) (by decide) (fun i hi => ?_)
                  rw [List.mem_singleton] at hi
                  subst hi
                  refine wpOp_alloc_int (o := _) rfl rfl rfl (fun X3 g9 rg9 hb hg9 hlt => ?_)
                  clear hlt
                  replace hg9 := Nat.le_trans hX.size hg9
                  replace H53 := Lib.hid (H53.out.below hb)
                  replace hX := hX.trans (hb.mono hX.size)
                  clear hb
                  refine ⟨hX, ?_⟩
                  simp only [Act.put, List.setIfInBounds_toArray, List.set_cons_zero, List.set_cons_succ]
                  refine wpAnyH_all (rs := [7]) (by kernel_rfl) (by decide) (fun i hi => ?_)
                  rw [List.mem_singleton] at hi
                  subst hi
                  have k0 := rg9.cell_at 0
                  have k1 := rg9.cell_at 1
                  have f0 := rg9.free 0
                  have f1 := rg9.free 1
                  simp only [List.getElem?_cons_zero, List.getElem?_cons_succ] at k0 k1
                  unfold wpOp
                  go_simp
                  have HF := Lib.hid (fp_store (U := wc) rg9 hg9 H53.out hX)
                  replace hX := below_store (below_store hX hg9 (i := 0) (.bool b53)) hg9 (i := 1) (.slice a53 n53 c53)
                  clear k0 k1 f0 f1 rg9 H53
                  refine .inl ⟨hX, ?_⟩
                  refine wpAnyH_take_at (i := 8) (v := .int .i64 0) 10 rfl rfl (by kernel_rfl) (by kernel_rfl) (by kernel_rfl) (fun _ _ _ h => h) (.inl ⟨rfl, fun X hX => by go_simp⟩) hX ?_
                  simp only [Act.put, List.setIfInBounds_toArray, List.set_cons_zero, List.set_cons_succ]
                  refine wpAnyH_done (by kernel_rfl) ?_ _
                  go_wp2_with fail
                  go_meet
                  exact ⟨HF.out, rfl⟩
                · refine wpOp_alloc_int (o := _) rfl rfl rfl (fun X5 g9 rg9 hb hg9 hlt => ?_)
                  clear hlt
                  replace hg9 := Nat.le_trans hX.size hg9
                  replace H48 := Lib.hid (H48.out.below hb)
                  replace hX := hX.trans (hb.mono hX.size)
                  clear hb
                  refine ⟨hX, ?_⟩
                  simp only [Act.put, List.setIfInBounds_toArray, List.set_cons_zero, List.set_cons_succ]
                  refine wpAnyH_all (rs := [2]) (by kernel_rfl) (by decide) (fun i hi => ?_)
                  rw [List.mem_singleton] at hi
                  subst hi
                  unfold wpOp
                  go_simp
                  refine .inl (((api_sub _ _ _ ((2 : Int) ^ expo k) 1 (HBa.out _ hX) H48.out HL7.out (by decide)).mono fun e X' h => h.ok HL8.out).mono ?_)
                  rintro e X6 ⟨b53, a53, n53, c53, rfl, H53, hb⟩
                  replace H48 := Lib.hid (H48.out.below hb)
                  replace rg9 := rg9.below hb rg9.lt
                  replace hX := hX.trans (hb.mono hX.size)
                  clear hb
                  refine ⟨hX, ?_⟩
                  refine wpAnyH_take_at (i := 3) (v := .tuple #[.agg #[.bool b53, .slice a53 n53 c53], .int .i64 0]) 56 rfl rfl (by kernel_rfl) (by kernel_rfl) (by kernel_rfl) (fun _ _ _ h => h) (.inl ⟨rfl, fun X hX => by go_simp⟩) hX ?_
                  simp only [Act.put, List.setIfInBounds_toArray, List.set_cons_zero, List.set_cons_succ]
                  refine wpAnyH_take_at (i := 4) (v := .agg #[.bool b53, .slice a53 n53 c53]) 60 rfl rfl (by kernel_rfl) (by kernel_rfl) (by kernel_rfl) (fun _ _ _ h => h) (.inl ⟨rfl, fun X hX => by go_simp⟩) hX ?_
                  simp only [Act.put, List.setIfInBounds_toArray, List.set_cons_zero, List.set_cons_succ]
                  refine wpAnyH_take_at (i := 5) (v := .int .i64 0) 61 rfl rfl (by kernel_rfl) (by kernel_rfl) (by kernel_rfl) (fun _ _ _ h => h) (.inl ⟨rfl, fun X hX => by go_simp⟩) hX ?_
                  simp only [Act.put, List.setIfInBounds_toArray, List.set_cons_zero, List.set_cons_succ]
                  refine wpAnyH_all (rs := [7]) (by kernel_rfl) (by decide) (fun i hi => ?_)
                  rw [List.mem_singleton] at hi
                  subst hi
                  have k0 := rg9.cell_at 0
                  have k1 := rg9.cell_at 1
                  have f0 := rg9.free 0
                  have f1 := rg9.free 1
                  simp only [List.getElem?_cons_zero, List.getElem?_cons_succ] at k0 k1
                  unfold wpOp
                  go_simp
                  have HF := Lib.hid (fp_store (U := wc) rg9 hg9 H53.out hX)
                  replace hX := below_store (below_store hX hg9 (i := 0) (.bool b53)) hg9 (i := 1) (.slice a53 n53 c53)
                  clear k0 k1 f0 f1 rg9 H53
                  refine .inl ⟨hX, ?_⟩
                  refine wpAnyH_take_at (i := 8) (v := .int .i64 0) 10 rfl rfl (by kernel_rfl) (by kernel_rfl) (by kernel_rfl) (fun _ _ _ h => h) (.inl ⟨rfl, fun X hX => by go_simp⟩) hX ?_
                  simp only [Act.put, List.setIfInBounds_toArray, List.set_cons_zero, List.set_cons_succ]
                  refine wpAnyH_done (by kernel_rfl) ?_ _
                  go_wp2_with fail
                  go_meet
                  exact ⟨HF.out, rfl⟩
              · refine wpOp_alloc_int (o := _) rfl rfl rfl (fun X8 g9 rg9 hb hg9 hlt => ?_)
                clear hlt
                replace hg9 := Nat.le_trans hX.size hg9
                replace hX := hX.trans (hb.mono hX.size)
                clear hb
                refine ⟨hX, ?_⟩
                simp only [Act.put, List.setIfInBounds_toArray, List.set_cons_zero, List.set_cons_succ]
                refine wpAnyH_all (rs := [1]) (by kernel_rfl) (by decide) (fun i hi => ?_)
                rw [List.mem_singleton] at hi
                subst hi
                unfold wpOp
                go_simp
                refine .inl ((large_of _ 1 (by decide) (by decide)).mono ?_)
                rintro e X9 ⟨u48, rfl, hu48, hb⟩
                replace rg9 := rg9.below hb rg9.lt
                replace hX := hX.trans (hb.mono hX.size)
                clear hb
                obtain ⟨b48, a48, n48, c48, rfl, H48⟩ := hu48.agg'
                clear hu48
                refine ⟨hX, ?_⟩
                refine wpAnyH_all (rs := [2]) (by kernel_rfl) (by decide) (fun i hi => ?_)
                rw [List.mem_singleton] at hi
                subst hi
                unfold wpOp
                go_simp
                refine .inl (((api_sub _ _ _ ((2 : Int) ^ expo k) 1 (HBa.out _ hX) H48.out HL7.out (by decide)).mono fun e X' h => h.ok HL8.out).mono ?_)
                rintro e X10 ⟨b53, a53, n53, c53, rfl, H53, hb⟩
                replace H48 := Lib.hid (H48.out.below hb)
                replace rg9 := rg9.below hb rg9.lt
                replace hX := hX.trans (hb.mono hX.size)
                clear hb
                refine ⟨hX, ?_⟩
                refine wpAnyH_take_at (i := 3) (v := .tuple #[.agg #[.bool b53, .slice a53 n53 c53], .int .i64 0]) 56 rfl rfl (by kernel_rfl) (by kernel_rfl) (by kernel_rfl) (fun _ _ _ h => h) (.inl ⟨rfl, fun X hX => by go_simp⟩) hX ?_
                simp only [Act.put, List.setIfInBounds_toArray, List.set_cons_zero, List.set_cons_succ]
                refine wpAnyH_take_at (i := 4) (v := .agg #[.bool b53, .slice a53 n53 c53]) 60 rfl rfl (by kernel_rfl) (by kernel_rfl) (by kernel_rfl) (fun _ _ _ h => h) (.inl ⟨rfl, fun X hX => by go_simp⟩) hX ?_
                simp only [Act.put, List.setIfInBounds_toArray, List.set_cons_zero, List.set_cons_succ]
                refine wpAnyH_take_at (i := 5) (v := .int .i64 0) 61 rfl rfl (by kernel_rfl) (by kernel_rfl) (by kernel_rfl) (fun _ _ _ h => h) (.inl ⟨rfl, fun X hX => by go_simp⟩) hX ?_
                simp only [Act.put, List.setIfInBounds_toArray, List.set_cons_zero, List.set_cons_succ]
                refine wpAnyH_all (rs := [7]) (by kernel_rfl) (by decide) (fun i hi => ?_)
                rw [List.mem_singleton] at hi
                subst hi
                have k0 := rg9.cell_at 0
                have k1 := rg9.cell_at 1
                have f0 := rg9.free 0
                have f1 := rg9.free 1
                simp only [List.getElem?_cons_zero, List.getElem?_cons_succ] at k0 k1
                unfold wpOp
                go_simp
                have HF := Lib.hid (fp_store (U := wc) rg9 hg9 H53.out hX)
                replace hX := below_store (below_store hX hg9 (i := 0) (.bool b53)) hg9 (i := 1) (.slice a53 n53 c53)
                clear k0 k1 f0 f1 rg9 H53
                refine .inl ⟨hX, ?_⟩
                refine wpAnyH_take_at (i := 8) (v := .int .i64 0) 10 rfl rfl (by kernel_rfl) (by kernel_rfl) (by kernel_rfl) (fun _ _ _ h => h) (.inl ⟨rfl, fun X hX => by go_simp⟩) hX ?_
                simp only [Act.put, List.setIfInBounds_toArray, List.set_cons_zero, List.set_cons_succ]
                refine wpAnyH_done (by kernel_rfl) ?_ _
                go_wp2_with fail
                go_meet
                exact ⟨HF.out, rfl⟩
            case rest =>
              obtain ⟨⟨g9, b9, a9, n9, c9, rfl, hg9, r9, A9, hb'⟩, rfl⟩ := hcut
              replace r6 := r6.below hb' r6.lt
              replace hb := hb.trans (hb'.mono hb.size)
              have HF := Lib.hid (fp_store (U := U) r6 hg6 A9 hb)
              have k90 := r9.cell_at 0
              have k91 := r9.cell_at 1
              have k60 := r6.cell_at 0
              have k61 := r6.cell_at 1
              have f60 := r6.free 0
              have f61 := r6.free 1
              simp only [List.getElem?_cons_zero, List.getElem?_cons_succ] at k90 k91 k60 k61
              clear r2 re r7 A7 A9 r9 hb' hB HBx HBa hg9 r6 hb
              go_wp2_with fail
              go_meet
              have hf := HF.out
              rw [← HE2.out] at hf
              exact ⟨_, Hxf.out, Hxl.out, hf⟩
        · have d4 : decide ((k : Int) < 4) = false := by rw [decide_eq_false_iff_not]; omega
          have d4' : decide (k < 4) = false := by rw [decide_eq_false_iff_not]; exact k4
          obtain ⟨P, hP, hPl, hPe⟩ := tbl_flt k k4 hk7
          rw [hPe] at A6
          have HF := Lib.hid (show FQ U (.pointer (some ⟨g, 0, none⟩)) wc from ⟨P, hP, hPl, g, b6, a6, n6, c6, rfl, hg6, r6, A6, hb⟩)
          clear r2 re r6 A6 hb hB hg6 hP hPl hPe
          go_wp2_with fail
          go_meet
          exact HF.out
      case rest =>
        clear r2 re r6 A6 hb hB hg6 hk7
        obtain ⟨P, hP, hPl, g', b6', a6', n6', c6', rfl, hg', r6, A6, hb⟩ := hcut
        have r2 := r2U.below hb r2U.lt
        have hB := hBU.trans (hb.mono hBU.size)
        clear r2U hBU hb hg'
        have hP1 := hP.1
        have HP := Lib.hid hP
        have HP0 := Lib.hid (show (P : Int) ≠ 0 by omega)
        have HLP := Lib.hid (show (rep (P : Int).natAbs).length ≤ 1024 from by rw [Int.natAbs_natCast]; exact Nat.le_trans hPl (by decide))
        have HLP1 := Lib.hid (show (rep ((P : Int) - 1).natAbs).length ≤ 1024 from Nat.le_trans (rep_mono (by omega)) HLP.out)
        have HPnn := Lib.hid (show (0 : Int) ≤ (P : Int) - 1 by omega)
        clear hP hPl hP1
        have HBx := Lib.hid (fun X (h : Below wc.heap.size wc X) => (r6.below h r6.lt).cells)
        have HBa := Lib.hid (fun X (h : Below wc.heap.size wc X) => A6.below h)
        go_upto_region 14 with fail
        go_cut [11, 12] (fun s11 s12 wx => MadeAt wc ((P : Int) - 1) s11 s12 wx)
        case first =>
          clear r2 r6 A6 hB
          have hX : Below wc.heap.size wc wc.drew := (Below.refl _ _).drew
          refine wp_region_held (S := fun X => Below wc.heap.size wc X) (by kernel_rfl) ?_
          refine wpAnyH_take_at (i := 0) (v := .agg #[.bool b6', .slice a6' n6' c6']) 70 rfl rfl (by kernel_rfl) (by kernel_rfl) (by kernel_rfl) (fun _ _ _ h => h) (.inl ⟨rfl, fun X hX => by obtain ⟨i0, i1⟩ := HBx.out X hX; go_simp⟩) hX ?_
          simp only [Act.put, List.setIfInBounds_toArray, List.set_cons_zero, List.set_cons_succ]
          refine wpAnyH_all (rs := [1, 6]) (by kernel_rfl) (by decide) (fun i hi => ?_)
          simp only [List.mem_cons, List.not_mem_nil, or_false] at hi
          rcases hi with rfl | rfl
          · unfold wpOp
            go_simp
            refine .inl ((large_of _ 1 (by decide) (by decide)).mono ?_)
            rintro e X1 ⟨u48, rfl, hu48, hb⟩
            replace hX := hX.trans (hb.mono hX.size)
            clear hb
            obtain ⟨b48, a48, n48, c48, rfl, H48⟩ := hu48.agg'
            clear hu48
            refine ⟨hX, ?_⟩
            refine wpAnyH_all (rs := [2, 6]) (by kernel_rfl) (by decide) (fun i hi => ?_)
            simp only [List.mem_cons, List.not_mem_nil, or_false] at hi
            rcases hi with rfl | rfl
            · unfold wpOp
              go_simp
              refine .inl (((api_sub _ _ _ (P : Int) 1 (HBa.out _ hX) H48.out HLP.out (by decide)).mono fun e X' h => h.ok HLP1.out).mono ?_)
              rintro e X2 ⟨b53, a53, n53, c53, rfl, H53, hb⟩
              replace H48 := Lib.hid (H48.out.below hb)
              replace hX := hX.trans (hb.mono hX.size)
              clear hb
              refine ⟨hX, ?_⟩
              refine wpAnyH_take_at (i := 3) (v := .tuple #[.agg #[.bool b53, .slice a53 n53 c53], .int .i64 0]) 69 rfl rfl (by kernel_rfl) (by kernel_rfl) (by kernel_rfl) (fun _ _ _ h => h) (.inl ⟨rfl, fun X hX => by go_simp⟩) hX ?_
              simp only [Act.put, List.setIfInBounds_toArray, List.set_cons_zero, List.set_cons_succ]
              refine wpAnyH_take_at (i := 4) (v := .agg #[.bool b53, .slice a53 n53 c53]) 73 rfl rfl (by kernel_rfl) (by kernel_rfl) (by kernel_rfl) (fun _ _ _ h => h) (.inl ⟨rfl, fun X hX => by go_simp⟩) hX ?_
              simp only [Act.put, List.setIfInBounds_toArray, List.set_cons_zero, List.set_cons_succ]
              refine wpAnyH_take_at (i := 5) (v := .int .i64 0) 74 rfl rfl (by kernel_rfl) (by kernel_rfl) (by kernel_rfl) (fun _ _ _ h => h) (.inl ⟨rfl, fun X hX => by go_simp⟩) hX ?_
              simp only [Act.put, List.setIfInBounds_toArray, List.set_cons_zero, List.set_cons_succ]
              refine wpAnyH_all (rs := [6]) (by kernel_rfl) (by decide) (fun i hi => ?_)
              rw [List.mem_singleton] at hi
              subst hi
              refine wpOp_alloc_int (o := _) rfl rfl rfl (fun X3 g11 rg11 hb hg11 hlt => ?_)
              clear hlt
              replace hg11 := Nat.le_trans hX.size hg11
              replace H53 := Lib.hid (H53.out.below hb)
              replace hX := hX.trans (hb.mono hX.size)
              clear hb
              refine ⟨hX, ?_⟩
              simp only [Act.put, List.setIfInBounds_toArray, List.set_cons_zero, List.set_cons_succ]
              refine wpAnyH_all (rs := [7]) (by kernel_rfl) (by decide) (fun i hi => ?_)
              rw [List.mem_singleton] at hi
              subst hi
              have k0 := rg11.cell_at 0
              have k1 := rg11.cell_at 1
              have f0 := rg11.free 0
              have f1 := rg11.free 1
              simp only [List.getElem?_cons_zero, List.getElem?_cons_succ] at k0 k1
              unfold wpOp
              go_simp
              have HF := Lib.hid (fp_store (U := wc) rg11 hg11 H53.out hX)
              replace hX := below_store (below_store hX hg11 (i := 0) (.bool b53)) hg11 (i := 1) (.slice a53 n53 c53)
              clear k0 k1 f0 f1 rg11 H53
              refine .inl ⟨hX, ?_⟩
              refine wpAnyH_take_at (i := 8) (v := .int .i64 0) 12 rfl rfl (by kernel_rfl) (by kernel_rfl) (by kernel_rfl) (fun _ _ _ h => h) (.inl ⟨rfl, fun X hX => by go_simp⟩) hX ?_
              simp only [Act.put, List.setIfInBounds_toArray, List.set_cons_zero, List.set_cons_succ]
              refine wpAnyH_done (by kernel_rfl) ?_ _
              go_wp2_with fail
              go_meet
              exact ⟨HF.out, rfl⟩
            · refine wpOp_alloc_int (o := _) rfl rfl rfl (fun X5 g11 rg11 hb hg11 hlt => ?_)
              clear hlt
              replace hg11 := Nat.le_trans hX.size hg11
              replace H48 := Lib.hid (H48.out.below hb)
              replace hX := hX.trans (hb.mono hX.size)
              clear hb
              refine ⟨hX, ?_⟩
              simp only [Act.put, List.setIfInBounds_toArray, List.set_cons_zero, List.set_cons_succ]
              refine wpAnyH_all (rs := [2]) (by kernel_rfl) (by decide) (fun i hi => ?_)
              rw [List.mem_singleton] at hi
              subst hi
              unfold wpOp
              go_simp
              refine .inl (((api_sub _ _ _ (P : Int) 1 (HBa.out _ hX) H48.out HLP.out (by decide)).mono fun e X' h => h.ok HLP1.out).mono ?_)
              rintro e X6 ⟨b53, a53, n53, c53, rfl, H53, hb⟩
              replace H48 := Lib.hid (H48.out.below hb)
              replace rg11 := rg11.below hb rg11.lt
              replace hX := hX.trans (hb.mono hX.size)
              clear hb
              refine ⟨hX, ?_⟩
              refine wpAnyH_take_at (i := 3) (v := .tuple #[.agg #[.bool b53, .slice a53 n53 c53], .int .i64 0]) 69 rfl rfl (by kernel_rfl) (by kernel_rfl) (by kernel_rfl) (fun _ _ _ h => h) (.inl ⟨rfl, fun X hX => by go_simp⟩) hX ?_
              simp only [Act.put, List.setIfInBounds_toArray, List.set_cons_zero, List.set_cons_succ]
              refine wpAnyH_take_at (i := 4) (v := .agg #[.bool b53, .slice a53 n53 c53]) 73 rfl rfl (by kernel_rfl) (by kernel_rfl) (by kernel_rfl) (fun _ _ _ h => h) (.inl ⟨rfl, fun X hX => by go_simp⟩) hX ?_
              simp only [Act.put, List.setIfInBounds_toArray, List.set_cons_zero, List.set_cons_succ]
              refine wpAnyH_take_at (i := 5) (v := .int .i64 0) 74 rfl rfl (by kernel_rfl) (by kernel_rfl) (by kernel_rfl) (fun _ _ _ h => h) (.inl ⟨rfl, fun X hX => by go_simp⟩) hX ?_
              simp only [Act.put, List.setIfInBounds_toArray, List.set_cons_zero, List.set_cons_succ]
              refine wpAnyH_all (rs := [7]) (by kernel_rfl) (by decide) (fun i hi => ?_)
              rw [List.mem_singleton] at hi
              subst hi
              have k0 := rg11.cell_at 0
              have k1 := rg11.cell_at 1
              have f0 := rg11.free 0
              have f1 := rg11.free 1
              simp only [List.getElem?_cons_zero, List.getElem?_cons_succ] at k0 k1
              unfold wpOp
              go_simp
              have HF := Lib.hid (fp_store (U := wc) rg11 hg11 H53.out hX)
              replace hX := below_store (below_store hX hg11 (i := 0) (.bool b53)) hg11 (i := 1) (.slice a53 n53 c53)
              clear k0 k1 f0 f1 rg11 H53
              refine .inl ⟨hX, ?_⟩
              refine wpAnyH_take_at (i := 8) (v := .int .i64 0) 12 rfl rfl (by kernel_rfl) (by kernel_rfl) (by kernel_rfl) (fun _ _ _ h => h) (.inl ⟨rfl, fun X hX => by go_simp⟩) hX ?_
              simp only [Act.put, List.setIfInBounds_toArray, List.set_cons_zero, List.set_cons_succ]
              refine wpAnyH_done (by kernel_rfl) ?_ _
              go_wp2_with fail
              go_meet
              exact ⟨HF.out, rfl⟩
          · refine wpOp_alloc_int (o := _) rfl rfl rfl (fun X8 g11 rg11 hb hg11 hlt => ?_)
            clear hlt
            replace hg11 := Nat.le_trans hX.size hg11
            replace hX := hX.trans (hb.mono hX.size)
            clear hb
            refine ⟨hX, ?_⟩
            simp only [Act.put, List.setIfInBounds_toArray, List.set_cons_zero, List.set_cons_succ]
            refine wpAnyH_all (rs := [1]) (by kernel_rfl) (by decide) (fun i hi => ?_)
            rw [List.mem_singleton] at hi
            subst hi
            unfold wpOp
            go_simp
            refine .inl ((large_of _ 1 (by decide) (by decide)).mono ?_)
            rintro e X9 ⟨u48, rfl, hu48, hb⟩
            replace rg11 := rg11.below hb rg11.lt
            replace hX := hX.trans (hb.mono hX.size)
            clear hb
            obtain ⟨b48, a48, n48, c48, rfl, H48⟩ := hu48.agg'
            clear hu48
            refine ⟨hX, ?_⟩
            refine wpAnyH_all (rs := [2]) (by kernel_rfl) (by decide) (fun i hi => ?_)
            rw [List.mem_singleton] at hi
            subst hi
            unfold wpOp
            go_simp
            refine .inl (((api_sub _ _ _ (P : Int) 1 (HBa.out _ hX) H48.out HLP.out (by decide)).mono fun e X' h => h.ok HLP1.out).mono ?_)
            rintro e X10 ⟨b53, a53, n53, c53, rfl, H53, hb⟩
            replace H48 := Lib.hid (H48.out.below hb)
            replace rg11 := rg11.below hb rg11.lt
            replace hX := hX.trans (hb.mono hX.size)
            clear hb
            refine ⟨hX, ?_⟩
            refine wpAnyH_take_at (i := 3) (v := .tuple #[.agg #[.bool b53, .slice a53 n53 c53], .int .i64 0]) 69 rfl rfl (by kernel_rfl) (by kernel_rfl) (by kernel_rfl) (fun _ _ _ h => h) (.inl ⟨rfl, fun X hX => by go_simp⟩) hX ?_
            simp only [Act.put, List.setIfInBounds_toArray, List.set_cons_zero, List.set_cons_succ]
            refine wpAnyH_take_at (i := 4) (v := .agg #[.bool b53, .slice a53 n53 c53]) 73 rfl rfl (by kernel_rfl) (by kernel_rfl) (by kernel_rfl) (fun _ _ _ h => h) (.inl ⟨rfl, fun X hX => by go_simp⟩) hX ?_
            simp only [Act.put, List.setIfInBounds_toArray, List.set_cons_zero, List.set_cons_succ]
            refine wpAnyH_take_at (i := 5) (v := .int .i64 0) 74 rfl rfl (by kernel_rfl) (by kernel_rfl) (by kernel_rfl) (fun _ _ _ h => h) (.inl ⟨rfl, fun X hX => by go_simp⟩) hX ?_
            simp only [Act.put, List.setIfInBounds_toArray, List.set_cons_zero, List.set_cons_succ]
            refine wpAnyH_all (rs := [7]) (by kernel_rfl) (by decide) (fun i hi => ?_)
            rw [List.mem_singleton] at hi
            subst hi
            have k0 := rg11.cell_at 0
            have k1 := rg11.cell_at 1
            have f0 := rg11.free 0
            have f1 := rg11.free 1
            simp only [List.getElem?_cons_zero, List.getElem?_cons_succ] at k0 k1
            unfold wpOp
            go_simp
            have HF := Lib.hid (fp_store (U := wc) rg11 hg11 H53.out hX)
            replace hX := below_store (below_store hX hg11 (i := 0) (.bool b53)) hg11 (i := 1) (.slice a53 n53 c53)
            clear k0 k1 f0 f1 rg11 H53
            refine .inl ⟨hX, ?_⟩
            refine wpAnyH_take_at (i := 8) (v := .int .i64 0) 12 rfl rfl (by kernel_rfl) (by kernel_rfl) (by kernel_rfl) (fun _ _ _ h => h) (.inl ⟨rfl, fun X hX => by go_simp⟩) hX ?_
            simp only [Act.put, List.setIfInBounds_toArray, List.set_cons_zero, List.set_cons_succ]
            refine wpAnyH_done (by kernel_rfl) ?_ _
            go_wp2_with fail
            go_meet
            exact ⟨HF.out, rfl⟩
        case rest =>
          obtain ⟨⟨g11, b11, a11, n11, c11, rfl, hg11, r11, A11, hb⟩, rfl⟩ := hcut
          clear hg11 HBx HBa
          replace r2 := r2.below hb r2.lt
          replace r6 := r6.below hb r6.lt
          replace hB := hB.trans (hb.mono hB.size)
          replace A6 := A6.below hb
          clear hb
          obtain ⟨kr20, kr21⟩ := r2.cells
          obtain ⟨kr60, kr61⟩ := r6.cells
          obtain ⟨kr110, kr111⟩ := r11.cells
          go_wp2_with fail
          refine ((api_div wc _ _ x (P : Int) (Hx.out.below hB) A6 Lx.out HLP.out).mono fun e X' h => h.ok HP0.out).mono ?_
          rintro e Z1 ⟨bq, aq, nq, cq, br, ar, nr, cr, rfl, Hans, hb⟩
          replace r2 := r2.below hb r2.lt
          replace r6 := r6.below hb r6.lt
          replace r11 := r11.below hb r11.lt
          replace A6 := A6.below hb
          replace A11 := A11.below hb
          replace hB := hB.trans (hb.mono hB.size)
          clear kr20 kr21 kr60 kr61 kr110 kr111
          obtain ⟨kr20, kr21⟩ := r2.cells
          obtain ⟨kr60, kr61⟩ := r6.cells
          obtain ⟨kr110, kr111⟩ := r11.cells
          have Ar : ApiV Z1 (.agg #[.bool br, .slice ar nr cr]) (x.fmod (P : Int)) := Hans.out.2
          clear Hans
          obtain ⟨Z2, hZ2, r13, r14, hbZ2, hzZ2⟩ := rows2 Z1 24 (.bool bq) (.slice aq nq cq) (.bool br) (.slice ar nr cr)
          replace r2 := r2.below hbZ2 r2.lt
          replace r6 := r6.below hbZ2 r6.lt
          replace r11 := r11.below hbZ2 r11.lt
          replace A6 := A6.below hbZ2
          replace A11 := A11.below hbZ2
          replace Ar := Ar.below hbZ2
          replace hB := hB.trans (hbZ2.mono hB.size)
          clear kr20 kr21 kr60 kr61 kr110 kr111
          obtain ⟨kr20, kr21⟩ := r2.cells
          obtain ⟨kr60, kr61⟩ := r6.cells
          obtain ⟨kr110, kr111⟩ := r11.cells
          obtain ⟨kr130, kr131⟩ := r13.cells
          obtain ⟨kr140, kr141⟩ := r14.cells
          rw [hZ2] at kr20 kr21 kr60 kr61 kr110 kr111 kr130 kr131 kr140 kr141
          have HZ2 := Lib.hid hZ2; clear hZ2
          obtain ⟨M, hM⟩ : ∃ M, M = modpowZ x ((P : Int) - 1) (P : Int) := ⟨_, rfl⟩
          obtain ⟨hf1, hf2⟩ := flt_law x P HP.out
          rw [← hM] at hf1 hf2
          have hML : (rep M.natAbs).length ≤ 1024 := by
            by_cases hz : x.fmod (P : Int) = 0
            · rw [hf1 hz]; decide
            · rw [hf2 hz]; decide
          have HML := Lib.hid hML
          have HM := Lib.hid hM
          have HF1 := Lib.hid hf1
          have HF2 := Lib.hid hf2
          clear hML hM hf1 hf2
          go_wp2_with fail
          rw [← HZ2.out]
          refine ((api_modpow Z2 _ _ _ x ((P : Int) - 1) (P : Int) (Hx.out.below hB) A11 A6 Lx.out HLP1.out HLP.out HPnn.out HP0.out).mono fun e X' h => by rewrite [← HM.out] at h; exact h.ok HML.out).mono ?_
          rintro e Z3 ⟨bm, am, nm, cm, rfl, Hm, hb⟩
          replace r2 := r2.below hb r2.lt
          replace r6 := r6.below hb r6.lt
          replace r11 := r11.below hb r11.lt
          replace r13 := r13.below hb r13.lt
          replace r14 := r14.below hb r14.lt
          replace A6 := A6.below hb
          replace A11 := A11.below hb
          replace Ar := Ar.below hb
          replace hB := hB.trans (hb.mono hB.size)
          clear kr20 kr21 kr60 kr61 kr110 kr111 kr130 kr131 kr140 kr141
          obtain ⟨kr20, kr21⟩ := r2.cells
          obtain ⟨kr60, kr61⟩ := r6.cells
          obtain ⟨kr110, kr111⟩ := r11.cells
          obtain ⟨kr130, kr131⟩ := r13.cells
          obtain ⟨kr140, kr141⟩ := r14.cells
          have Am := Hm.out
          clear Hm
          obtain ⟨Z4, hZ4, r16, hbZ4, hzZ4⟩ := rows1 Z3 24 (.bool bm) (.slice am nm cm)
          replace r2 := r2.below hbZ4 r2.lt
          replace r6 := r6.below hbZ4 r6.lt
          replace r11 := r11.below hbZ4 r11.lt
          replace r13 := r13.below hbZ4 r13.lt
          replace r14 := r14.below hbZ4 r14.lt
          replace A6 := A6.below hbZ4
          replace A11 := A11.below hbZ4
          replace Ar := Ar.below hbZ4
          replace Am := Am.below hbZ4
          replace hB := hB.trans (hbZ4.mono hB.size)
          clear kr20 kr21 kr60 kr61 kr110 kr111 kr130 kr131 kr140 kr141
          obtain ⟨kr20, kr21⟩ := r2.cells
          obtain ⟨kr60, kr61⟩ := r6.cells
          obtain ⟨kr110, kr111⟩ := r11.cells
          obtain ⟨kr130, kr131⟩ := r13.cells
          obtain ⟨kr140, kr141⟩ := r14.cells
          obtain ⟨kr160, kr161⟩ := r16.cells
          rw [hZ4] at kr20 kr21 kr60 kr61 kr110 kr111 kr130 kr131 kr140 kr141 kr160 kr161
          have HZ4 := Lib.hid hZ4; clear hZ4
          by_cases hz : x.fmod (P : Int) = 0
          · have e1 : ((nr : Int) == 0) = true := by rw [beq_iff_eq, Ar.parts.2.1, hz]; rfl
            have e2 : ((nm : Int) == 0) = true := by rw [beq_iff_eq, Am.parts.2.1, HF1.out hz]; rfl
            clear hz
            go_wp2_with fail
            go_ret
            exact ⟨rfl, by rw [← HZ4.out]; exact hB⟩
          · have e1 : ((nr : Int) == 0) = false := by
              rw [beq_eq_false_iff_ne, Ar.parts.2.1]; intro e0
              exact hz (by have := rep_length_zero (n := (x.fmod (P : Int)).natAbs); omega)
            have Am1 : ApiV Z4 (.agg #[.bool bm, .slice am nm cm]) 1 := by have := Am; rwa [HF2.out hz] at this
            clear hz
            have HBx := Lib.hid (fun X (h : Below Z4.heap.size Z4 X) => (r16.below h r16.lt).cells)
            have HBa := Lib.hid (fun X (h : Below Z4.heap.size Z4 X) => Am1.below h)
            go_upto_region 21 with fail
            rw [← HZ4.out]
            clear kr20 kr21 kr60 kr61 kr110 kr111 kr130 kr131 kr140 kr141 kr160 kr161
            clear r2 r6 r11 r13 r14 r16 A6 A11 Ar Am Am1 hzZ4
            have hX : Below Z4.heap.size Z4 Z4.drew := (Below.refl _ _).drew
            refine wp_region_held (S := fun X => Below Z4.heap.size Z4 X) (by kernel_rfl) ?_
            refine wpAnyH_take_at (i := 0) (v := .agg #[.bool bm, .slice am nm cm]) 107 rfl rfl (by kernel_rfl) (by kernel_rfl) (by kernel_rfl) (fun _ _ _ h => h) (.inl ⟨rfl, fun X hX => by obtain ⟨i0, i1⟩ := HBx.out X hX; go_simp⟩) hX ?_
            simp only [Act.put, List.setIfInBounds_toArray, List.set_cons_zero, List.set_cons_succ]
            refine wpAnyH_all (rs := [1]) (by kernel_rfl) (by decide) (fun i hi => ?_)
            rw [List.mem_singleton] at hi
            subst hi
            unfold wpOp
            go_simp
            refine .inl ((large_of _ 1 (by decide) (by decide)).mono ?_)
            rintro e X1 ⟨u48, rfl, hu48, hb⟩
            replace hX := hX.trans (hb.mono hX.size)
            clear hb
            obtain ⟨b48, a48, n48, c48, rfl, H48⟩ := hu48.agg'
            clear hu48
            refine ⟨hX, ?_⟩
            refine wpAnyH_all (rs := [2]) (by kernel_rfl) (by decide) (fun i hi => ?_)
            rw [List.mem_singleton] at hi
            subst hi
            unfold wpOp
            go_simp
            refine .inl ((same_api _ _ _ 1 (HBa.out _ hX) H48.out (by decide)).mono ?_)
            rintro e X2 ⟨rfl, hb⟩
            replace H48 := Lib.hid (H48.out.below hb)
            replace hX := hX.trans (hb.mono hX.size)
            clear hb
            refine ⟨hX, ?_⟩
            refine wpAnyH_take_at (i := 3) (v := .bool true) 4 rfl rfl (by kernel_rfl) (by kernel_rfl) (by kernel_rfl) (fun _ _ _ h => h) (.inl ⟨rfl, fun X hX => by go_simp⟩) hX ?_
            simp only [Act.put, List.setIfInBounds_toArray, List.set_cons_zero, List.set_cons_succ]
            refine wpAnyH_done (by kernel_rfl) ?_ _
            have hfin := hB.trans (hX.mono hB.size)
            clear hX hB
            go_wp2_with fail
            go_ret
            exact ⟨rfl, hfin⟩

end Go.Proofs.YtbffpkmfhkphdaaDoor
