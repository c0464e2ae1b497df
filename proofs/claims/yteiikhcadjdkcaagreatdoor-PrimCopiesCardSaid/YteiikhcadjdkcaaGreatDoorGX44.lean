/- The walk of the booter's names. -/
import Derived.Test.YteiikhcadjdkcaaGreatDoorGX43
import Derived.Test.YteiikhcadjdkcaaGreatDoorGX42
set_option linter.unusedVariables false
set_option linter.unusedSimpArgs false
namespace Go.Proofs.YteiikhcadjdkcaaGreatDoor
open Go Go.RowKit Limb
theorem plan_names : ∀ k, k < 22 → okT (plans.getD k ⟨[], 0, 0, false, []⟩).name = true ∧ 0 < (plans.getD k ⟨[], 0, 0, false, []⟩).name.length ∧ ((plans.getD k ⟨[], 0, 0, false, []⟩).fields.all (fun t => okT t && decide (0 < t.length))) = true ∧ ((plans.getD k ⟨[], 0, 0, false, []⟩).fields.all okT) = true ∧ (plans.getD k ⟨[], 0, 0, false, []⟩).fields.length ≤ 100 := by decide
theorem sels_drop {k : Nat} (hk : k < 11) : sels.drop k = sels.getD k [] :: sels.drop (k + 1) := drop_names (by exact hk)
theorem sel_names : ∀ k, k < 11 → okT (sels.getD k []) = true ∧ 0 < (sels.getD k []).length := by decide
section
variable {w : World} {F : Foot} {h : Hp}
set_option maxHeartbeats 6400000 in
set_option maxRecDepth 1000000 in
theorem booter_names (H : HeapAt w F h) {pb : Nat} (rb : BootRow w F pb) (ms : List Nat) (PP : Limb.Paired h ms) (hE : Hp) (hp : ((nameAll 0 plans h).bind fun h => (selAll 0 sels h).bind fun h => fieldAll 0 plans h) = some hE) :
    Calls Tryz.prog 18 #[.pointer (some ⟨pb, 0, none⟩)] w fun e w' => e = .returned (.tuple #[]) ∧ Moved w F w' hE := by
  obtain ⟨hN, e1, e2⟩ := Option.bind_eq_some_iff.1 hp
  obtain ⟨hS, e3, e4⟩ := Option.bind_eq_some_iff.1 e2
  have HPl := Lib.hid (fun X => kernel_plans X)
  have HSe := Lib.hid (fun X => kernel_selectors X)
  have HN0 := Lib.hid (show nameAll 0 (plans.drop 0) h = some hN from e1)
  have HS0 := Lib.hid (show selAll 0 (sels.drop 0) hN = some hS from e3)
  have HF0 := Lib.hid (show fieldAll 0 (plans.drop 0) hS = some hE from e4)
  have HPP := Lib.hid PP
  have HC0 := Lib.hid (show CN w F pb (fun _ => True) w F h from ⟨⟨fun _ _ _ _ => trivial, fun _ _ _ _ _ _ _ _ _ => trivial⟩, Step.refl H, rb, trivial⟩)
  clear hp e1 e2 e3 e4 PP H rb
  go_enter Tryz.func18, Tryz.ntmps18
  go_wp2_with fail
  refine (HPl.out _).mono ?_
  rintro e X1 ⟨⟨g, vs, rfl, hPl, hg⟩, hB⟩
  (try dsimp only)
  have HC := Lib.hid ((HC0.out.below hB).with (keeps_plans g vs) hPl)
  have HG := Lib.hid (Limb.Grow.refl HC0.out.hp.good)
  clear hPl hg hB HC0
  go_wp2_with fail
  go_loopw [13] (fun i wr => ∃ (k : Nat) (F' : Foot) (hk : Hp), k ≤ 22 ∧ i = .int .i64 k ∧ Hid (CN w F pb (fun X => PlansAt X g vs) wr F' hk) ∧ Hid (Limb.Grow h hk) ∧ Hid (nameAll k (plans.drop k) hk = some hN)) (fun i _ => 22 - (RowKit.intOf i).toNat)
  case atStart => exact ⟨0, F, h, Nat.zero_le _, rfl, HC, HG, HN0⟩
  case round =>
    clear HC HG HN0
    obtain ⟨k, F', hk, hkn, rfl, HC, HG, HR⟩ := hrel
    by_cases h0 : k < 22
    · have d1 : decide ((k : Int) < 22) = true := decide_eq_true (by omega)
      have d2 : decide (k < 22) = true := decide_eq_true h0
      have hr := HR.out
      rw [plans_drop h0] at hr
      have hPk := HPP.out.grow HG.out
      obtain ⟨n1, n2, n3, n4, n5⟩ := plan_names k h0
      obtain ⟨p0, p1, p2, p3, p4⟩ := HC.out.ex.cells h0
      obtain ⟨av, hvf⟩ := (HC.out.ex.2.2 k h0).slice
      rw [hvf] at p4
      replace p0 : wr.cell? ⟨g, 5 * k, none⟩ = some (.string (strOf (plans.getD k ⟨[], 0, 0, false, []⟩).name)) := p0
      have ix := fun W => index_by (P := Tryz.prog) 5 (by decide) 77 81 Tryz.underlying77 size_plan g 22 22 W .i64 k h0
      generalize plans.getD k ⟨[], 0, 0, false, []⟩ = p at *
      obtain ⟨b1, b2⟩ := okT_iff n1
      obtain ⟨⟨o, h1⟩, x1, x2⟩ := Option.bind_eq_some_iff.1 hr
      obtain ⟨⟨a, h3⟩, x3, x4⟩ := Option.bind_eq_some_iff.1 x2
      simp only at x3 x4
      obtain ⟨g1, i1⟩ := grow_intern hPk.good b1 b2 x1
      have icl := hPk.cls k h0
      rw [g1.rt] at x3
      have c1F := g1.isF _ _ _ icl
      have g2 := grow_put g1.good (i := 0) (isF_le c1F (by decide)) (isO_lt g1.good (isF_isO i1))
      have c2O := isF_isO (g2.isF _ _ _ c1F)
      obtain ⟨g3, i3⟩ := grow_setGlob g2.good b1 b2 (isO_lt g2.good c2O) x3
      have hK := hPk.ker
      obtain ⟨c, hc⟩ : ∃ c, c = wd hk.rt (10 + k) := ⟨_, rfl⟩
      rw [← hc] at x3 icl c1F g2 c2O g3
      have hIn := fun R Y F1 (cn : CN w F pb R Y F1 hk) => cn_intern cn hK (strOf p.name) (by rw [strOf_size]; exact b2) (by rw [strOf_size]; exact n2) o h1 (by rw [tx_strOf b1]; exact x1)
      have hCl := fun R Y F1 (cn : CN w F pb R Y F1 h1) => show Calls Tryz.prog 33 #[.pointer (some ⟨pb, 0, none⟩), .int .i64 (10 + (k : Int))] Y fun e X' => e = .returned (.int .u32 c) ∧ Below Y.heap.size Y X' from by
        have := cn_class cn (10 + k) (by omega)
        rw [g1.rt, ← hc, Int.natCast_add] at this; exact this
      have hPu := fun R Y F1 (cn : CN w F pb R Y F1 h1) => show Calls Tryz.prog 37 #[.pointer (some ⟨F.p, 0, none⟩), .int .u32 c, .int .i64 0, .int .u32 o] Y fun e X' => e = .returned (.int .i64 0) ∧ ∃ F'', CN w F pb R X' F'' (Limb.putF h1 c 0 o) from cn_put cn (i := 0) (isF_le c1F (by decide)) (by decide) (isF_isO i1)
      have hSg := fun R Y F1 (cn : CN w F pb R Y F1 (Limb.putF h1 c 0 o)) => cn_setglobal cn ((hK.grow g1).grow g2) (strOf p.name) (by rw [strOf_size]; exact b2) (by rw [strOf_size]; exact n2) c c2O a h3 (by rw [tx_strOf b1]; exact x3)
      have HIn := Lib.hid hIn
      have HCl := Lib.hid hCl
      have HPu := Lib.hid hPu
      have HSg := Lib.hid hSg
      have HG2 := Lib.hid (HG.out.trans ((g1.trans g2).trans g3))
      have HR2 := Lib.hid (show nameAll (k + 1) (plans.drop (k + 1)) h3 = some hN from x4)
      generalize Limb.putF h1 c 0 o = h2 at *
      generalize strOf p.name = sn at *
      generalize p.fields.length = nf at *
      generalize supV p.sup = sq at *
      generalize ((p.fmt : Nat) : Int) = fm at *
      generalize p.idx = ix0 at *
      clear hr hPk n1 n2 n3 n4 n5 hvf b1 b2 x1 x2 x3 x4 g1 i1 icl c1F g2 c2O g3 i3 hK hc hIn hCl hPu hSg HG HR
      obtain ⟨Y0, hY0, rp, hbY, hzY⟩ := alloc_row wr 81 [.string sn, .int .i64 sq, .int .i64 fm, .bool ix0, .slice av nf nf]
      have HY0 := Lib.hid hY0
      obtain ⟨pc, hpc⟩ : ∃ pc, pc = wr.heap.size := ⟨_, rfl⟩
      rw [← hpc] at rp
      have HPC := Lib.hid hpc
      have hC := (HC.out.below hbY)
      have HC1 := Lib.hid (hC.with (hC.keeps.and (keeps_row pc 81 [.string sn, .int .i64 sq, .int .i64 fm, .bool ix0, .slice av nf nf] (by decide) (by decide) (by decide) (by decide))) ⟨hC.ex, rp⟩)
      have cp := rp.cell_at 0
      simp only [List.getElem?_cons_zero] at cp
      rw [hY0, hpc] at cp
      clear hY0 hbY hzY hpc hC rp HC
      go_wp2_with fail
      rw [← HY0.out, ← HPC.out]
      clear cp
      refine (HIn.out _ _ _ HC1.out).mono ?_
      rintro e Y1 ⟨rfl, F1, hC⟩
      (try dsimp only)
      have c0 := (BootRow.cells hC.boot).1
      have c1 := (BootRow.cells hC.boot).2
      have HC2 := Lib.hid hC
      clear hC HC1 HIn HY0
      go_wp2_with fail
      refine (HCl.out _ _ _ HC2.out).mono ?_
      rintro e Y2 ⟨rfl, hb⟩
      (try dsimp only)
      have hC := HC2.out.below hb
      have c0 := (BootRow.cells hC.boot).1
      have HC3 := Lib.hid hC
      clear hC hb HC2 HCl c1
      go_wp2_with fail
      refine (HPu.out _ _ _ HC3.out).mono ?_
      rintro e Y3 ⟨rfl, F3, hC⟩
      (try dsimp only)
      have HC4 := Lib.hid hC
      clear hC HC3 HPu c0
      go_wp2_with fail
      have hC := HC4.out.below (Below.refl _ Y3).drew
      have hX : BootRow Y3.drew F pb ∧ Row Y3.drew pc 81 [.string sn, .int .i64 sq, .int .i64 fm, .bool ix0, .slice av nf nf] := ⟨hC.boot, hC.ex.2⟩
      clear HC4
      refine wp_region_held (S := fun Y => BootRow Y F pb ∧ Row Y pc 81 [.string sn, .int .i64 sq, .int .i64 fm, .bool ix0, .slice av nf nf]) (by kernel_rfl) ?_
      refine wpAnyH_take_at (i := 0) (v := .pointer (some ⟨pb, 0, none⟩)) 39 rfl rfl (by kernel_rfl) (by kernel_rfl) (by kernel_rfl) (fun _ _ _ h => h) (.inl ⟨rfl, fun X hX => by go_simp⟩) hX ?_
      simp only [Act.put, List.setIfInBounds_toArray, List.set_cons_zero, List.set_cons_succ]
      refine wpAnyH_take_at (i := 1) (v := .pointer (some ⟨pb, 0, none⟩)) 40 rfl rfl (by kernel_rfl) (by kernel_rfl) (by kernel_rfl) (fun _ _ _ h => h) (.inl ⟨rfl, fun X hX => by go_simp⟩) hX ?_
      simp only [Act.put, List.setIfInBounds_toArray, List.set_cons_zero, List.set_cons_succ]
      refine wpAnyH_take_at (i := 2) (v := .pointer (some ⟨pb, 0, none⟩)) 41 rfl rfl (by kernel_rfl) (by kernel_rfl) (by kernel_rfl) (fun _ _ _ h => h) (.inl ⟨rfl, fun X hX => by go_simp⟩) hX ?_
      simp only [Act.put, List.setIfInBounds_toArray, List.set_cons_zero, List.set_cons_succ]
      refine wpAnyH_take_at (i := 3) (v := .pointer (some ⟨pb, 0, none⟩)) 42 rfl rfl (by kernel_rfl) (by kernel_rfl) (by kernel_rfl) (fun _ _ _ h => h) (.inl ⟨rfl, fun X hX => by go_simp⟩) hX ?_
      simp only [Act.put, List.setIfInBounds_toArray, List.set_cons_zero, List.set_cons_succ]
      refine wpAnyH_take_at (i := 4) (v := .pointer (some ⟨F.p, 0, none⟩)) 43 rfl rfl (by kernel_rfl) (by kernel_rfl) (by kernel_rfl) (fun _ _ _ h => h) (.inl ⟨rfl, fun X hX => by have c0 := (BootRow.cells hX.1).1; go_simp⟩) hX ?_
      simp only [Act.put, List.setIfInBounds_toArray, List.set_cons_zero, List.set_cons_succ]
      refine wpAnyH_take_at (i := 5) (v := .pointer (some ⟨pc, 0, none⟩)) 44 rfl rfl (by kernel_rfl) (by kernel_rfl) (by kernel_rfl) (fun _ _ _ h => h) (.inl ⟨rfl, fun X hX => by go_simp⟩) hX ?_
      simp only [Act.put, List.setIfInBounds_toArray, List.set_cons_zero, List.set_cons_succ]
      refine wpAnyH_take_at (i := 6) (v := .string sn) 45 rfl rfl (by kernel_rfl) (by kernel_rfl) (by kernel_rfl) (fun _ _ _ h => h) (.inl ⟨rfl, fun X hX => by have q := hX.2.cell_at 0; simp only [List.getElem?_cons_zero, List.getElem?_cons_succ] at q; go_simp⟩) hX ?_
      simp only [Act.put, List.setIfInBounds_toArray, List.set_cons_zero, List.set_cons_succ]
      refine wpAnyH_take_at (i := 7) (v := .int .u32 c) 46 rfl rfl (by kernel_rfl) (by kernel_rfl) (by kernel_rfl) (fun _ _ _ h => h) (.inl ⟨rfl, fun X hX => by go_simp⟩) hX ?_
      simp only [Act.put, List.setIfInBounds_toArray, List.set_cons_zero, List.set_cons_succ]
      refine wpAnyH_all (rs := [8]) (by kernel_rfl) (by decide) (fun i hi => ?_)
      rw [List.mem_singleton] at hi
      subst hi
      unfold wpOp
      go_simp
      refine .inl ((HSg.out _ _ _ hC).mono ?_)
      rintro e X1 ⟨rfl, F4, hC⟩
      replace hX := (⟨hC.boot, hC.ex.2⟩ : _ ∧ _)
      refine ⟨hX, ?_⟩
      refine wpAnyH_take_at (i := 9) (v := .tuple #[.int .u32 a, .int .i64 0]) 38 rfl rfl (by kernel_rfl) (by kernel_rfl) (by kernel_rfl) (fun _ _ _ h => h) (.inl ⟨rfl, fun X hX => by go_simp⟩) hX ?_
      simp only [Act.put, List.setIfInBounds_toArray, List.set_cons_zero, List.set_cons_succ]
      refine wpAnyH_take_at (i := 10) (v := .int .u32 a) 48 rfl rfl (by kernel_rfl) (by kernel_rfl) (by kernel_rfl) (fun _ _ _ h => h) (.inl ⟨rfl, fun X hX => by go_simp⟩) hX ?_
      simp only [Act.put, List.setIfInBounds_toArray, List.set_cons_zero, List.set_cons_succ]
      refine wpAnyH_take_at (i := 11) (v := .int .i64 0) 49 rfl rfl (by kernel_rfl) (by kernel_rfl) (by kernel_rfl) (fun _ _ _ h => h) (.inl ⟨rfl, fun X hX => by go_simp⟩) hX ?_
      simp only [Act.put, List.setIfInBounds_toArray, List.set_cons_zero, List.set_cons_succ]
      refine wpAnyH_take_at (i := 12) (v := .pointer (some ⟨pb, 0, none⟩)) 50 rfl rfl (by kernel_rfl) (by kernel_rfl) (by kernel_rfl) (fun _ _ _ h => h) (.inl ⟨rfl, fun X hX => by go_simp⟩) hX ?_
      simp only [Act.put, List.setIfInBounds_toArray, List.set_cons_zero, List.set_cons_succ]
      refine wpAnyH_take_at (i := 13) (v := .pointer (some ⟨pb, 1, none⟩)) 51 rfl rfl (by kernel_rfl) (by kernel_rfl) (by kernel_rfl) (fun _ _ _ h => h) (.inl ⟨rfl, fun X hX => by go_simp⟩) hX ?_
      simp only [Act.put, List.setIfInBounds_toArray, List.set_cons_zero, List.set_cons_succ]
      refine wpAnyH_all (rs := [14]) (by kernel_rfl) (by decide) (fun i hi => ?_)
      rw [List.mem_singleton] at hi
      subst hi
      have c1 := (BootRow.cells hX.1).2
      have zz := Row.free hX.1 1
      have hself := cell_self (i := 1) hX.1 rfl
      have HXX := Lib.hid hX
      clear hX
      unfold wpOp
      go_simp
      have hX := HXX.out
      refine .inl ⟨hX, ?_⟩
      refine wpAnyH_done (by kernel_rfl) ?_ _
      have HC5 := Lib.hid (hC.with hC.keeps hC.ex)
      have HC6 := Lib.hid (hC.with (keeps_plans g vs) hC.ex.1)
      clear hX HXX hC HSg zz hself HC5
      go_wp2_with fail
      go_roundw
      case rel => exact ⟨k + 1, F4, h3, h0, by simp, HC6, HG2, HR2⟩
      case measure => simp [RowKit.intOf]; omega
    · obtain rfl : k = 22 := by omega
      rw [show ((22 : Nat) : Int) = 22 from rfl]
      have hr := HR.out
      have e1 : nameAll 22 (plans.drop 22) hk = some hk := rfl
      rw [e1] at hr
      have hr2 := Option.some.inj hr
      have hg := HG.out
      have hc := HC.out
      rw [hr2] at hg hc
      have HG2 := Lib.hid hg
      clear hr e1 hr2 HR hg HC HG
      go_wp2_with fail
      refine (HSe.out _).mono ?_
      rintro e X2 ⟨⟨gs, rfl, rs⟩, hB⟩
      (try dsimp only)
      have HC2 := Lib.hid ((hc.below hB).with (keeps_row gs 9 (sels.map sv) (by decide) (by decide) (by decide) (by decide)) rs)
      clear hc hB rs HSe
      go_wp2_with fail
      go_loopw [55] (fun i wr => ∃ (k : Nat) (F' : Foot) (hk : Hp), k ≤ 11 ∧ i = .int .i64 k ∧ Hid (CN w F pb (fun X => Row X gs 9 (sels.map sv)) wr F' hk) ∧ Hid (Limb.Grow h hk) ∧ Hid (selAll k (sels.drop k) hk = some hS)) (fun i _ => 11 - (RowKit.intOf i).toNat)
      case atStart => exact ⟨0, F', hN, Nat.zero_le _, rfl, HC2, HG2, HS0⟩
      case round =>
        clear HC2 HG2 HS0 F' hk
        obtain ⟨k, F', hk, hkn, rfl, HC, HG, HR⟩ := hrel
        by_cases h0 : k < 11
        · have d1 : decide ((k : Int) < 11) = true := decide_eq_true (by omega)
          have d2 : decide (k < 11) = true := decide_eq_true h0
          have hr := HR.out
          rw [sels_drop h0] at hr
          have hPk := HPP.out.grow HG.out
          obtain ⟨n1, n2⟩ := sel_names k h0
          obtain ⟨b1, b2⟩ := okT_iff n1
          have cx : wr.cell? ⟨gs, k, none⟩ = some (.string (strOf (sels.getD k []))) := by rw [HC.out.ex.cell_at]; exact nameAt (by exact h0)
          have sl := HC.out.ex.sl (n := 11) rfl (by decide)
          have ix := fun W => sl.index 79 Tryz.underlying79 size_str W .i64 k h0
          obtain ⟨⟨o, h1⟩, x1, x2⟩ := Option.bind_eq_some_iff.1 hr
          simp only at x2
          obtain ⟨g1, i1⟩ := grow_intern hPk.good b1 b2 x1
          rw [g1.rt] at x2
          have q1 := isF_le (g1.isF _ _ _ hPk.l8) (show k + 1 ≤ 11 by omega)
          have g2 := grow_put g1.good q1 (isO_lt g1.good (isF_isO i1))
          have hIn := fun R Y F1 (cn : CN w F pb R Y F1 hk) => cn_intern cn hPk.ker (strOf (sels.getD k [])) (by rw [strOf_size]; exact b2) (by rw [strOf_size]; exact n2) o h1 (by rw [tx_strOf b1]; exact x1)
          have hRt := fun R Y F1 (cn : CN w F pb R Y F1 h1) => show Calls Tryz.prog 16 #[.pointer (some ⟨F.p, 0, none⟩), .int .i64 8] Y fun e X' => e = .returned (.int .u32 (wd hk.rt 8 : Nat)) ∧ Below Y.heap.size Y X' from by
            have := cn_root cn 8 (by decide)
            rw [g1.rt] at this; exact this
          have hPu := fun R Y F1 (cn : CN w F pb R Y F1 h1) => cn_put cn q1 (by omega) (isF_isO i1)
          have HIn := Lib.hid hIn
          have HRt := Lib.hid hRt
          have HPu := Lib.hid hPu
          have HG2 := Lib.hid (HG.out.trans (g1.trans g2))
          have HR2 := Lib.hid (show selAll (k + 1) (sels.drop (k + 1)) (Limb.putF h1 (wd hk.rt 8) k o) = some hS from x2)
          generalize Limb.putF h1 (wd hk.rt 8) k o = h2 at *
          generalize wd hk.rt 8 = l8 at *
          generalize strOf (sels.getD k []) = sn at *
          clear hr hPk n1 n2 b1 b2 sl x1 x2 g1 i1 q1 g2 hIn hRt hPu HG HR
          go_wp2_with fail
          refine (HIn.out _ _ _ HC.out).mono ?_
          rintro e Y1 ⟨rfl, F1, hC⟩
          (try dsimp only)
          have HC2 := Lib.hid hC
          clear hC HC HIn cx ix
          go_wp2_with fail
          have hC := HC2.out.below (Below.refl _ Y1).drew
          have hX : BootRow Y1.drew F pb := hC.boot
          clear HC2
          refine wp_region_held (S := fun Y => BootRow Y F pb) (by kernel_rfl) ?_
          refine wpAnyH_take_at (i := 0) (v := .pointer (some ⟨pb, 0, none⟩)) 63 rfl rfl (by kernel_rfl) (by kernel_rfl) (by kernel_rfl) (fun _ _ _ h => h) (.inl ⟨rfl, fun X hX => by go_simp⟩) hX ?_
          simp only [Act.put, List.setIfInBounds_toArray, List.set_cons_zero, List.set_cons_succ]
          refine wpAnyH_take_at (i := 1) (v := .pointer (some ⟨pb, 0, none⟩)) 64 rfl rfl (by kernel_rfl) (by kernel_rfl) (by kernel_rfl) (fun _ _ _ h => h) (.inl ⟨rfl, fun X hX => by go_simp⟩) hX ?_
          simp only [Act.put, List.setIfInBounds_toArray, List.set_cons_zero, List.set_cons_succ]
          refine wpAnyH_take_at (i := 2) (v := .pointer (some ⟨pb, 0, none⟩)) 65 rfl rfl (by kernel_rfl) (by kernel_rfl) (by kernel_rfl) (fun _ _ _ h => h) (.inl ⟨rfl, fun X hX => by go_simp⟩) hX ?_
          simp only [Act.put, List.setIfInBounds_toArray, List.set_cons_zero, List.set_cons_succ]
          refine wpAnyH_take_at (i := 3) (v := .pointer (some ⟨F.p, 0, none⟩)) 66 rfl rfl (by kernel_rfl) (by kernel_rfl) (by kernel_rfl) (fun _ _ _ h => h) (.inl ⟨rfl, fun X hX => by have c0 := (BootRow.cells hX).1; go_simp⟩) hX ?_
          simp only [Act.put, List.setIfInBounds_toArray, List.set_cons_zero, List.set_cons_succ]
          refine wpAnyH_take_at (i := 4) (v := .pointer (some ⟨pb, 0, none⟩)) 67 rfl rfl (by kernel_rfl) (by kernel_rfl) (by kernel_rfl) (fun _ _ _ h => h) (.inl ⟨rfl, fun X hX => by go_simp⟩) hX ?_
          simp only [Act.put, List.setIfInBounds_toArray, List.set_cons_zero, List.set_cons_succ]
          refine wpAnyH_take_at (i := 5) (v := .pointer (some ⟨pb, 0, none⟩)) 68 rfl rfl (by kernel_rfl) (by kernel_rfl) (by kernel_rfl) (fun _ _ _ h => h) (.inl ⟨rfl, fun X hX => by go_simp⟩) hX ?_
          simp only [Act.put, List.setIfInBounds_toArray, List.set_cons_zero, List.set_cons_succ]
          refine wpAnyH_take_at (i := 6) (v := .pointer (some ⟨pb, 0, none⟩)) 69 rfl rfl (by kernel_rfl) (by kernel_rfl) (by kernel_rfl) (fun _ _ _ h => h) (.inl ⟨rfl, fun X hX => by go_simp⟩) hX ?_
          simp only [Act.put, List.setIfInBounds_toArray, List.set_cons_zero, List.set_cons_succ]
          refine wpAnyH_take_at (i := 7) (v := .pointer (some ⟨F.p, 0, none⟩)) 70 rfl rfl (by kernel_rfl) (by kernel_rfl) (by kernel_rfl) (fun _ _ _ h => h) (.inl ⟨rfl, fun X hX => by have c0 := (BootRow.cells hX).1; go_simp⟩) hX ?_
          simp only [Act.put, List.setIfInBounds_toArray, List.set_cons_zero, List.set_cons_succ]
          refine wpAnyH_take_at (i := 9) (v := .int .i64 k) 72 rfl rfl (by kernel_rfl) (by kernel_rfl) (by kernel_rfl) (fun _ _ _ h => h) (.inl ⟨rfl, fun X hX => by go_simp⟩) hX ?_
          simp only [Act.put, List.setIfInBounds_toArray, List.set_cons_zero, List.set_cons_succ]
          refine wpAnyH_take_at (i := 10) (v := .int .u32 o) 73 rfl rfl (by kernel_rfl) (by kernel_rfl) (by kernel_rfl) (fun _ _ _ h => h) (.inl ⟨rfl, fun X hX => by go_simp⟩) hX ?_
          simp only [Act.put, List.setIfInBounds_toArray, List.set_cons_zero, List.set_cons_succ]
          refine wpAnyH_all (rs := [8]) (by kernel_rfl) (by decide) (fun i hi => ?_)
          rw [List.mem_singleton] at hi
          subst hi
          unfold wpOp
          go_simp
          refine .inl ((HRt.out _ _ _ hC).mono ?_)
          rintro e X1 ⟨rfl, hb⟩
          replace hC := hC.below hb
          replace hX := hC.boot
          clear hb
          refine ⟨hX, ?_⟩
          refine wpAnyH_all (rs := [11]) (by kernel_rfl) (by decide) (fun i hi => ?_)
          rw [List.mem_singleton] at hi
          subst hi
          unfold wpOp
          go_simp
          refine .inl ((HPu.out _ _ _ hC).mono ?_)
          rintro e X2 ⟨rfl, F3, hC⟩
          replace hX := hC.boot
          refine ⟨hX, ?_⟩
          refine wpAnyH_done (by kernel_rfl) ?_ _
          have HC3 := Lib.hid hC
          clear hX hC HRt HPu
          go_wp2_with fail
          go_roundw
          case rel => exact ⟨k + 1, F3, h2, h0, by simp, HC3, HG2, HR2⟩
          case measure => simp [RowKit.intOf]; omega
        · obtain rfl : k = 11 := by omega
          rw [show ((11 : Nat) : Int) = 11 from rfl]
          have hr := HR.out
          have e1 : selAll 11 (sels.drop 11) hk = some hk := rfl
          rw [e1] at hr
          have hr2 := Option.some.inj hr
          have hg := HG.out
          have hc := HC.out
          rw [hr2] at hg hc
          have HG2 := Lib.hid hg
          clear hr e1 hr2 HR hg HC HG
          go_wp2_with fail
          refine (HPl.out _).mono ?_
          rintro e X3 ⟨⟨g2, vs2, rfl, hPl, hg⟩, hB⟩
          (try dsimp only)
          have HC2 := Lib.hid ((hc.below hB).with (keeps_plans g2 vs2) hPl)
          clear hc hB hPl hg HPl
          go_wp2_with fail
          go_loopw [78] (fun i wr => ∃ (k : Nat) (F' : Foot) (hk : Hp), k ≤ 22 ∧ i = .int .i64 k ∧ Hid (CN w F pb (fun X => PlansAt X g2 vs2) wr F' hk) ∧ Hid (Limb.Grow h hk) ∧ Hid (fieldAll k (plans.drop k) hk = some hE)) (fun i _ => 22 - (RowKit.intOf i).toNat)
          case atStart => exact ⟨0, F', hS, Nat.zero_le _, rfl, HC2, HG2, HF0⟩
          case round =>
            clear HC2 HG2 HF0 F' hk
            obtain ⟨k, F', hk, hkn, rfl, HC, HG, HR⟩ := hrel
            by_cases h0 : k < 22
            · have d1 : decide ((k : Int) < 22) = true := decide_eq_true (by omega)
              have d2 : decide (k < 22) = true := decide_eq_true h0
              have hr := HR.out
              rw [plans_drop h0] at hr
              have hPk := HPP.out.grow HG.out
              obtain ⟨n1, n2, n3, n4, n5⟩ := plan_names k h0
              obtain ⟨p0, p1, p2, p3, p4⟩ := HC.out.ex.cells h0
              have hfa := HC.out.ex.2.2 k h0
              replace p0 : wr.cell? ⟨g2, 5 * k, none⟩ = some (.string (strOf (plans.getD k ⟨[], 0, 0, false, []⟩).name)) := p0
              have ix := fun W => index_by (P := Tryz.prog) 5 (by decide) 77 81 Tryz.underlying77 size_plan g2 22 22 W .i64 k h0
              generalize plans.getD k ⟨[], 0, 0, false, []⟩ = p at *
              have c1 := (BootRow.cells HC.out.boot).2
              have icl := hPk.cls k h0
              by_cases hf0 : p.fields = []
              · have hr2 : fieldAll (k + 1) (plans.drop (k + 1)) hk = some hE := by
                  have : (if p.fields = [] then fieldAll (k + 1) (plans.drop (k + 1)) hk else (ownF hk (wd hk.rt (10 + k)) p.fields).bind (fieldAll (k + 1) (plans.drop (k + 1)))) = some hE := hr
                  rwa [if_pos hf0] at this
                have hv : vs2.getD k undef = .slice none 0 0 := by rcases hfa with x | x; exact x.2; exact absurd hf0 x.1
                rw [hv] at p4
                have HR2 := Lib.hid hr2
                generalize strOf p.name = sn at *
                generalize supV p.sup = sq at *
                generalize ((p.fmt : Nat) : Int) = fm at *
                generalize p.idx = ix0 at *
                clear hr hPk n1 n2 n3 n4 n5 hfa icl hf0 hr2 hv HR
                obtain ⟨Y0, hY0, rp, hbY, hzY⟩ := alloc_row wr 81 [.string sn, .int .i64 sq, .int .i64 fm, .bool ix0, .slice none 0 0]
                have HY0 := Lib.hid hY0
                have hC := (HC.out.below hbY)
                have HC1 := Lib.hid hC
                clear hY0 hbY hzY hC rp HC
                go_wp2_with fail
                rw [← HY0.out]
                clear HY0
                go_roundw
                case rel => exact ⟨k + 1, F', hk, h0, by simp, HC1, HG, HR2⟩
                case measure => simp [RowKit.intOf]; omega
              · obtain ⟨h1, x1, x2⟩ : ∃ h1, ownF hk (wd hk.rt (10 + k)) p.fields = some h1 ∧ fieldAll (k + 1) (plans.drop (k + 1)) h1 = some hE := by
                  have : (if p.fields = [] then fieldAll (k + 1) (plans.drop (k + 1)) hk else (ownF hk (wd hk.rt (10 + k)) p.fields).bind (fieldAll (k + 1) (plans.drop (k + 1)))) = some hE := hr
                  rw [if_neg hf0] at this
                  exact Option.bind_eq_some_iff.1 this
                obtain ⟨gf, hv, rf⟩ : ∃ gf, vs2.getD k undef = .slice (some ⟨gf, 0, none⟩) p.fields.length p.fields.length ∧ Row wr gf 9 (p.fields.map sv) := by
                  rcases hfa with x | ⟨_, gf, y1, y2⟩
                  · exact absurd x.1 hf0
                  · exact ⟨gf, y1, y2⟩
                rw [hv] at p4
                have hnf : 0 < p.fields.length := List.length_pos_iff.2 hf0
                obtain ⟨nf, hnf2⟩ : ∃ nf, nf = p.fields.length := ⟨_, rfl⟩
                rw [← hnf2] at p4
                have d3 : decide ((0 : Int) < (nf : Int)) = true := decide_eq_true (by omega)
                have d4 : decide (0 < nf) = true := decide_eq_true (by omega)
                have g1 := grow_ownF hPk.good n4 n5 icl x1
                have hCl := fun R Y F1 (cn : CN w F pb R Y F1 hk) => show Calls Tryz.prog 33 #[.pointer (some ⟨pb, 0, none⟩), .int .i64 (10 + (k : Int))] Y fun e X' => e = .returned (.int .u32 (wd hk.rt (10 + k) : Nat)) ∧ Below Y.heap.size Y X' from by
                  have := cn_class cn (10 + k) (by omega)
                  rw [Int.natCast_add] at this; exact this
                have hOw := fun R Y F1 (cn : CN w F pb R Y F1 hk) (rf : Row Y gf 9 (p.fields.map sv)) => cn_own cn hPk.ker (wd hk.rt (10 + k)) icl p.fields nf gf hnf2 (by omega) (by omega) rf n3 h1 x1
                have HCl := Lib.hid hCl
                have HOw := Lib.hid hOw
                have HG2 := Lib.hid (HG.out.trans g1)
                have HR2 := Lib.hid x2
                obtain ⟨fl, hfl⟩ : ∃ fl, fl = p.fields.map sv := ⟨_, rfl⟩
                rw [← hfl] at rf HOw
                generalize wd hk.rt (10 + k) = c at *
                generalize strOf p.name = sn at *
                generalize supV p.sup = sq at *
                generalize ((p.fmt : Nat) : Int) = fm at *
                generalize p.idx = ix0 at *
                clear hr hPk n1 n2 n3 n4 n5 hfa icl hf0 hv HR x1 x2 hnf hnf2 g1 hCl hOw HG hfl
                obtain ⟨Y0, hY0, rp, hbY, hzY⟩ := alloc_row wr 81 [.string sn, .int .i64 sq, .int .i64 fm, .bool ix0, .slice (some ⟨gf, 0, none⟩) nf nf]
                have HY0 := Lib.hid hY0
                obtain ⟨pc, hpc⟩ : ∃ pc, pc = wr.heap.size := ⟨_, rfl⟩
                rw [← hpc] at rp
                have HPC := Lib.hid hpc
                have hC := (HC.out.below hbY)
                have HC1 := Lib.hid (hC.with (hC.keeps.and ((keeps_row pc 81 [.string sn, .int .i64 sq, .int .i64 fm, .bool ix0, .slice (some ⟨gf, 0, none⟩) nf nf] (by decide) (by decide) (by decide) (by decide)).and (keeps_row gf 9 fl (by decide) (by decide) (by decide) (by decide)))) ⟨hC.ex, rp, rf.below hbY rf.lt⟩)
                have hlt := (Row.lt HC.out.boot)
                clear hY0 hbY hzY hpc hC rp rf HC
                go_wp2_with fail
                rw [← HY0.out, ← HPC.out]
                have hC := HC1.out.below (Below.refl _ Y0).drew
                have hX : BootRow Y0.drew F pb ∧ Row Y0.drew pc 81 [.string sn, .int .i64 sq, .int .i64 fm, .bool ix0, .slice (some ⟨gf, 0, none⟩) nf nf] := ⟨hC.boot, hC.ex.2.1⟩
                clear HC1 HY0 hlt c1
                refine wp_region_held (S := fun Y => BootRow Y F pb ∧ Row Y pc 81 [.string sn, .int .i64 sq, .int .i64 fm, .bool ix0, .slice (some ⟨gf, 0, none⟩) nf nf]) (by kernel_rfl) ?_
                refine wpAnyH_take_at (i := 0) (v := .pointer (some ⟨pb, 0, none⟩)) 94 rfl rfl (by kernel_rfl) (by kernel_rfl) (by kernel_rfl) (fun _ _ _ h => h) (.inl ⟨rfl, fun X hX => by go_simp⟩) hX ?_
                simp only [Act.put, List.setIfInBounds_toArray, List.set_cons_zero, List.set_cons_succ]
                refine wpAnyH_take_at (i := 1) (v := .pointer (some ⟨pb, 0, none⟩)) 95 rfl rfl (by kernel_rfl) (by kernel_rfl) (by kernel_rfl) (fun _ _ _ h => h) (.inl ⟨rfl, fun X hX => by go_simp⟩) hX ?_
                simp only [Act.put, List.setIfInBounds_toArray, List.set_cons_zero, List.set_cons_succ]
                refine wpAnyH_take_at (i := 2) (v := .pointer (some ⟨pb, 0, none⟩)) 96 rfl rfl (by kernel_rfl) (by kernel_rfl) (by kernel_rfl) (fun _ _ _ h => h) (.inl ⟨rfl, fun X hX => by go_simp⟩) hX ?_
                simp only [Act.put, List.setIfInBounds_toArray, List.set_cons_zero, List.set_cons_succ]
                refine wpAnyH_take_at (i := 3) (v := .pointer (some ⟨pb, 0, none⟩)) 97 rfl rfl (by kernel_rfl) (by kernel_rfl) (by kernel_rfl) (fun _ _ _ h => h) (.inl ⟨rfl, fun X hX => by go_simp⟩) hX ?_
                simp only [Act.put, List.setIfInBounds_toArray, List.set_cons_zero, List.set_cons_succ]
                refine wpAnyH_take_at (i := 4) (v := .pointer (some ⟨F.p, 0, none⟩)) 98 rfl rfl (by kernel_rfl) (by kernel_rfl) (by kernel_rfl) (fun _ _ _ h => h) (.inl ⟨rfl, fun X hX => by have c0 := (BootRow.cells hX.1).1; go_simp⟩) hX ?_
                simp only [Act.put, List.setIfInBounds_toArray, List.set_cons_zero, List.set_cons_succ]
                refine wpAnyH_take_at (i := 5) (v := .pointer (some ⟨pb, 0, none⟩)) 99 rfl rfl (by kernel_rfl) (by kernel_rfl) (by kernel_rfl) (fun _ _ _ h => h) (.inl ⟨rfl, fun X hX => by go_simp⟩) hX ?_
                simp only [Act.put, List.setIfInBounds_toArray, List.set_cons_zero, List.set_cons_succ]
                refine wpAnyH_take_at (i := 6) (v := .int .i64 k) 100 rfl rfl (by kernel_rfl) (by kernel_rfl) (by kernel_rfl) (fun _ _ _ h => h) (.inl ⟨rfl, fun X hX => by go_simp⟩) hX ?_
                simp only [Act.put, List.setIfInBounds_toArray, List.set_cons_zero, List.set_cons_succ]
                refine wpAnyH_take_at (i := 7) (v := .int .i64 (10 + (k : Int))) 101 rfl rfl (by kernel_rfl) (by kernel_rfl) (by kernel_rfl) (fun _ _ _ h => h) (.inl ⟨rfl, fun X hX => by go_simp; (first | done | exact i64_self (by omega) (by omega) | omega)⟩) hX ?_
                simp only [Act.put, List.setIfInBounds_toArray, List.set_cons_zero, List.set_cons_succ]
                refine wpAnyH_take_at (i := 9) (v := .pointer (some ⟨pc, 4, none⟩)) 103 rfl rfl (by kernel_rfl) (by kernel_rfl) (by kernel_rfl) (fun _ _ _ h => h) (.inl ⟨rfl, fun X hX => by go_simp⟩) hX ?_
                simp only [Act.put, List.setIfInBounds_toArray, List.set_cons_zero, List.set_cons_succ]
                refine wpAnyH_take_at (i := 10) (v := .slice (some ⟨gf, 0, none⟩) nf nf) 104 rfl rfl (by kernel_rfl) (by kernel_rfl) (by kernel_rfl) (fun _ _ _ h => h) (.inl ⟨rfl, fun X hX => by have q := hX.2.cell_at 4; simp only [List.getElem?_cons_zero, List.getElem?_cons_succ] at q; go_simp⟩) hX ?_
                simp only [Act.put, List.setIfInBounds_toArray, List.set_cons_zero, List.set_cons_succ]
                refine wpAnyH_all (rs := [8]) (by kernel_rfl) (by decide) (fun i hi => ?_)
                rw [List.mem_singleton] at hi
                subst hi
                unfold wpOp
                go_simp
                refine .inl ((HCl.out _ _ _ hC).mono ?_)
                rintro e X1 ⟨rfl, hb⟩
                replace hC := hC.below hb
                replace hX := (⟨hC.boot, hC.ex.2.1⟩ : _ ∧ _)
                clear hb
                refine ⟨hX, ?_⟩
                refine wpAnyH_all (rs := [11]) (by kernel_rfl) (by decide) (fun i hi => ?_)
                rw [List.mem_singleton] at hi
                subst hi
                unfold wpOp
                go_simp
                refine .inl ((HOw.out _ _ _ hC hC.ex.2.2).mono ?_)
                rintro e X2 ⟨rfl, F4, hC⟩
                replace hX := (⟨hC.boot, hC.ex.2.1⟩ : _ ∧ _)
                refine ⟨hX, ?_⟩
                refine wpAnyH_take_at (i := 12) (v := .pointer (some ⟨pb, 0, none⟩)) 106 rfl rfl (by kernel_rfl) (by kernel_rfl) (by kernel_rfl) (fun _ _ _ h => h) (.inl ⟨rfl, fun X hX => by go_simp⟩) hX ?_
                simp only [Act.put, List.setIfInBounds_toArray, List.set_cons_zero, List.set_cons_succ]
                refine wpAnyH_take_at (i := 13) (v := .pointer (some ⟨pb, 1, none⟩)) 107 rfl rfl (by kernel_rfl) (by kernel_rfl) (by kernel_rfl) (fun _ _ _ h => h) (.inl ⟨rfl, fun X hX => by go_simp⟩) hX ?_
                simp only [Act.put, List.setIfInBounds_toArray, List.set_cons_zero, List.set_cons_succ]
                refine wpAnyH_all (rs := [14]) (by kernel_rfl) (by decide) (fun i hi => ?_)
                rw [List.mem_singleton] at hi
                subst hi
                have c1 := (BootRow.cells hX.1).2
                have zz := Row.free hX.1 1
                have hself := cell_self (i := 1) hX.1 rfl
                have HXX := Lib.hid hX
                clear hX
                unfold wpOp
                go_simp
                have hX := HXX.out
                refine .inl ⟨hX, ?_⟩
                refine wpAnyH_done (by kernel_rfl) ?_ _
                have HC6 := Lib.hid (hC.with (keeps_plans g2 vs2) hC.ex.1)
                clear hX HXX hC HOw HCl zz hself
                go_wp2_with fail
                go_roundw
                case rel => exact ⟨k + 1, F4, h1, h0, by simp, HC6, HG2, HR2⟩
                case measure => simp [RowKit.intOf]; omega
            · obtain rfl : k = 22 := by omega
              have hr := HR.out
              have e1 : fieldAll 22 (plans.drop 22) hk = some hk := rfl
              rw [e1] at hr
              have hr2 := Option.some.inj hr
              have hc := HC.out
              rw [hr2] at hc
              have HM := Lib.hid (show Moved w F wr hE from ⟨F', hc.st⟩)
              clear hr e1 hr2 hc HC HG HR
              go_wp2_with fail
              go_returns
              exact ⟨rfl, HM.out⟩
end
end Go.Proofs.YteiikhcadjdkcaaGreatDoor
