/- The walk of the booter's classes. -/
import Derived.Test.YteiikhcadjdkcaaGreatDoorGX41
set_option linter.unusedVariables false
set_option linter.unusedSimpArgs false
namespace Go.Proofs.YteiikhcadjdkcaaGreatDoor
open Go Go.RowKit Limb
theorem tenOn_drop {k : Nat} (hk : k < 22) : tenOn.drop k = (10 + k) :: tenOn.drop (k + 1) := by
  have h2 : ∀ i, i < 22 → tenOn.drop i = (10 + i) :: tenOn.drop (i + 1) := by decide
  exact h2 k hk
theorem plans_drop {k : Nat} (hk : k < 22) : plans.drop k = plans.getD k ⟨[], 0, 0, false, []⟩ :: plans.drop (k + 1) := by
  have : k < plans.length := hk
  rw [List.drop_eq_getElem_cons this, List.getD_eq_getElem?_getD, List.getElem?_eq_getElem this]; rfl
theorem set_at {α : Type} (d : List α) (n : Nat) (z m : α) (h : 0 < n) : (d ++ List.replicate n z).set d.length m = d ++ [m] ++ List.replicate (n - 1) z := by
  obtain ⟨j, rfl⟩ : ∃ j, n = j + 1 := ⟨n - 1, by omega⟩
  rw [List.set_append_right _ _ (Nat.le_refl _), Nat.sub_self, List.replicate_succ, List.set_cons_zero, List.append_assoc]; rfl
theorem plan_bounds : ∀ k, k < 22 → (plans.getD k ⟨[], 0, 0, false, []⟩).fmt ≤ 4 ∧ ((plans.getD k ⟨[], 0, 0, false, []⟩).sup = 0 ∨ (10 ≤ (plans.getD k ⟨[], 0, 0, false, []⟩).sup ∧ (plans.getD k ⟨[], 0, 0, false, []⟩).sup < 32)) := by decide
section
variable {w : World} {F : Foot} {h : Hp}
set_option maxHeartbeats 6400000 in
set_option maxRecDepth 1000000 in
theorem booter_classes (H : HeapAt w F h) {pb : Nat} (rb : BootRow w F pb) (ms : List Nat) (hP : Hp) (hp : pairsP tenOn h = some (ms, hP)) (PP : Limb.Paired hP ms) :
    Calls Tryz.prog 17 #[.pointer (some ⟨pb, 0, none⟩)] w fun e w' => e = .returned (.tuple #[]) ∧ Moved w F w' (clsAll bareCls (wireAll ms 0 plans hP)) := by
  have HPl := Lib.hid (kernel_plans w)
  obtain ⟨hE, hhE⟩ : ∃ hE, hE = clsAll bareCls (wireAll ms 0 plans hP) := ⟨_, rfl⟩
  rw [← hhE]
  have HE := Lib.hid hhE
  have HH := Lib.hid H
  have RB := Lib.hid rb
  have e00 : pairsP (tenOn.drop 0) h = some (ms, hP) := hp
  have HP0 := Lib.hid e00
  have HPP := Lib.hid PP
  have c0 := (BootRow.cells rb).1
  have c1 := (BootRow.cells rb).2
  have hFl : ∀ q ∈ F.l, q < w.heap.size := H.lt
  have HFl := Lib.hid hFl
  have h5w : 5 ≤ w.heap.size := by have := H.lt F.p (mem_p F); have := H.low; omega
  clear hhE hp e00 PP H rb hFl
  go_enter Tryz.func17, Tryz.ntmps17
  go_wp2_with fail
  refine (HPl.out).mono ?_
  rintro e X1 ⟨⟨g, vs, rfl, hPl, hg⟩, hB⟩
  (try dsimp only)
  have HPl1 := Lib.hid hPl
  clear hPl HPl hg
  go_wp2_with (at_make; refine wpList_make_row rfl _ _ _ rfl 30 (.int .u32 0) 4 Tryz.underlying53 info_oop rfl _ _ _ _ 22 22 rfl rfl rfl rfl (by decide) (by decide) (by decide) ?_; intro B0 gm hg1 hg2 hrow hbel)
  have hB0 := hB.trans (hbel.mono hB.size)
  have hsz := hB.size
  have hcw : CW B0 F gm g pb none vs (List.replicate 22 0) B0 F h :=
    ⟨⟨fun e => by have := HFl.out gm e; omega, hrow.lt, by omega⟩, StepC.refl (HH.out.below hB0), Row.below RB.out hB0 (Row.lt RB.out), HPl1.out.below hbel, by rw [show List.replicate 22 (Value.int .u32 0) = nums .u32 (List.replicate 22 0) from (nums_replicate .u32 22).symm] at hrow; exact hrow, trivial⟩
  have HBB := Lib.hid hB0
  have HGm := Lib.hid (show w.heap.size ≤ gm by omega)
  have HCW := Lib.hid hcw
  clear hrow hbel hB0 hcw hB HPl1 RB HH c0 c1 hg1 hg2 hsz HFl h5w
  go_loopw [20] (fun i wr => ∃ (k : Nat) (F' : Foot) (hk : Hp) (dn rest : List Nat), k ≤ 22 ∧ i = .int .i64 k ∧ Hid (CW B0 F gm g pb none vs (dn ++ List.replicate (22 - k) 0) wr F' hk) ∧ Hid (dn.length = k) ∧ Hid (pairsP (tenOn.drop k) hk = some (rest, hP)) ∧ Hid (dn ++ rest = ms)) (fun i _ => 22 - (RowKit.intOf i).toNat)
  case atStart => exact ⟨0, F, h, [], ms, Nat.zero_le _, rfl, HCW, Lib.hid rfl, HP0, Lib.hid rfl⟩
  case round =>
    clear HCW HP0
    obtain ⟨k, F', hk, dn, rest, hkn, rfl, HC, HL, HR, HM⟩ := hrel
    by_cases h0 : k < 22
    · have d1 : decide ((k : Int) < 22) = true := decide_eq_true (by omega)
      have d2 : decide (k < 22) = true := decide_eq_true h0
      have hr := HR.out
      rw [tenOn_drop h0] at hr
      obtain ⟨h1, x1, x2⟩ := Option.bind_eq_some_iff.1 hr
      obtain ⟨⟨m, h2⟩, x3, x4⟩ := Option.bind_eq_some_iff.1 x2
      obtain ⟨⟨r', h3⟩, x5, x6⟩ := Option.map_eq_some_iff.1 x4
      rw [Prod.mk.injEq] at x6
      obtain ⟨rfl, rfl⟩ := x6
      obtain ⟨⟨o, hA⟩, x7, x8⟩ := Option.map_eq_some_iff.1 x1
      obtain ⟨gA, iA⟩ := grow_alloc HC.out.hp.good (by decide) (by decide) (by decide) x7
      have HAl := Lib.hid (fun Y F1 (c : CW B0 F gm g pb none vs (dn ++ List.replicate (22 - k) 0) Y F1 hk) => cw_alloc c 6 o hA (by decide) x7)
      have HSr := Lib.hid (fun Y F1 (c : CW B0 F gm g pb none vs (dn ++ List.replicate (22 - k) 0) Y F1 hA) => show Calls Tryz.prog 14 #[.pointer (some ⟨F.p, 0, none⟩), .int .i64 (10 + (k : Int)), .int .u32 o] Y fun e X' => e = .returned (.int .i64 0) ∧ ∃ F'', CW B0 F gm g pb none vs (dn ++ List.replicate (22 - k) 0) X' F'' h1 from by
        have := cw_setroot c (10 + k) (by omega) o (isO_lt gA.good (isF_isO iA)) (isO_val (isF_isO iA))
        rw [Int.natCast_add] at this
        rw [← x8]; exact this)
      have HA2 := Lib.hid (fun Y F1 (c : CW B0 F gm g pb none vs (dn ++ List.replicate (22 - k) 0) Y F1 h1) => cw_alloc c 6 m h2 (by decide) x3)
      have HR2 := Lib.hid x5
      have HM2 := Lib.hid (show (dn ++ [m]) ++ r' = ms by rw [← HM.out, List.append_assoc]; rfl)
      have HL2 := Lib.hid (show (dn ++ [m]).length = k + 1 by rw [List.length_append, HL.out]; rfl)
      have HSet := Lib.hid (show (dn ++ List.replicate (22 - k) 0).set k m = (dn ++ [m]) ++ List.replicate (22 - (k + 1)) 0 by
        have := set_at dn (22 - k) 0 m (by omega)
        rw [HL.out] at this; rw [this, Nat.sub_sub])
      have HLen := Lib.hid (show (dn ++ List.replicate (22 - k) 0).length = 22 by rw [List.length_append, HL.out, List.length_replicate]; omega)
      clear hr x1 x2 x3 x4 x5 x7 x8 gA iA HR HM HL
      generalize dn ++ List.replicate (22 - k) 0 = cur at *
      have c0 := (BootRow.cells HC.out.boot).1
      have hC := HC.out.below (Below.refl _ wr).drew
      clear HC
      go_wp2_with fail
      have hX : BootRow wr.drew F pb := hC.boot
      refine wp_region_held (S := fun Y => BootRow Y F pb) (by kernel_rfl) ?_
      refine wpAnyH_take_at (i := 0) (v := .pointer (some ⟨pb, 0, none⟩)) 23 rfl rfl (by kernel_rfl) (by kernel_rfl) (by kernel_rfl) (fun _ _ _ h => h) (.inl ⟨rfl, fun X hX => by go_simp⟩) hX ?_
      simp only [Act.put, List.setIfInBounds_toArray, List.set_cons_zero, List.set_cons_succ]
      refine wpAnyH_take_at (i := 1) (v := .pointer (some ⟨pb, 0, none⟩)) 24 rfl rfl (by kernel_rfl) (by kernel_rfl) (by kernel_rfl) (fun _ _ _ h => h) (.inl ⟨rfl, fun X hX => by go_simp⟩) hX ?_
      simp only [Act.put, List.setIfInBounds_toArray, List.set_cons_zero, List.set_cons_succ]
      refine wpAnyH_take_at (i := 2) (v := .pointer (some ⟨pb, 0, none⟩)) 25 rfl rfl (by kernel_rfl) (by kernel_rfl) (by kernel_rfl) (fun _ _ _ h => h) (.inl ⟨rfl, fun X hX => by go_simp⟩) hX ?_
      simp only [Act.put, List.setIfInBounds_toArray, List.set_cons_zero, List.set_cons_succ]
      refine wpAnyH_take_at (i := 3) (v := .pointer (some ⟨F.p, 0, none⟩)) 26 rfl rfl (by kernel_rfl) (by kernel_rfl) (by kernel_rfl) (fun _ _ _ h => h) (.inl ⟨rfl, fun X hX => by have c0 := (BootRow.cells hX).1; go_simp⟩) hX ?_
      simp only [Act.put, List.setIfInBounds_toArray, List.set_cons_zero, List.set_cons_succ]
      refine wpAnyH_take_at (i := 4) (v := .int .i64 k) 27 rfl rfl (by kernel_rfl) (by kernel_rfl) (by kernel_rfl) (fun _ _ _ h => h) (.inl ⟨rfl, fun X hX => by go_simp⟩) hX ?_
      simp only [Act.put, List.setIfInBounds_toArray, List.set_cons_zero, List.set_cons_succ]
      refine wpAnyH_take_at (i := 5) (v := .int .i64 (10 + (k : Int))) 28 rfl rfl (by kernel_rfl) (by kernel_rfl) (by kernel_rfl) (fun _ _ _ h => h) (.inl ⟨rfl, fun X hX => by go_simp; (first | done | exact i64_self (by omega) (by omega) | omega)⟩) hX ?_
      simp only [Act.put, List.setIfInBounds_toArray, List.set_cons_zero, List.set_cons_succ]
      refine wpAnyH_take_at (i := 6) (v := .pointer (some ⟨pb, 0, none⟩)) 29 rfl rfl (by kernel_rfl) (by kernel_rfl) (by kernel_rfl) (fun _ _ _ h => h) (.inl ⟨rfl, fun X hX => by go_simp⟩) hX ?_
      simp only [Act.put, List.setIfInBounds_toArray, List.set_cons_zero, List.set_cons_succ]
      refine wpAnyH_all (rs := [7]) (by kernel_rfl) (by decide) (fun i hi => ?_)
      rw [List.mem_singleton] at hi
      subst hi
      unfold wpOp
      go_simp
      refine .inl ((HAl.out _ _ hC).mono ?_)
      rintro e X1 ⟨rfl, F1, hC⟩
      replace hX := hC.boot
      refine ⟨hX, ?_⟩
      refine wpAnyH_all (rs := [8]) (by kernel_rfl) (by decide) (fun i hi => ?_)
      rw [List.mem_singleton] at hi
      subst hi
      unfold wpOp
      go_simp
      refine .inl ((HSr.out _ _ hC).mono ?_)
      rintro e X2 ⟨rfl, F2, hC⟩
      replace hX := hC.boot
      refine ⟨hX, ?_⟩
      refine wpAnyH_done (by kernel_rfl) ?_ _
      have HC := Lib.hid hC
      clear hX HAl HSr c0 hC
      go_wp2_with fail
      refine (HA2.out _ _ HC.out).mono ?_
      rintro e Y1 ⟨rfl, F3, hC⟩
      (try dsimp only)
      have sl := hC.metas.sl (n := 22) (by rw [nums_length]; exact HLen.out.symm) (by decide)
      have ix := fun W => sl.index 53 Tryz.underlying53 size_oop W .i64 k h0
      have cx := hC.at (i := k) (by rw [HLen.out]; exact h0)
      have zx := hC.metas.free k
      have hst := hC.store k m
      rw [HSet.out] at hst
      have HC2 := Lib.hid hst
      clear hst sl hC HC
      go_wp2_with fail
      go_roundw
      case rel => exact ⟨k + 1, F3, h2, dn ++ [m], r', h0, by simp, HC2, HL2, HR2, HM2⟩
      case measure => simp [RowKit.intOf]; omega
    · obtain rfl : k = 22 := by omega
      rw [show ((22 : Nat) : Int) = 22 from rfl]
      have hr := HR.out
      have e1 : pairsP (tenOn.drop 22) hk = some ([], hk) := rfl
      rw [e1, Option.some.injEq, Prod.mk.injEq] at hr
      obtain ⟨e2, e3⟩ := hr
      subst e2
      obtain rfl : hP = hk := e3.symm
      have hm := HM.out
      rw [List.append_nil] at hm
      have hc := HC.out
      rw [show 22 - 22 = 0 from rfl, List.replicate_zero, List.append_nil] at hc
      have c1 := (BootRow.cells hc.boot).2
      have HC2 := Lib.hid hc
      clear e1 HC HR HM HL hc e3
      rw [hm] at HC2
      clear hm
      obtain ⟨hW, hhW⟩ : ∃ hW, hW = wireAll ms 0 plans hP := ⟨_, rfl⟩
      rw [← hhW] at HE
      have HW := Lib.hid hhW
      clear hhW
      go_wp2_with fail
      go_loopw [45] (fun i wr => ∃ (k : Nat) (F' : Foot) (hk : Hp), k ≤ 22 ∧ i = .int .i64 k ∧ Hid (CW B0 F gm g pb none vs ms wr F' hk) ∧ Hid (Limb.Grow hP hk) ∧ Hid (wireAll ms k (plans.drop k) hk = hW)) (fun i _ => 22 - (RowKit.intOf i).toNat)
      case atStart => exact ⟨0, F', hP, Nat.zero_le _, rfl, HC2, Lib.hid (Limb.Grow.refl HPP.out.good), Lib.hid HW.out.symm⟩
      case round =>
        clear HC2 HW F'
        obtain ⟨k, F', hq, hkn, rfl, HC, HG, HR⟩ := hrel
        by_cases h0 : k < 22
        · have d1 : decide ((k : Int) < 22) = true := decide_eq_true (by omega)
          have d2 : decide (k < 22) = true := decide_eq_true h0
          have hr := HR.out
          rw [plans_drop h0] at hr
          obtain ⟨pf4, psup⟩ := plan_bounds k h0
          have hPk : Limb.Paired hq ms := HPP.out.grow HG.out
          have icl := hPk.cls k h0
          have imt := hPk.met k h0
          have hcx : HeapAt wr F' hq := HC.out.hp
          obtain ⟨p0, p1, p2, p3, p4⟩ := HC.out.plans.cells h0
          have hfix := kernel_fixed (w := wr) HC.out.plans 6 k (by decide) h0 (deep_all k h0)
          have hwl : ∀ b, writtenN (plans.getD k ⟨[], 0, 0, false, []⟩).fmt (fixedN 6 (10 + k)) b < 100000 := fun b => writtenN_lt (by omega) (by have := fixedN_le 6 (10 + k); omega)
          have hfl := fixedN_le 6 (10 + k)
          obtain ⟨av, hvf⟩ := (HC.out.plans.2.2 k h0).slice
          rw [hvf] at p4
          replace p0 : wr.cell? ⟨g, 5 * k, none⟩ = some (.string (strOf (plans.getD k ⟨[], 0, 0, false, []⟩).name)) := p0
          generalize plans.getD k ⟨[], 0, 0, false, []⟩ = p at *
          obtain ⟨N, hN⟩ : ∃ N, N = 2 * writtenN p.fmt (fixedN 6 (10 + k)) p.idx + 1 := ⟨_, rfl⟩
          obtain ⟨c, hc⟩ : ∃ c, c = wd hq.rt (10 + k) := ⟨_, rfl⟩
          obtain ⟨m, hm⟩ : ∃ m, m = wd ms k := ⟨_, rfl⟩
          rw [← hc] at icl
          rw [← hm] at imt
          have hNl : N < 4294967296 := by have := hwl p.idx; omega
          have g1 := grow_put hPk.good (i := 4) (isF_le icl (by decide)) hNl
          obtain ⟨h1, hh1⟩ : ∃ x, x = Limb.putF hq c 4 N := ⟨_, rfl⟩
          rw [← hh1] at g1
          have g2 := grow_put g1.good (i := 4) (v := 99) (isF_le (g1.isF _ _ _ imt) (by decide)) (by decide)
          obtain ⟨h2, hh2⟩ : ∃ x, x = Limb.putF h1 m 4 99 := ⟨_, rfl⟩
          rw [← hh2] at g2
          have cO := isF_isO icl
          have mO := isF_isO imt
          have g3 := grow_put g2.good (i := 5) (v := c) (isF_le (g2.isF _ _ _ (g1.isF _ _ _ imt)) (by decide)) (isO_lt hPk.good cO)
          obtain ⟨h3, hh3⟩ : ∃ x, x = Limb.putF h2 m 5 c := ⟨_, rfl⟩
          rw [← hh3] at g3
          have r11 := isF_isO (hPk.cls 1 (by decide))
          have r12 := isF_isO (hPk.cls 2 (by decide))
          have g4 := grow_put g3.good (i := 1) (v := wd hq.rt 11) (isF_le (g3.isF _ _ _ (g2.isF _ _ _ (g1.isF _ _ _ imt))) (by decide)) (isO_lt hPk.good r11)
          obtain ⟨h4, hh4⟩ : ∃ x, x = Limb.putF h3 m 1 (wd hq.rt 11) := ⟨_, rfl⟩
          rw [← hh4] at g4
          have G1 := g1
          have G2 := G1.trans g2
          have G3 := G2.trans g3
          have G4 := G3.trans g4
          have HP1 := Lib.hid (fun rd Y F1 (cw : CW B0 F gm g pb rd vs ms Y F1 hq) => show Calls Tryz.prog 37 #[.pointer (some ⟨F.p, 0, none⟩), .int .u32 c, .int .i64 4, .int .u32 N] Y fun e X' => e = .returned (.int .i64 0) ∧ ∃ F'', CW B0 F gm g pb rd vs ms X' F'' h1 from by
            rw [hh1]; exact cw_put cw (i := 4) (isF_le icl (by decide)) (by decide) (by rw [hN]; exact val_odd _ _) hNl)
          have HP2 := Lib.hid (fun rd Y F1 (cw : CW B0 F gm g pb rd vs ms Y F1 h1) => show Calls Tryz.prog 37 #[.pointer (some ⟨F.p, 0, none⟩), .int .u32 m, .int .i64 4, .int .u32 99] Y fun e X' => e = .returned (.int .i64 0) ∧ ∃ F'', CW B0 F gm g pb rd vs ms X' F'' h2 from by
            rw [hh2]; exact cw_put cw (i := 4) (v := 99) (isF_le (G1.isF _ _ _ imt) (by decide)) (by decide) (val_odd _ 49) (by decide))
          have HP3 := Lib.hid (fun rd Y F1 (cw : CW B0 F gm g pb rd vs ms Y F1 h2) => show Calls Tryz.prog 37 #[.pointer (some ⟨F.p, 0, none⟩), .int .u32 m, .int .i64 5, .int .u32 c] Y fun e X' => e = .returned (.int .i64 0) ∧ ∃ F'', CW B0 F gm g pb rd vs ms X' F'' h3 from by
            rw [hh3]; exact cw_put cw (i := 5) (isF_le (G2.isF _ _ _ imt) (by decide)) (by decide) (G2.val (isO_val cO)) (isO_lt hPk.good cO))
          have HP4 := Lib.hid (fun rd Y F1 (cw : CW B0 F gm g pb rd vs ms Y F1 h3) => show Calls Tryz.prog 37 #[.pointer (some ⟨F.p, 0, none⟩), .int .u32 m, .int .i64 1, .int .u32 (wd hq.rt 11 : Nat)] Y fun e X' => e = .returned (.int .i64 0) ∧ ∃ F'', CW B0 F gm g pb rd vs ms X' F'' h4 from by
            rw [hh4]; exact cw_put cw (i := 1) (isF_le (G3.isF _ _ _ imt) (by decide)) (by decide) (G3.val (isO_val r11)) (isO_lt hPk.good r11))
          have HCl := Lib.hid (fun rd hx (er : hx.rt = hq.rt) Y F1 (cw : CW B0 F gm g pb rd vs ms Y F1 hx) (i : Nat) (hi : i < 64) => show Calls Tryz.prog 33 #[.pointer (some ⟨pb, 0, none⟩), .int .i64 i] Y fun e X' => e = .returned (.int .u32 (wd hq.rt i : Nat)) ∧ Below Y.heap.size Y X' from by
            rw [← er]; exact cw_class cw i hi)
          have E1 : h1.rt = hq.rt := G1.rt
          have E3 : h3.rt = hq.rt := G3.rt
          have E4 : h4.rt = hq.rt := G4.rt
          -- the ways' ends
          have HEnd := Lib.hid (fun h5 (G5 : Limb.Grow hq h5) => show (∀ rd Y F1, CW B0 F gm g pb rd vs ms Y F1 h5 → Calls Tryz.prog 38 #[.pointer (some ⟨F.p, 0, none⟩), .int .u32 c, .int .u32 m] Y fun e X' => e = .returned (.int .i64 0) ∧ ∃ F'', CW B0 F gm g pb rd vs ms X' F'' (Limb.setC h5 c m)) ∧
              (∀ rd Y F1, CW B0 F gm g pb rd vs ms Y F1 (Limb.setC h5 c m) → Calls Tryz.prog 39 #[.pointer (some ⟨pb, 0, none⟩), .int .u32 m, .int .i64 12] Y fun e X' => e = .returned (.tuple #[]) ∧ ∃ F'', CW B0 F gm g pb rd vs ms X' F'' (Limb.setC (Limb.setC h5 c m) m (wd hq.rt 12))) ∧ Limb.Grow hq (Limb.setC (Limb.setC h5 c m) m (wd hq.rt 12)) from by
            have G6 := G5.trans (grow_setC G5.good (G5.isO cO) (isO_cls (G5.isO mO)))
            have e6 : (Limb.setC h5 c m).rt = hq.rt := G6.rt
            refine ⟨fun rd Y F1 cw => cw_setclass cw (G5.isO cO) (G5.isO mO), fun rd Y F1 cw => ?_, G6.trans (grow_setC G6.good (G6.isO mO) (isO_cls (G6.isO r12)))⟩
            have := cw_of cw (i := 12) (by decide) (G6.isO mO) (by rw [e6]; exact G6.isO r12)
            rw [e6] at this; exact this)
          have HN0 := Lib.hid (fun (e : p.sup = 0) => show wireAll ms (k + 1) (plans.drop (k + 1)) (Limb.setC (Limb.setC h4 c m) m (wd hq.rt 12)) = hW from by
            have e2 : wireP hq ms k p = Limb.setC (Limb.setC h4 c m) m (wd hq.rt 12) := by
              unfold wireP
              simp only [if_pos e]
              rw [hh4, hh3, hh2, hh1, hN, hc, hm]; rfl
            rw [← e2]; exact hr)
          have HN1 := Lib.hid (fun (e : ¬ p.sup = 0) => show wireAll ms (k + 1) (plans.drop (k + 1)) (Limb.setC (Limb.setC (Limb.putF (Limb.putF h4 c 1 (wd hq.rt p.sup)) m 1 (wd ms (p.sup - 10))) c m) m (wd hq.rt 12)) = hW from by
            have e2 : wireP hq ms k p = Limb.setC (Limb.setC (Limb.putF (Limb.putF h4 c 1 (wd hq.rt p.sup)) m 1 (wd ms (p.sup - 10))) c m) m (wd hq.rt 12) := by
              unfold wireP
              simp only [if_neg e]
              rw [hh4, hh3, hh2, hh1, hN, hc, hm]; rfl
            rw [← e2]; exact hr)
          have HSup := Lib.hid (fun (e : ¬ p.sup = 0) => show (10 ≤ p.sup ∧ p.sup < 32) ∧ ∃ s t h5 h6, s = wd hq.rt p.sup ∧ t = wd ms (p.sup - 10) ∧ h5 = Limb.putF h4 c 1 s ∧ h6 = Limb.putF h5 m 1 t ∧ h5.rt = hq.rt ∧ Limb.Grow hq h6 ∧
              (∀ rd Y F1, CW B0 F gm g pb rd vs ms Y F1 h4 → Calls Tryz.prog 37 #[.pointer (some ⟨F.p, 0, none⟩), .int .u32 c, .int .i64 1, .int .u32 s] Y fun e X' => e = .returned (.int .i64 0) ∧ ∃ F'', CW B0 F gm g pb rd vs ms X' F'' h5) ∧
              (∀ rd Y F1, CW B0 F gm g pb rd vs ms Y F1 h5 → Calls Tryz.prog 37 #[.pointer (some ⟨F.p, 0, none⟩), .int .u32 m, .int .i64 1, .int .u32 t] Y fun e X' => e = .returned (.int .i64 0) ∧ ∃ F'', CW B0 F gm g pb rd vs ms X' F'' h6) from by
            have hb : 10 ≤ p.sup ∧ p.sup < 32 := by rcases psup with x | x; exact absurd x e; exact x
            have sO : isO hq (wd hq.rt p.sup) = true := by
              have := isF_isO (hPk.cls (p.sup - 10) (by omega))
              rwa [show 10 + (p.sup - 10) = p.sup by omega] at this
            have tO := isF_isO (hPk.met (p.sup - 10) (by omega))
            have q1 := isF_le (G4.isF _ _ _ icl) (show 1 + 1 ≤ 6 by decide)
            have G5 := G4.trans (grow_put G4.good q1 (isO_lt hPk.good sO))
            have q2 := isF_le (G5.isF _ _ _ imt) (show 1 + 1 ≤ 6 by decide)
            have G6 := G5.trans (grow_put G5.good q2 (isO_lt hPk.good tO))
            exact ⟨hb, _, _, _, _, rfl, rfl, rfl, rfl, G5.rt, G6, fun rd Y F1 cw => cw_put cw q1 (by decide) (G4.val (isO_val sO)) (isO_lt hPk.good sO), fun rd Y F1 cw => cw_put cw q2 (by decide) (G5.val (isO_val tO)) (isO_lt hPk.good tO)⟩)
          have HFx := Lib.hid (fun Y F1 hx rd (cw : CW B0 F gm g pb rd vs ms Y F1 hx) => show Calls Tryz.prog 36 #[.slice (some ⟨g, 0, none⟩) 22 22, .int .i64 k] Y fun e w' => e = .returned (.int .i64 (fixedN 6 (10 + k))) ∧ Y = w' from kernel_fixed cw.plans 6 k (by decide) h0 (deep_all k h0))
          have HWr := Lib.hid (fun Y => show Calls Tryz.prog 35 #[.agg #[.int .i64 p.fmt, .int .i64 (fixedN 6 (10 + k)), .bool p.idx]] Y fun e w' => e = .returned (.int .i64 (writtenN p.fmt (fixedN 6 (10 + k)) p.idx)) ∧ Below Y.heap.size Y w' from kernel_written Y p.fmt (fixedN 6 (10 + k)) p.idx (by omega) (by omega))
          have HSm := Lib.hid (fun Y => show Calls Tryz.prog 34 #[.int .i64 (writtenN p.fmt (fixedN 6 (10 + k)) p.idx)] Y fun e w' => e = .returned (.tuple #[.int .u32 N, .int .i64 0]) ∧ Y = w' from by
            have h5 := hwl p.idx
            have := oop_small Y (writtenN p.fmt (fixedN 6 (10 + k)) p.idx : Nat) (by unfold isSm; rw [decide_eq_true (by omega), decide_eq_true (by omega)]; rfl)
            rw [smallO_nat (by omega), ← hN] at this; exact this)
          have ix := fun W => index_by (P := Tryz.prog) 5 (by decide) 77 81 Tryz.underlying77 size_plan g 22 22 W .i64 k h0
          have HIm := Lib.hid (fun W j (hj : j < 22) => (HC.out.metas.sl (n := 22) (by rw [nums_length]; exact HPP.out.len.symm) (by decide)).index 53 Tryz.underlying53 size_oop W .i64 j hj)
          have HMt := Lib.hid (fun rd Y F1 hx (cw : CW B0 F gm g pb rd vs ms Y F1 hx) j (hj : j < 22) => show Y.cell? ⟨gm, j, none⟩ = some (.int .u32 (wd ms j : Nat)) from cw.at (by rw [HPP.out.len]; exact hj))
          have HGk := Lib.hid (fun hx (G : Limb.Grow hq hx) => show Limb.Grow hP hx from HG.out.trans G)
          have hcC : wd hq.rt (10 + k) = c := hc.symm
          have hmM : wd ms k = m := hm.symm
          have HcC := Lib.hid hcC
          have HmM := Lib.hid hmM
          obtain ⟨wn, hwn⟩ : ∃ wn, wn = writtenN p.fmt (fixedN 6 (10 + k)) p.idx := ⟨_, rfl⟩
          rw [← hwn] at HWr HSm
          generalize fixedN 6 (10 + k) = fx at *
          generalize strOf p.name = sn at *
          generalize p.fields.length = nf at *
          obtain ⟨sq, hsq⟩ : ∃ sq, sq = supV p.sup := ⟨_, rfl⟩
          rw [← hsq] at p1
          have HSQ := Lib.hid hsq
          clear hsq
          clear hwn hc hm hcC hmM hN hNl hwl hfl hfix hr g1 g2 g3 g4 G1 G2 G3 hh1 hh2 hh3 hh4 HR HG icl imt cO mO r11 r12 pf4 psup hPk hcx hvf
          obtain ⟨Y0, hY0, rp, hbY, hzY⟩ := alloc_row wr 81 [.string sn, .int .i64 sq, .int .i64 p.fmt, .bool p.idx, .slice av nf nf]
          have HY0 := Lib.hid hY0
          have hC := (HC.out.below hbY).ride rp
          obtain ⟨pc, hpc⟩ : ∃ pc, pc = wr.heap.size := ⟨_, rfl⟩
          rw [← hpc] at hC rp
          have HPC := Lib.hid hpc
          clear hY0 hbY hzY hpc
          go_wp2_with fail
          rw [← HY0.out, ← HPC.out]
          have hC0 := hC
          refine wp_region_calm (fun Y => Below Y0.heap.size Y0 Y) (by kernel_rfl) (by kernel_rfl) (Below.refl _ _).drew ?_
          show wpQuiet _ _ _ _ [_, _, _, _, _, _, _, _, _, _] _
          refine wpQuiet_at 50 (.pointer (some ⟨pb, 0, none⟩)) rfl (by kernel_rfl) (fun Y hC => ?_) ?_
          · go_simp
          simp only [Act.put, List.setIfInBounds_toArray, List.set_cons_zero, List.set_cons_succ]
          refine wpQuiet_at 51 (.int .i64 k) rfl (by kernel_rfl) (fun Y hC => ?_) ?_
          · go_simp
          simp only [Act.put, List.setIfInBounds_toArray, List.set_cons_zero, List.set_cons_succ]
          refine wpQuiet_at 52 (.int .i64 (10 + (k : Int))) rfl (by kernel_rfl) (fun Y hC => ?_) ?_
          · go_simp; (first | done | exact i64_self (by omega) (by omega) | omega)
          simp only [Act.put, List.setIfInBounds_toArray, List.set_cons_zero, List.set_cons_succ]
          refine wpQuiet_at 53 (.int .u32 c) rfl (by kernel_rfl) (fun Y hC => ?_) ?_
          · have hcl := HCl.out _ hq rfl _ _ (hC0.below hC) (10 + k) (by omega)
            rw [HcC.out, Int.natCast_add] at hcl
            go_simp
            exact hcl.mono fun e w' ⟨x, y⟩ => ⟨x, hC.trans (y.mono hC.size)⟩
          simp only [Act.put, List.setIfInBounds_toArray, List.set_cons_zero, List.set_cons_succ]
          refine wpQuiet_at 54 (.slice (some ⟨gm, 0, none⟩) 22 22) rfl (by kernel_rfl) (fun Y hC => ?_) ?_
          · go_simp
          simp only [Act.put, List.setIfInBounds_toArray, List.set_cons_zero, List.set_cons_succ]
          refine wpQuiet_at 55 (.int .i64 k) rfl (by kernel_rfl) (fun Y hC => ?_) ?_
          · go_simp
          simp only [Act.put, List.setIfInBounds_toArray, List.set_cons_zero, List.set_cons_succ]
          refine wpQuiet_at 56 (.pointer (some ⟨gm, k, none⟩)) rfl (by kernel_rfl) (fun Y hC => ?_) ?_
          · have ix2 := fun W => HIm.out W k h0
            go_simp
          simp only [Act.put, List.setIfInBounds_toArray, List.set_cons_zero, List.set_cons_succ]
          refine wpQuiet_at 57 (.int .u32 m) rfl (by kernel_rfl) (fun Y hC => ?_) ?_
          · have cx := HMt.out _ _ _ _ (hC0.below hC) k h0
            rw [HmM.out] at cx
            go_simp
          simp only [Act.put, List.setIfInBounds_toArray, List.set_cons_zero, List.set_cons_succ]
          refine wpQuiet_at 7 (.int .u32 c) rfl (by kernel_rfl) (fun Y hC => ?_) ?_
          · go_simp
          simp only [Act.put, List.setIfInBounds_toArray, List.set_cons_zero, List.set_cons_succ]
          refine wpQuiet_at 8 (.int .u32 m) rfl (by kernel_rfl) (fun Y hC => ?_) ?_
          · go_simp
          simp only [Act.put, List.setIfInBounds_toArray, List.set_cons_zero, List.set_cons_succ]
          refine wpQuiet_nil ?_
          intro Y1 hb12
          replace hC := hC.below hb12
          replace rp := rp.below hb12 rp.lt
          clear hb12 HY0
          go_wp2_with fail
          clear hC0
          have hC0 := hC
          refine wp_region_calm (fun Y => Below Y1.heap.size Y1 Y) (by kernel_rfl) (by kernel_rfl) (Below.refl _ _).drew ?_
          show wpQuiet _ _ _ _ [_, _, _, _, _, _, _, _, _, _, _, _, _, _, _] _
          refine wpQuiet_at 59 (.pointer (some ⟨pc, 2, none⟩)) rfl (by kernel_rfl) (fun Y hC => ?_) ?_
          · go_simp
          simp only [Act.put, List.setIfInBounds_toArray, List.set_cons_zero, List.set_cons_succ]
          refine wpQuiet_at 60 (.int .i64 p.fmt) rfl (by kernel_rfl) (fun Y hC => ?_) ?_
          · have q := (rp.below hC rp.lt).cell_at 2
            simp only [List.getElem?_cons_zero, List.getElem?_cons_succ] at q
            go_simp
          simp only [Act.put, List.setIfInBounds_toArray, List.set_cons_zero, List.set_cons_succ]
          refine wpQuiet_at 61 (.slice (some ⟨g, 0, none⟩) 22 22) rfl (by kernel_rfl) (fun Y hC => ?_) ?_
          · go_simp
          simp only [Act.put, List.setIfInBounds_toArray, List.set_cons_zero, List.set_cons_succ]
          refine wpQuiet_at 62 (.int .i64 k) rfl (by kernel_rfl) (fun Y hC => ?_) ?_
          · go_simp
          simp only [Act.put, List.setIfInBounds_toArray, List.set_cons_zero, List.set_cons_succ]
          refine wpQuiet_at 63 (.int .i64 fx) rfl (by kernel_rfl) (fun Y hC => ?_) ?_
          · have hf := HFx.out _ _ _ _ (hC0.below hC)
            go_simp
            exact hf.mono fun e w' ⟨x, y⟩ => ⟨x, by rw [← y]; exact hC⟩
          simp only [Act.put, List.setIfInBounds_toArray, List.set_cons_zero, List.set_cons_succ]
          refine wpQuiet_at 64 (.pointer (some ⟨pc, 3, none⟩)) rfl (by kernel_rfl) (fun Y hC => ?_) ?_
          · go_simp
          simp only [Act.put, List.setIfInBounds_toArray, List.set_cons_zero, List.set_cons_succ]
          refine wpQuiet_at 65 (.bool p.idx) rfl (by kernel_rfl) (fun Y hC => ?_) ?_
          · have q := (rp.below hC rp.lt).cell_at 3
            simp only [List.getElem?_cons_zero, List.getElem?_cons_succ] at q
            go_simp
          simp only [Act.put, List.setIfInBounds_toArray, List.set_cons_zero, List.set_cons_succ]
          refine wpQuiet_at 66 (.agg #[.int .i64 p.fmt, .int .i64 fx, .bool p.idx]) rfl (by kernel_rfl) (fun Y hC => ?_) ?_
          · go_simp
          simp only [Act.put, List.setIfInBounds_toArray, List.set_cons_zero, List.set_cons_succ]
          refine wpQuiet_at 67 (.int .i64 wn) rfl (by kernel_rfl) (fun Y hC => ?_) ?_
          · go_simp
            exact (HWr.out _).mono fun e w' ⟨x, y⟩ => ⟨x, hC.trans (y.mono hC.size)⟩
          simp only [Act.put, List.setIfInBounds_toArray, List.set_cons_zero, List.set_cons_succ]
          refine wpQuiet_at 68 (.tuple #[.int .u32 N, .int .i64 0]) rfl (by kernel_rfl) (fun Y hC => ?_) ?_
          · go_simp
            exact (HSm.out _).mono fun e w' ⟨x, y⟩ => ⟨x, by rw [← y]; exact hC⟩
          simp only [Act.put, List.setIfInBounds_toArray, List.set_cons_zero, List.set_cons_succ]
          refine wpQuiet_at 58 (.tuple #[.int .u32 N, .int .i64 0]) rfl (by kernel_rfl) (fun Y hC => ?_) ?_
          · go_simp
          simp only [Act.put, List.setIfInBounds_toArray, List.set_cons_zero, List.set_cons_succ]
          refine wpQuiet_at 69 (.int .u32 N) rfl (by kernel_rfl) (fun Y hC => ?_) ?_
          · go_simp
          simp only [Act.put, List.setIfInBounds_toArray, List.set_cons_zero, List.set_cons_succ]
          refine wpQuiet_at 70 (.int .i64 0) rfl (by kernel_rfl) (fun Y hC => ?_) ?_
          · go_simp
          simp only [Act.put, List.setIfInBounds_toArray, List.set_cons_zero, List.set_cons_succ]
          refine wpQuiet_at 9 (.int .u32 N) rfl (by kernel_rfl) (fun Y hC => ?_) ?_
          · go_simp
          simp only [Act.put, List.setIfInBounds_toArray, List.set_cons_zero, List.set_cons_succ]
          refine wpQuiet_at 10 (.int .i64 0) rfl (by kernel_rfl) (fun Y hC => ?_) ?_
          · go_simp
          simp only [Act.put, List.setIfInBounds_toArray, List.set_cons_zero, List.set_cons_succ]
          refine wpQuiet_nil ?_
          intro Y2 hb13
          clear hC0
          replace hC := hC.below hb13
          replace rp := rp.below hb13 rp.lt
          clear hb13
          have c0 := (BootRow.cells hC.boot).1
          have HCC := Lib.hid hC
          clear hC rp
          go_wp2_with fail
          refine (HP1.out _ _ _ HCC.out).mono ?_
          rintro e Y3 ⟨rfl, F3, hC⟩
          (try dsimp only)
          have c0 := (BootRow.cells hC.boot).1
          have HC3 := Lib.hid hC
          clear hC HCC HP1 HFx HWr HSm
          have HW49 := Lib.hid (show Calls Tryz.prog 35 #[.agg #[.int .i64 1, .int .i64 6, .bool false]] Y3 fun e w' => e = .returned (.int .i64 49) ∧ Below Y3.heap.size Y3 w' from kernel_written Y3 1 6 false (by decide) (by decide))
          have HS49 := Lib.hid (fun Y => show Calls Tryz.prog 34 #[.int .i64 49] Y fun e w' => e = .returned (.tuple #[.int .u32 99, .int .i64 0]) ∧ Y = w' from oop_small Y 49 (by decide))
          go_wp2_with fail
          refine (HW49.out).mono ?_
          rintro e Y4 ⟨rfl, hb4⟩
          (try dsimp only)
          have hC := HC3.out.below hb4
          have c0 := (BootRow.cells hC.boot).1
          have HC4 := Lib.hid hC
          clear hC hb4 HC3 HW49
          go_wp2_with fail
          refine (HS49.out _).mono ?_
          rintro e Y4' ⟨rfl, rfl⟩
          (try dsimp only)
          go_wp2_with fail
          refine (HP2.out _ _ _ HC4.out).mono ?_
          rintro e Y5 ⟨rfl, F5, hC⟩
          (try dsimp only)
          have c0 := (BootRow.cells hC.boot).1
          have HC5 := Lib.hid hC
          clear hC HC4 HS49 HP2
          go_wp2_with fail
          refine (HP3.out _ _ _ HC5.out).mono ?_
          rintro e Y6 ⟨rfl, F6, hC⟩
          (try dsimp only)
          have c0 := (BootRow.cells hC.boot).1
          have HC6 := Lib.hid hC
          clear hC HC5 HP3
          go_wp2_with fail
          have hC := HC6.out.below (Below.refl _ Y6).drew
          have hX := hC.boot
          refine wp_region_held (S := fun Y => BootRow Y F pb) (by kernel_rfl) ?_
          refine wpAnyH_take_at (i := 0) (v := .pointer (some ⟨pb, 0, none⟩)) 98 rfl rfl (by kernel_rfl) (by kernel_rfl) (by kernel_rfl) (fun _ _ _ h => h) (.inl ⟨rfl, fun X hX => by go_simp⟩) hX ?_
          simp only [Act.put, List.setIfInBounds_toArray, List.set_cons_zero, List.set_cons_succ]
          refine wpAnyH_take_at (i := 1) (v := .pointer (some ⟨pb, 0, none⟩)) 99 rfl rfl (by kernel_rfl) (by kernel_rfl) (by kernel_rfl) (fun _ _ _ h => h) (.inl ⟨rfl, fun X hX => by go_simp⟩) hX ?_
          simp only [Act.put, List.setIfInBounds_toArray, List.set_cons_zero, List.set_cons_succ]
          refine wpAnyH_take_at (i := 2) (v := .pointer (some ⟨pb, 0, none⟩)) 100 rfl rfl (by kernel_rfl) (by kernel_rfl) (by kernel_rfl) (fun _ _ _ h => h) (.inl ⟨rfl, fun X hX => by go_simp⟩) hX ?_
          simp only [Act.put, List.setIfInBounds_toArray, List.set_cons_zero, List.set_cons_succ]
          refine wpAnyH_take_at (i := 3) (v := .pointer (some ⟨F.p, 0, none⟩)) 101 rfl rfl (by kernel_rfl) (by kernel_rfl) (by kernel_rfl) (fun _ _ _ h => h) (.inl ⟨rfl, fun X hX => by have c0 := (BootRow.cells hX).1; go_simp⟩) hX ?_
          simp only [Act.put, List.setIfInBounds_toArray, List.set_cons_zero, List.set_cons_succ]
          refine wpAnyH_take_at (i := 4) (v := .int .u32 m) 102 rfl rfl (by kernel_rfl) (by kernel_rfl) (by kernel_rfl) (fun _ _ _ h => h) (.inl ⟨rfl, fun X hX => by go_simp⟩) hX ?_
          simp only [Act.put, List.setIfInBounds_toArray, List.set_cons_zero, List.set_cons_succ]
          refine wpAnyH_take_at (i := 5) (v := .pointer (some ⟨pb, 0, none⟩)) 103 rfl rfl (by kernel_rfl) (by kernel_rfl) (by kernel_rfl) (fun _ _ _ h => h) (.inl ⟨rfl, fun X hX => by go_simp⟩) hX ?_
          simp only [Act.put, List.setIfInBounds_toArray, List.set_cons_zero, List.set_cons_succ]
          refine wpAnyH_all (rs := [6]) (by kernel_rfl) (by decide) (fun i hi => ?_)
          rw [List.mem_singleton] at hi
          subst hi
          unfold wpOp
          go_simp
          refine .inl ((HCl.out _ h3 E3 _ _ hC 11 (by decide)).mono ?_)
          rintro e X1 ⟨rfl, hb⟩
          replace hC := hC.below hb
          replace hX := hC.boot
          clear hb
          refine ⟨hX, ?_⟩
          refine wpAnyH_all (rs := [7]) (by kernel_rfl) (by decide) (fun i hi => ?_)
          rw [List.mem_singleton] at hi
          subst hi
          unfold wpOp
          go_simp
          refine .inl ((HP4.out _ _ _ hC).mono ?_)
          rintro e X2 ⟨rfl, F7, hC⟩
          replace hX := hC.boot
          refine ⟨hX, ?_⟩
          refine wpAnyH_done (by kernel_rfl) ?_ _
          have HC7 := Lib.hid hC
          have rpl := hC.rider
          have rp : Row X2 pc 81 [.string sn, .int .i64 sq, .int .i64 p.fmt, .bool p.idx, .slice av nf nf] := rpl
          have q1 := rp.cell_at 1
          simp only [List.getElem?_cons_zero, List.getElem?_cons_succ] at q1
          have c0 := (BootRow.cells hC.boot).1
          clear hC hX HC6 HP4 rpl
          by_cases hs0 : p.sup = 0
          · have es : sq = -1 := by rw [HSQ.out]; unfold supV; rw [if_pos hs0]
            rw [es] at q1
            have hn := HN0.out hs0
            obtain ⟨z1, z2, z3⟩ := HEnd.out h4 G4
            obtain ⟨hX7, hh7⟩ : ∃ x, x = Limb.setC (Limb.setC h4 c m) m (wd hq.rt 12) := ⟨_, rfl⟩
            rw [← hh7] at hn z2 z3
            have HN := Lib.hid hn
            have HZ1 := Lib.hid z1
            have HZ2 := Lib.hid z2
            have HZ3 := Lib.hid (HGk.out _ z3)
            clear hh7 hn z1 z2 z3 hs0 es HN0 HN1 HEnd HSup HGk G4 rp HSQ
            go_wp2_with fail
            refine (HZ1.out _ _ _ HC7.out).mono ?_
            rintro e Y8 ⟨rfl, F8, hC⟩
            (try dsimp only)
            have c0 := (BootRow.cells hC.boot).1
            have HC8 := Lib.hid hC
            clear hC
            go_wp2_with fail
            refine (HZ2.out _ _ _ HC8.out).mono ?_
            rintro e Y9 ⟨rfl, F9, hC⟩
            (try dsimp only)
            have HC9 := Lib.hid hC.unride
            clear hC
            go_wp2_with fail
            go_roundw
            case rel => exact ⟨k + 1, F9, hX7, h0, by simp, HC9, HZ3, HN⟩
            case measure => simp [RowKit.intOf]; omega
          · have es : sq = p.sup := by rw [HSQ.out]; unfold supV; rw [if_neg hs0]
            rw [es] at q1
            have hn := HN1.out hs0
            obtain ⟨hb, s, t, h5, h6, es5, et5, eh5, eh6, er5, G6, z4, z5⟩ := HSup.out hs0
            rw [← es5, ← et5, ← eh5, ← eh6] at hn
            obtain ⟨z1, z2, z3⟩ := HEnd.out h6 G6
            obtain ⟨hX7, hh7⟩ : ∃ x, x = Limb.setC (Limb.setC h6 c m) m (wd hq.rt 12) := ⟨_, rfl⟩
            rw [← hh7] at hn z2 z3
            have HN := Lib.hid hn
            have HZ1 := Lib.hid z1
            have HZ2 := Lib.hid z2
            have HZ3 := Lib.hid (HGk.out _ z3)
            have HZ4 := Lib.hid z4
            have HZ5 := Lib.hid z5
            have HCS := Lib.hid (fun Y F1 (cw : CW B0 F gm g pb (some (pc, [.string sn, .int .i64 sq, .int .i64 p.fmt, .bool p.idx, .slice av nf nf])) vs ms Y F1 h4) => show Calls Tryz.prog 33 #[.pointer (some ⟨pb, 0, none⟩), .int .i64 p.sup] Y fun e X' => e = .returned (.int .u32 s) ∧ Below Y.heap.size Y X' from by
              rw [es5]; exact HCl.out _ h4 E4 Y F1 cw p.sup (by omega))
            have hjj : p.sup - 10 < 22 := by omega
            have HIs := Lib.hid (fun W => HIm.out W (p.sup - 10) hjj)
            have HMs := Lib.hid (fun rd Y F1 hx cw => by have := HMt.out rd Y F1 hx cw (p.sup - 10) hjj; rw [← et5] at this; exact this)
            obtain ⟨sp, hsp⟩ : ∃ sp, sp = p.sup := ⟨_, rfl⟩
            have d5 : decide ((0 : Int) ≤ (sp : Int)) = true := decide_eq_true (by omega)
            rw [← hsp] at q1 hb HCS HIs HMs hjj es
            have HES := Lib.hid es
            have HEsp := Lib.hid (show ((sp : Int) - 10) = ((sp - 10 : Nat) : Int) by omega)
            clear hsp es5 et5 eh5 eh6 er5 G6 hh7 hn z1 z2 z3 z4 z5 hs0 es HN0 HN1 HEnd HSup HGk G4 rp HSQ
            go_wp2_with fail
            have hC := HC7.out.below (Below.refl _ _).drew
            have hX : BootRow _ F pb ∧ Row _ pc 81 [.string sn, .int .i64 sq, .int .i64 p.fmt, .bool p.idx, .slice av nf nf] := ⟨hC.boot, hC.rider⟩
            clear HC7 q1 c0
            refine wp_region_held (S := fun Y => BootRow Y F pb ∧ Row Y pc 81 [.string sn, .int .i64 sq, .int .i64 p.fmt, .bool p.idx, .slice av nf nf]) (by kernel_rfl) ?_
            refine wpAnyH_take_at (i := 0) (v := .pointer (some ⟨pb, 0, none⟩)) 109 rfl rfl (by kernel_rfl) (by kernel_rfl) (by kernel_rfl) (fun _ _ _ h => h) (.inl ⟨rfl, fun X hX => by go_simp⟩) hX ?_
            simp only [Act.put, List.setIfInBounds_toArray, List.set_cons_zero, List.set_cons_succ]
            refine wpAnyH_take_at (i := 1) (v := .pointer (some ⟨pb, 0, none⟩)) 110 rfl rfl (by kernel_rfl) (by kernel_rfl) (by kernel_rfl) (fun _ _ _ h => h) (.inl ⟨rfl, fun X hX => by go_simp⟩) hX ?_
            simp only [Act.put, List.setIfInBounds_toArray, List.set_cons_zero, List.set_cons_succ]
            refine wpAnyH_take_at (i := 2) (v := .pointer (some ⟨pb, 0, none⟩)) 111 rfl rfl (by kernel_rfl) (by kernel_rfl) (by kernel_rfl) (fun _ _ _ h => h) (.inl ⟨rfl, fun X hX => by go_simp⟩) hX ?_
            simp only [Act.put, List.setIfInBounds_toArray, List.set_cons_zero, List.set_cons_succ]
            refine wpAnyH_take_at (i := 3) (v := .pointer (some ⟨F.p, 0, none⟩)) 112 rfl rfl (by kernel_rfl) (by kernel_rfl) (by kernel_rfl) (fun _ _ _ h => h) (.inl ⟨rfl, fun X hX => by have c0 := (BootRow.cells hX.1).1; go_simp⟩) hX ?_
            simp only [Act.put, List.setIfInBounds_toArray, List.set_cons_zero, List.set_cons_succ]
            refine wpAnyH_take_at (i := 4) (v := .int .u32 c) 113 rfl rfl (by kernel_rfl) (by kernel_rfl) (by kernel_rfl) (fun _ _ _ h => h) (.inl ⟨rfl, fun X hX => by go_simp⟩) hX ?_
            simp only [Act.put, List.setIfInBounds_toArray, List.set_cons_zero, List.set_cons_succ]
            refine wpAnyH_take_at (i := 5) (v := .pointer (some ⟨pb, 0, none⟩)) 114 rfl rfl (by kernel_rfl) (by kernel_rfl) (by kernel_rfl) (fun _ _ _ h => h) (.inl ⟨rfl, fun X hX => by go_simp⟩) hX ?_
            simp only [Act.put, List.setIfInBounds_toArray, List.set_cons_zero, List.set_cons_succ]
            refine wpAnyH_take_at (i := 6) (v := .pointer (some ⟨pc, 1, none⟩)) 115 rfl rfl (by kernel_rfl) (by kernel_rfl) (by kernel_rfl) (fun _ _ _ h => h) (.inl ⟨rfl, fun X hX => by go_simp⟩) hX ?_
            simp only [Act.put, List.setIfInBounds_toArray, List.set_cons_zero, List.set_cons_succ]
            refine wpAnyH_take_at (i := 7) (v := .int .i64 sp) 116 rfl rfl (by kernel_rfl) (by kernel_rfl) (by kernel_rfl) (fun _ _ _ h => h) (.inl ⟨rfl, fun X hX => by have q := hX.2.cell_at 1; simp only [List.getElem?_cons_zero, List.getElem?_cons_succ] at q; rw [HES.out] at q; go_simp⟩) hX ?_
            simp only [Act.put, List.setIfInBounds_toArray, List.set_cons_zero, List.set_cons_succ]
            refine wpAnyH_all (rs := [8]) (by kernel_rfl) (by decide) (fun i hi => ?_)
            rw [List.mem_singleton] at hi
            subst hi
            unfold wpOp
            go_simp
            refine .inl ((HCS.out _ _ hC).mono ?_)
            rintro e X1 ⟨rfl, hb⟩
            replace hC := hC.below hb
            replace hX := (⟨hC.boot, hC.rider⟩ : _ ∧ _)
            clear hb
            refine ⟨hX, ?_⟩
            refine wpAnyH_all (rs := [9]) (by kernel_rfl) (by decide) (fun i hi => ?_)
            rw [List.mem_singleton] at hi
            subst hi
            unfold wpOp
            go_simp
            refine .inl ((HZ4.out _ _ _ hC).mono ?_)
            rintro e X2 ⟨rfl, F20, hC⟩
            replace hX := (⟨hC.boot, hC.rider⟩ : _ ∧ _)
            refine ⟨hX, ?_⟩
            refine wpAnyH_done (by kernel_rfl) ?_ _
            have HC20 := Lib.hid hC
            clear hX hC HZ4 HCS
            go_wp2_with fail
            have hC := HC20.out.below (Below.refl _ _).drew
            have hX : BootRow _ F pb ∧ Row _ pc 81 [.string sn, .int .i64 sq, .int .i64 p.fmt, .bool p.idx, .slice av nf nf] ∧ _ := ⟨hC.boot, hC.rider, HMs.out _ _ _ _ hC⟩
            clear HC20
            refine wp_region_held (S := fun Y => BootRow Y F pb ∧ Row Y pc 81 [.string sn, .int .i64 sq, .int .i64 p.fmt, .bool p.idx, .slice av nf nf] ∧ Y.cell? ⟨gm, sp - 10, none⟩ = some (.int .u32 t)) (by kernel_rfl) ?_
            refine wpAnyH_take_at (i := 0) (v := .pointer (some ⟨pb, 0, none⟩)) 119 rfl rfl (by kernel_rfl) (by kernel_rfl) (by kernel_rfl) (fun _ _ _ h => h) (.inl ⟨rfl, fun X hX => by go_simp⟩) hX ?_
            simp only [Act.put, List.setIfInBounds_toArray, List.set_cons_zero, List.set_cons_succ]
            refine wpAnyH_take_at (i := 1) (v := .pointer (some ⟨pb, 0, none⟩)) 120 rfl rfl (by kernel_rfl) (by kernel_rfl) (by kernel_rfl) (fun _ _ _ h => h) (.inl ⟨rfl, fun X hX => by go_simp⟩) hX ?_
            simp only [Act.put, List.setIfInBounds_toArray, List.set_cons_zero, List.set_cons_succ]
            refine wpAnyH_take_at (i := 2) (v := .pointer (some ⟨pb, 0, none⟩)) 121 rfl rfl (by kernel_rfl) (by kernel_rfl) (by kernel_rfl) (fun _ _ _ h => h) (.inl ⟨rfl, fun X hX => by go_simp⟩) hX ?_
            simp only [Act.put, List.setIfInBounds_toArray, List.set_cons_zero, List.set_cons_succ]
            refine wpAnyH_take_at (i := 3) (v := .pointer (some ⟨F.p, 0, none⟩)) 122 rfl rfl (by kernel_rfl) (by kernel_rfl) (by kernel_rfl) (fun _ _ _ h => h) (.inl ⟨rfl, fun X hX => by have c0 := (BootRow.cells hX.1).1; go_simp⟩) hX ?_
            simp only [Act.put, List.setIfInBounds_toArray, List.set_cons_zero, List.set_cons_succ]
            refine wpAnyH_take_at (i := 4) (v := .int .u32 m) 123 rfl rfl (by kernel_rfl) (by kernel_rfl) (by kernel_rfl) (fun _ _ _ h => h) (.inl ⟨rfl, fun X hX => by go_simp⟩) hX ?_
            simp only [Act.put, List.setIfInBounds_toArray, List.set_cons_zero, List.set_cons_succ]
            refine wpAnyH_take_at (i := 5) (v := .slice (some ⟨gm, 0, none⟩) 22 22) 124 rfl rfl (by kernel_rfl) (by kernel_rfl) (by kernel_rfl) (fun _ _ _ h => h) (.inl ⟨rfl, fun X hX => by go_simp⟩) hX ?_
            simp only [Act.put, List.setIfInBounds_toArray, List.set_cons_zero, List.set_cons_succ]
            refine wpAnyH_take_at (i := 6) (v := .pointer (some ⟨pc, 1, none⟩)) 125 rfl rfl (by kernel_rfl) (by kernel_rfl) (by kernel_rfl) (fun _ _ _ h => h) (.inl ⟨rfl, fun X hX => by go_simp⟩) hX ?_
            simp only [Act.put, List.setIfInBounds_toArray, List.set_cons_zero, List.set_cons_succ]
            refine wpAnyH_take_at (i := 7) (v := .int .i64 sp) 126 rfl rfl (by kernel_rfl) (by kernel_rfl) (by kernel_rfl) (fun _ _ _ h => h) (.inl ⟨rfl, fun X hX => by have q := hX.2.1.cell_at 1; simp only [List.getElem?_cons_zero, List.getElem?_cons_succ] at q; rw [HES.out] at q; go_simp⟩) hX ?_
            simp only [Act.put, List.setIfInBounds_toArray, List.set_cons_zero, List.set_cons_succ]
            refine wpAnyH_take_at (i := 8) (v := .int .i64 (sp - 10 : Nat)) 127 rfl rfl (by kernel_rfl) (by kernel_rfl) (by kernel_rfl) (fun _ _ _ h => h) (.inl ⟨rfl, fun X hX => by go_simp; (first | done | (rw [i64_self (by omega) (by omega)]; exact HEsp.out) | exact HEsp.out)⟩) hX ?_
            simp only [Act.put, List.setIfInBounds_toArray, List.set_cons_zero, List.set_cons_succ]
            refine wpAnyH_take_at (i := 9) (v := .pointer (some ⟨gm, sp - 10, none⟩)) 128 rfl rfl (by kernel_rfl) (by kernel_rfl) (by kernel_rfl) (fun _ _ _ h => h) (.inl ⟨rfl, fun X hX => by have ix2 := HIs.out; go_simp⟩) hX ?_
            simp only [Act.put, List.setIfInBounds_toArray, List.set_cons_zero, List.set_cons_succ]
            refine wpAnyH_take_at (i := 10) (v := .int .u32 t) 129 rfl rfl (by kernel_rfl) (by kernel_rfl) (by kernel_rfl) (fun _ _ _ h => h) (.inl ⟨rfl, fun X hX => by have cx := hX.2.2; go_simp⟩) hX ?_
            simp only [Act.put, List.setIfInBounds_toArray, List.set_cons_zero, List.set_cons_succ]
            refine wpAnyH_all (rs := [11]) (by kernel_rfl) (by decide) (fun i hi => ?_)
            rw [List.mem_singleton] at hi
            subst hi
            unfold wpOp
            go_simp
            refine .inl ((HZ5.out _ _ _ hC).mono ?_)
            rintro e X1 ⟨rfl, F21, hC⟩
            replace hX := (⟨hC.boot, hC.rider, HMs.out _ _ _ _ hC⟩ : _ ∧ _ ∧ _)
            refine ⟨hX, ?_⟩
            refine wpAnyH_done (by kernel_rfl) ?_ _
            have c0 := (BootRow.cells hC.boot).1
            have HC21 := Lib.hid hC
            clear hX hC HZ5 HMs HIs HES HEsp d5
            go_wp2_with fail
            refine (HZ1.out _ _ _ HC21.out).mono ?_
            rintro e Y8 ⟨rfl, F8, hC⟩
            (try dsimp only)
            have c0 := (BootRow.cells hC.boot).1
            have HC8 := Lib.hid hC
            clear hC
            go_wp2_with fail
            refine (HZ2.out _ _ _ HC8.out).mono ?_
            rintro e Y9 ⟨rfl, F9, hC⟩
            (try dsimp only)
            have HC9 := Lib.hid hC.unride
            clear hC
            go_wp2_with fail
            go_roundw
            case rel => exact ⟨k + 1, F9, hX7, h0, by simp, HC9, HZ3, HN⟩
            case measure => simp [RowKit.intOf]; omega
        · obtain rfl : k = 22 := by omega
          rw [show ((22 : Nat) : Int) = 22 from rfl]
          have hr := HR.out
          have e1 : wireAll ms 22 (plans.drop 22) hq = hq := rfl
          rw [e1] at hr
          have hG := HG.out
          have hP2 := HPP.out.grow hG
          rw [hr] at hG hP2
          have hc := HC.out
          rw [hr] at hc
          have HC2 := Lib.hid hc
          have HPQ := Lib.hid hP2
          have e0 : clsAll (bareCls.drop 0) hW = hE := HE.out.symm
          have HE0 := Lib.hid e0
          clear hr e1 hG hP2 hc HC HR HG e0 HE
          have HBar := Lib.hid (show ∀ i, i < 3 → bareCls.drop i = (i, 13 + i) :: bareCls.drop (i + 1) from by decide)
          have HBar2 := Lib.hid (show ∀ i, i < 4 → bareCls.drop (3 + i) = (wd [3, 4, 6, 8] i, 20) :: bareCls.drop (3 + i + 1) from by decide)
          go_wp2_with fail
          go_loopw [142] (fun i wr => ∃ (k : Nat) (F' : Foot) (hk : Hp), k ≤ 3 ∧ i = .int .i64 k ∧ Hid (CW B0 F gm g pb none vs ms wr F' hk) ∧ Hid (Limb.Grow hW hk) ∧ Hid (clsAll (bareCls.drop k) hk = hE)) (fun i _ => 3 - (RowKit.intOf i).toNat)
          case atStart => exact ⟨0, F', hW, Nat.zero_le _, rfl, HC2, Lib.hid (Limb.Grow.refl HPQ.out.good), HE0⟩
          case round =>
            clear HC2 HE0 F' hq
            obtain ⟨k, F', hq, hkn, rfl, HC, HG, HR⟩ := hrel
            by_cases h0 : k < 3
            · have d1 : decide ((k : Int) < 3) = true := decide_eq_true (by omega)
              have d2 : decide (k < 3) = true := decide_eq_true h0
              have hPk := HPQ.out.grow HG.out
              have hr := HR.out
              rw [HBar.out k h0] at hr
              have lo := hPk.low k (by simp; omega)
              have lc := isF_isO (hPk.cls (3 + k) (by omega))
              rw [show 10 + (3 + k) = 13 + k by omega] at lc
              have HRt := Lib.hid (cw_root HC.out k (by omega))
              have HOf := Lib.hid (fun Y F1 (cw : CW B0 F gm g pb none vs ms Y F1 hq) => show Calls Tryz.prog 39 #[.pointer (some ⟨pb, 0, none⟩), .int .u32 (wd hq.rt k : Nat), .int .i64 (13 + (k : Int))] Y fun e X' => e = .returned (.tuple #[]) ∧ ∃ F'', CW B0 F gm g pb none vs ms X' F'' (Limb.setC hq (wd hq.rt k) (wd hq.rt (13 + k))) from by
                have := cw_of cw (i := 13 + k) (by omega) lo lc
                rw [Int.natCast_add] at this; exact this)
              have HG2 := Lib.hid (HG.out.trans (grow_setC hPk.good lo (isO_cls lc)))
              have HR2 := Lib.hid (show clsAll (bareCls.drop (k + 1)) (Limb.setC hq (wd hq.rt k) (wd hq.rt (13 + k))) = hE from hr)
              have c0 := (BootRow.cells HC.out.boot).1
              generalize Limb.setC hq (wd hq.rt k) (wd hq.rt (13 + k)) = hq2 at *
              generalize wd hq.rt k = ov at *
              clear hPk hr lo lc HG HR
              go_wp2_with fail
              refine (HRt.out).mono ?_
              rintro e Y1 ⟨rfl, hb⟩
              (try dsimp only)
              have HC1 := Lib.hid (HC.out.below hb)
              clear hb
              go_wp2_with fail
              refine (HOf.out _ _ HC1.out).mono ?_
              rintro e Y2 ⟨rfl, F2, hC⟩
              (try dsimp only)
              have HC3 := Lib.hid hC
              clear hC
              go_wp2_with fail
              go_roundw
              case rel => exact ⟨k + 1, F2, hq2, h0, by simp, HC3, HG2, HR2⟩
              case measure => simp [RowKit.intOf]; omega
            · obtain rfl : k = 3 := by omega
              rw [show ((3 : Nat) : Int) = 3 from rfl]
              obtain ⟨V, hV, rv, hbv, hzv⟩ := alloc_row wr 3 [.int .i64 3, .int .i64 4, .int .i64 6, .int .i64 8]
              have HV := Lib.hid hV
              have HC1 := Lib.hid (HC.out.below hbv)
              have rv : Row V wr.heap.size 3 (nums .i64 [3, 4, 6, 8]) := rv
              obtain ⟨gi, hgi⟩ : ∃ gi, gi = wr.heap.size := ⟨_, rfl⟩
              rw [← hgi] at rv
              have HGI := Lib.hid hgi
              clear hV hbv hzv hgi HC
              have d3 : decide ((3 : Int) < 3) = false := rfl
              go_wp2_with fail
              rw [← HV.out, ← HGI.out]
              clear HV HGI
              go_loopw [158] (fun i wr => ∃ (j : Nat) (F' : Foot) (hk : Hp), j ≤ 4 ∧ i = .int .i64 j ∧ Hid (CW B0 F gm g pb none vs ms wr F' hk) ∧ Hid (Limb.Grow hW hk) ∧ Hid (clsAll (bareCls.drop (3 + j)) hk = hE) ∧ Hid (Row wr gi 3 (nums .i64 [3, 4, 6, 8]))) (fun i _ => 4 - (RowKit.intOf i).toNat)
              case atStart => exact ⟨0, F', hq, Nat.zero_le _, rfl, HC1, HG, HR, Lib.hid rv⟩
              case round =>
                clear HC1 HG HR rv F' hq
                obtain ⟨j, F', hq, hjn, rfl, HC, HG, HR, HRv⟩ := hrel
                by_cases h0 : j < 4
                · have d1 : decide ((j : Int) < 4) = true := decide_eq_true (by omega)
                  have d2 : decide (j < 4) = true := decide_eq_true h0
                  have hPk := HPQ.out.grow HG.out
                  have hr := HR.out
                  rw [HBar2.out j h0] at hr
                  have hj4 : j = 0 ∨ j = 1 ∨ j = 2 ∨ j = 3 := by omega
                  have lo := hPk.low (wd [3, 4, 6, 8] j) (by rcases hj4 with rfl | rfl | rfl | rfl <;> decide)
                  have ltj : wd [3, 4, 6, 8] j < 64 := by rcases hj4 with rfl | rfl | rfl | rfl <;> decide
                  have lc := isF_isO (hPk.cls 10 (by omega))
                  rw [show 10 + 10 = 20 from rfl] at lc
                  have HRt := Lib.hid (cw_root HC.out (wd [3, 4, 6, 8] j) ltj)
                  have HOf := Lib.hid (fun Y F1 (cw : CW B0 F gm g pb none vs ms Y F1 hq) => show Calls Tryz.prog 39 #[.pointer (some ⟨pb, 0, none⟩), .int .u32 (wd hq.rt (wd [3, 4, 6, 8] j) : Nat), .int .i64 20] Y fun e X' => e = .returned (.tuple #[]) ∧ ∃ F'', (Step Y F1 X' F'' (Limb.setC hq (wd hq.rt (wd [3, 4, 6, 8] j)) (wd hq.rt 20)) ∧ CW B0 F gm g pb none vs ms X' F'' (Limb.setC hq (wd hq.rt (wd [3, 4, 6, 8] j)) (wd hq.rt 20))) from by
                    have rb : BootRow Y F1 pb := by have := cw.boot; unfold BootRow at this ⊢; rw [cw.p]; exact this
                    exact (booter_of cw.hp rb (cw.hp.not_mem cw.boot (by decide) (by decide) (by decide) (by decide)) (wd hq.rt (wd [3, 4, 6, 8] j)) 20 (by decide) lo lc).mono fun e X' ⟨x, y⟩ => ⟨x, F1, y, cw.step y⟩)
                  have HG2 := Lib.hid (HG.out.trans (grow_setC hPk.good lo (isO_cls lc)))
                  have HR2 := Lib.hid (show clsAll (bareCls.drop (3 + (j + 1))) (Limb.setC hq (wd hq.rt (wd [3, 4, 6, 8] j)) (wd hq.rt 20)) = hE from hr)
                  have sl := HRv.out.sl (n := 4) rfl (by decide)
                  have ix := fun W => sl.index 48 Tryz.underlying48 size_int W .i64 j h0
                  have cx := sl.cell h0
                  rw [nums_get (by exact h0)] at cx
                  have c0 := (BootRow.cells HC.out.boot).1
                  generalize Limb.setC hq (wd hq.rt (wd [3, 4, 6, 8] j)) (wd hq.rt 20) = hq2 at *
                  generalize wd [3, 4, 6, 8] j = rj at *
                  generalize wd hq.rt rj = ov at *
                  clear hPk hr lo lc HG HR hj4 sl
                  go_wp2_with fail
                  refine (HRt.out).mono ?_
                  rintro e Y1 ⟨rfl, hb⟩
                  (try dsimp only)
                  have HC1 := Lib.hid (HC.out.below hb)
                  have HRv1 := Lib.hid (HRv.out.below hb HRv.out.lt)
                  clear hb
                  go_wp2_with fail
                  refine (HOf.out _ _ HC1.out).mono ?_
                  rintro e Y2 ⟨rfl, F2, hSt, hC⟩
                  (try dsimp only)
                  have HC3 := Lib.hid hC
                  have HRv2 := Lib.hid (hSt.beside HRv1.out (HC1.out.hp.not_mem HRv1.out (by decide) (by decide) (by decide) (by decide)))
                  clear hC hSt
                  go_wp2_with fail
                  go_roundw
                  case rel => exact ⟨j + 1, F2, hq2, h0, by simp, HC3, HG2, HR2, HRv2⟩
                  case measure => simp [RowKit.intOf]; omega
                · obtain rfl : j = 4 := by omega
                  have hr := HR.out
                  have e1 : clsAll (bareCls.drop (3 + 4)) hq = hq := rfl
                  rw [e1] at hr
                  have HM := Lib.hid (HC.out.st.moved HBB.out (by intro q hq; rw [List.mem_singleton] at hq; rw [hq]; exact HGm.out))
                  rw [hr] at HM
                  clear hr e1
                  go_wp2_with fail
                  go_returns
                  exact ⟨rfl, HM.out⟩
end
end Go.Proofs.YteiikhcadjdkcaaGreatDoor
