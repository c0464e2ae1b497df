/- The walk of package kernel's Boot. The law's awake: a small heap's kernel, three calls of Data, and both lists of numbers. PrimCopies: what came in, its parts and conversions; what the law asks of them. -/
import Derived.Shelf.Bytes.SlSmallAll
import Derived.Test.YteiikhcadjdkcaaGreatDoorGX44
import Derived.Test.YteiikhcadjdkcaaGreatDoorGX09
import Derived.Test.YteiikhcadjdkcaaGreatDoorGX33
import Derived.Test.YteiikhcadjdkcaaGreatDoorGX10
import Derived.Test.YteiikhcadjdkcaaGreatDoorGX38
set_option linter.unusedVariables false
set_option linter.unusedSimpArgs false
namespace Go.Proofs.YteiikhcadjdkcaaGreatDoor
open Go Go.RowKit Limb
section
variable {w X : World} {F F' : Foot} {pb : Nat} {R : World → Prop} {hk : Hp}
theorem cn_alloc (c : CN w F pb R X F' hk) (n o : Nat) (h' : Hp) (hn : n ≤ 65535) (hp : allocP hk 0 1 n = some (o, h')) :
    Calls Tryz.prog 15 #[.pointer (some ⟨pb, 0, none⟩), .int .i64 n] X fun e X' => e = .returned (.int .u32 o) ∧ ∃ F'', CN w F pb R X' F'' h' :=
  (booter_alloc c.hp c.rb c.out n o h' hn hp).mono fun e X' ⟨x, F'', y⟩ => ⟨x, F'', c.step y⟩
theorem cn_setroot (c : CN w F pb R X F' hk) (i : Nat) (hi : i < 64) (v : Nat) (hv : isO hk v = true) :
    Calls Tryz.prog 14 #[.pointer (some ⟨F.p, 0, none⟩), .int .i64 i, .int .u32 v] X fun e X' => e = .returned (.int .i64 0) ∧ ∃ F'', CN w F pb R X' F'' (setR hk i v) := by
  rw [← c.p]
  exact (heap_setroot c.hp i hi v (isO_lt c.hp.good hv) (isO_val hv)).mono fun e X' ⟨x, y⟩ => ⟨x, F', c.step y⟩
end
theorem firstAll_step {r n : Nat} {t : List (Nat × Nat)} {h hE : Hp} (k : Limb.Good h) (hn : n ≤ 65535) (e : firstAll ((r, n) :: t) h = some hE) : ∃ o h1, allocP h 0 1 n = some (o, h1) ∧ isO h1 o = true ∧ firstAll t (setR h1 r o) = some hE := by
  obtain ⟨h2, e1, e2⟩ := Option.bind_eq_some_iff.1 e
  obtain ⟨⟨o, h1⟩, e3, e4⟩ := Option.map_eq_some_iff.1 e1
  obtain ⟨g, i⟩ := grow_alloc k (by decide) (by decide) hn e3
  exact ⟨o, h1, e3, isF_isO i, by rw [← e4] at e2; exact e2⟩
theorem first7_a : ∀ k, k < 3 → first7.drop k = (k, 0) :: first7.drop (k + 1) := by decide
theorem first7_b : ∀ j, j < 4 → first7.drop (3 + j) = (wd [3, 4, 6, 8] j, wd [128, 32, 8, 16] j) :: first7.drop (3 + (j + 1)) := by decide
theorem size_pair (W : World) : (sizeOf 46).run Tryz.prog W = .ok 2 W := by kernel_rfl
def pairCells : List Value := nums .i64 [3, 128, 4, 32, 6, 8, 8, 16]
set_option maxHeartbeats 6400000 in
set_option maxRecDepth 1000000 in
theorem kernel_boot (w : World) (hs : Spares w) (n : Nat) (h1 : 64 ≤ n) (h2 : n ≤ 1048576) (hA hP hE : Hp) (ms : List Nat) (st : Limb.Steps n hA hP ms hE) (st2 : Limb.Paired (clsAll bareCls (wireAll ms 0 plans hP)) ms) :
    Calls Tryz.prog 4 #[.int .i64 n] w fun e w' => ∃ F, e = .returned (.tuple #[.pointer (some ⟨F.p, 0, none⟩), .int .i64 0]) ∧ HeapAt w' F hE ∧ Below w.heap.size w w' ∧ ∀ g ∈ F.l, w.heap.size ≤ g := by
  have HNw := Lib.hid (heap_new w hs n h1 h2)
  have HF0 := Lib.hid (show firstAll (first7.drop 0) (emptyH n) = some hA from st.first)
  have HNil := Lib.hid st.nil0
  have HPr := Lib.hid st.pairs
  have HPd := Lib.hid st.paired
  have HRs := Lib.hid st.rest
  have HP2 := Lib.hid st2
  clear st st2 hs
  go_enter Tryz.func4, Tryz.ntmps4
  go_wp2_with fail
  refine (HNw.out).mono ?_
  rintro e w1 ⟨F, rfl, H, hB, hFl⟩
  (try dsimp only)
  obtain ⟨w2, hw2, rb, hb2, hz2⟩ := alloc_row w1 44 [.pointer (some ⟨F.p, 0, none⟩), .int .i64 0]
  have HW2 := Lib.hid hw2
  obtain ⟨pb, hpb⟩ : ∃ pb, pb = w1.heap.size := ⟨_, rfl⟩
  rw [← hpb] at rb
  have HPB := Lib.hid hpb
  have HB2 := Lib.hid (hB.trans (hb2.mono hB.size))
  have HFl := Lib.hid hFl
  have HC := Lib.hid (show CN w2 F pb (fun _ => True) w2 F (emptyH n) from ⟨⟨fun _ _ _ _ => trivial, fun _ _ _ _ _ _ _ _ _ => trivial⟩, Step.refl (H.below hb2), rb, trivial⟩)
  clear hw2 hpb hz2 hb2 rb H hB hFl HNw
  go_wp2_with fail
  rw [← HW2.out, ← HPB.out]
  clear HW2 HPB
  go_loopw [23] (fun i wr => ∃ (k : Nat) (F' : Foot) (hk : Hp), k ≤ 3 ∧ i = .int .i64 k ∧ Hid (CN w2 F pb (fun _ => True) wr F' hk) ∧ Hid (firstAll (first7.drop k) hk = some hA)) (fun i _ => 3 - (RowKit.intOf i).toNat)
  case atStart => exact ⟨0, F, emptyH n, Nat.zero_le _, rfl, HC, HF0⟩
  case round =>
    clear HC HF0
    obtain ⟨k, F', hk, hkn, rfl, HC, HR⟩ := hrel
    by_cases h0 : k < 3
    · have d1 : decide ((k : Int) < 3) = true := decide_eq_true (by omega)
      have d2 : decide (k < 3) = true := decide_eq_true h0
      have hr := HR.out
      rw [first7_a k h0] at hr
      obtain ⟨o, h1', x1, x2, x3⟩ := firstAll_step HC.out.hp.good (by decide) hr
      have HAl := Lib.hid (cn_alloc HC.out 0 o h1' (by decide) x1)
      have HSr := Lib.hid (fun Y F1 (cn : CN w2 F pb (fun _ => True) Y F1 h1') => cn_setroot cn k (by omega) o x2)
      have HR2 := Lib.hid x3
      generalize setR h1' k o = hq at *
      clear hr x1 x2 x3 HR HC
      go_wp2_with fail
      refine (HAl.out).mono ?_
      rintro e Y1 ⟨rfl, F1, hC⟩
      (try dsimp only)
      have HC1 := Lib.hid hC
      clear hC HAl
      go_wp2_with fail
      refine (HSr.out _ _ HC1.out).mono ?_
      rintro e Y2 ⟨rfl, F2, hC⟩
      (try dsimp only)
      have HC2 := Lib.hid hC
      clear hC HC1 HSr
      go_wp2_with fail
      go_roundw
      case rel => exact ⟨k + 1, F2, hq, h0, by simp, HC2, HR2⟩
      case measure => simp [RowKit.intOf]; omega
    · obtain rfl : k = 3 := by omega
      rw [show ((3 : Nat) : Int) = 3 from rfl]
      have d0 : decide ((3 : Int) < 3) = false := rfl
      obtain ⟨V, hV, rv, hbv, hzv⟩ := alloc_row wr 46 [.int .i64 3, .int .i64 128, .int .i64 4, .int .i64 32, .int .i64 6, .int .i64 8, .int .i64 8, .int .i64 16]
      have HV := Lib.hid hV
      have rv : Row V wr.heap.size 46 pairCells := rv
      obtain ⟨gl, hgl⟩ : ∃ gl, gl = wr.heap.size := ⟨_, rfl⟩
      rw [← hgl] at rv
      have HGL := Lib.hid hgl
      have HC1 := Lib.hid ((HC.out.below hbv).with (keeps_row gl 46 pairCells (by decide) (by decide) (by decide) (by decide)) rv)
      clear hV hbv hzv hgl rv HC
      go_wp2_with fail
      rw [← HV.out, ← HGL.out]
      clear HV HGL
      go_loopw [38] (fun i wr => ∃ (j : Nat) (F' : Foot) (hk : Hp), j ≤ 4 ∧ i = .int .i64 j ∧ Hid (CN w2 F pb (fun X => Row X gl 46 pairCells) wr F' hk) ∧ Hid (firstAll (first7.drop (3 + j)) hk = some hA)) (fun i _ => 4 - (RowKit.intOf i).toNat)
      case atStart => exact ⟨0, F', hk, Nat.zero_le _, rfl, HC1, HR⟩
      case round =>
        clear HC1 HR F' hk
        obtain ⟨j, F', hk, hjn, rfl, HC, HR⟩ := hrel
        by_cases h0 : j < 4
        · have d1 : decide ((j : Int) < 4) = true := decide_eq_true (by omega)
          have d2 : decide (j < 4) = true := decide_eq_true h0
          have hr := HR.out
          rw [first7_b j h0] at hr
          have hj4 : j = 0 ∨ j = 1 ∨ j = 2 ∨ j = 3 := by omega
          have q0 : wr.cell? ⟨gl, 2 * j, none⟩ = some (.int .i64 (wd [3, 4, 6, 8] j : Nat)) := by
            rw [HC.out.ex.cell_at]; rcases hj4 with rfl | rfl | rfl | rfl <;> rfl
          have q1 : wr.cell? ⟨gl, 2 * j + 1, none⟩ = some (.int .i64 (wd [128, 32, 8, 16] j : Nat)) := by
            rw [HC.out.ex.cell_at]; rcases hj4 with rfl | rfl | rfl | rfl <;> rfl
          have ix := fun W => index_by (P := Tryz.prog) 2 (by decide) 47 46 Tryz.underlying47 size_pair gl 4 4 W .i64 j h0
          have ltr : wd [3, 4, 6, 8] j < 64 ∧ wd [128, 32, 8, 16] j ≤ 65535 := by rcases hj4 with rfl | rfl | rfl | rfl <;> decide
          generalize wd [3, 4, 6, 8] j = rt at *
          generalize wd [128, 32, 8, 16] j = sz at *
          obtain ⟨o, h1', x1, x2, x3⟩ := firstAll_step HC.out.hp.good ltr.2 hr
          have HAl := Lib.hid (fun R Y F1 (cn : CN w2 F pb R Y F1 hk) => cn_alloc cn sz o h1' ltr.2 x1)
          have HSr := Lib.hid (fun R Y F1 (cn : CN w2 F pb R Y F1 h1') => cn_setroot cn rt ltr.1 o x2)
          have HR2 := Lib.hid x3
          generalize setR h1' rt o = hq at *
          clear hr x1 x2 x3 HR hj4 ltr
          obtain ⟨Y0, hY0, rp, hbY, hzY⟩ := alloc_row wr 46 [.int .i64 rt, .int .i64 sz]
          have HY0 := Lib.hid hY0
          obtain ⟨pc, hpc⟩ : ∃ pc, pc = wr.heap.size := ⟨_, rfl⟩
          rw [← hpc] at rp
          have HPC := Lib.hid hpc
          have hC := (HC.out.below hbY)
          have HC1 := Lib.hid (hC.with (hC.keeps.and (keeps_row pc 46 [.int .i64 rt, .int .i64 sz] (by decide) (by decide) (by decide) (by decide))) ⟨hC.ex, rp⟩)
          clear hY0 hbY hzY hpc hC rp HC
          go_wp2_with fail
          rw [← HY0.out, ← HPC.out]
          have hC := HC1.out.below (Below.refl _ Y0).drew
          have hX : Row Y0.drew pc 46 [.int .i64 rt, .int .i64 sz] := hC.ex.2
          clear HC1 HY0
          refine wp_region_held (S := fun Y => Row Y pc 46 [.int .i64 rt, .int .i64 sz]) (by kernel_rfl) ?_
          refine wpAnyH_take_at (i := 0) (v := .pointer (some ⟨F.p, 0, none⟩)) 42 rfl rfl (by kernel_rfl) (by kernel_rfl) (by kernel_rfl) (fun _ _ _ h => h) (.inl ⟨rfl, fun X hX => by go_simp⟩) hX ?_
          simp only [Act.put, List.setIfInBounds_toArray, List.set_cons_zero, List.set_cons_succ]
          refine wpAnyH_take_at (i := 1) (v := .pointer (some ⟨pc, 0, none⟩)) 43 rfl rfl (by kernel_rfl) (by kernel_rfl) (by kernel_rfl) (fun _ _ _ h => h) (.inl ⟨rfl, fun X hX => by go_simp⟩) hX ?_
          simp only [Act.put, List.setIfInBounds_toArray, List.set_cons_zero, List.set_cons_succ]
          refine wpAnyH_take_at (i := 2) (v := .int .i64 rt) 44 rfl rfl (by kernel_rfl) (by kernel_rfl) (by kernel_rfl) (fun _ _ _ h => h) (.inl ⟨rfl, fun X hX => by have q := hX.cell_at 0; simp only [List.getElem?_cons_zero, List.getElem?_cons_succ] at q; go_simp⟩) hX ?_
          simp only [Act.put, List.setIfInBounds_toArray, List.set_cons_zero, List.set_cons_succ]
          refine wpAnyH_take_at (i := 3) (v := .pointer (some ⟨pb, 0, none⟩)) 45 rfl rfl (by kernel_rfl) (by kernel_rfl) (by kernel_rfl) (fun _ _ _ h => h) (.inl ⟨rfl, fun X hX => by go_simp⟩) hX ?_
          simp only [Act.put, List.setIfInBounds_toArray, List.set_cons_zero, List.set_cons_succ]
          refine wpAnyH_take_at (i := 4) (v := .pointer (some ⟨pc, 1, none⟩)) 46 rfl rfl (by kernel_rfl) (by kernel_rfl) (by kernel_rfl) (fun _ _ _ h => h) (.inl ⟨rfl, fun X hX => by go_simp⟩) hX ?_
          simp only [Act.put, List.setIfInBounds_toArray, List.set_cons_zero, List.set_cons_succ]
          refine wpAnyH_take_at (i := 5) (v := .int .i64 sz) 47 rfl rfl (by kernel_rfl) (by kernel_rfl) (by kernel_rfl) (fun _ _ _ h => h) (.inl ⟨rfl, fun X hX => by have q := hX.cell_at 1; simp only [List.getElem?_cons_zero, List.getElem?_cons_succ] at q; go_simp⟩) hX ?_
          simp only [Act.put, List.setIfInBounds_toArray, List.set_cons_zero, List.set_cons_succ]
          refine wpAnyH_all (rs := [6]) (by kernel_rfl) (by decide) (fun i hi => ?_)
          rw [List.mem_singleton] at hi
          subst hi
          unfold wpOp
          go_simp
          refine .inl ((HAl.out _ _ _ hC).mono ?_)
          rintro e X1 ⟨rfl, F1, hC⟩
          replace hX := hC.ex.2
          refine ⟨hX, ?_⟩
          refine wpAnyH_all (rs := [7]) (by kernel_rfl) (by decide) (fun i hi => ?_)
          rw [List.mem_singleton] at hi
          subst hi
          unfold wpOp
          go_simp
          refine .inl ((HSr.out _ _ _ hC).mono ?_)
          rintro e X2 ⟨rfl, F2, hC⟩
          replace hX := hC.ex.2
          refine ⟨hX, ?_⟩
          refine wpAnyH_done (by kernel_rfl) ?_ _
          have HC2 := Lib.hid (hC.with (keeps_row gl 46 pairCells (by decide) (by decide) (by decide) (by decide)) hC.ex.1)
          clear hX hC HAl HSr
          go_wp2_with fail
          go_roundw
          case rel => exact ⟨j + 1, F2, hq, h0, by simp, HC2, HR2⟩
          case measure => simp [RowKit.intOf]; omega
        · obtain rfl : j = 4 := by omega
          rw [show ((4 : Nat) : Int) = 4 from rfl]
          have d0 : decide ((4 : Int) < 4) = false := rfl
          have hr := HR.out
          have e1 : firstAll (first7.drop (3 + 4)) hk = some hk := rfl
          rw [e1] at hr
          have hr2 := Option.some.inj hr
          have hn0 := HNil.out
          rw [← hr2] at hn0
          have hpr := HPr.out
          rw [← hr2] at hpr
          have HNil0 := Lib.hid hn0
          have HNl := Lib.hid (show nilR ([5, 7, 9].drop 0) hk = nilR [5, 7, 9] hk from rfl)
          obtain ⟨hM, hhM⟩ : ∃ hM, hM = nilR [5, 7, 9] hk := ⟨_, rfl⟩
          rw [← hhM] at HNl hpr
          have HPr2 := Lib.hid hpr
          clear hr e1 hr2 hn0 hpr HPr HNil HR hhM
          obtain ⟨V, hV, rv, hbv, hzv⟩ := alloc_row wr 3 [.int .i64 5, .int .i64 7, .int .i64 9]
          have HV := Lib.hid hV
          have rv : Row V wr.heap.size 3 (nums .i64 [5, 7, 9]) := rv
          obtain ⟨gi, hgi⟩ : ∃ gi, gi = wr.heap.size := ⟨_, rfl⟩
          rw [← hgi] at rv
          have HGI := Lib.hid hgi
          have HC1 := Lib.hid ((HC.out.below hbv).with (keeps_row gi 3 (nums .i64 [5, 7, 9]) (by decide) (by decide) (by decide) (by decide)) rv)
          clear hV hbv hzv hgi rv HC
          go_wp2_with fail
          rw [← HV.out, ← HGI.out]
          clear HV HGI
          go_loopw [53] (fun i wr => ∃ (j : Nat) (F' : Foot) (hk : Hp), j ≤ 3 ∧ i = .int .i64 j ∧ Hid (CN w2 F pb (fun X => Row X gi 3 (nums .i64 [5, 7, 9])) wr F' hk) ∧ Hid (isO hk (wd hk.rt 0) = true) ∧ Hid (nilR ([5, 7, 9].drop j) hk = hM)) (fun i _ => 3 - (RowKit.intOf i).toNat)
          case atStart => exact ⟨0, F', hk, Nat.zero_le _, rfl, HC1, HNil0, HNl⟩
          case round =>
            clear HC1 HNil0 HNl F' hk
            obtain ⟨j, F', hk, hjn, rfl, HC, HN0, HR⟩ := hrel
            by_cases h0 : j < 3
            · have d1 : decide ((j : Int) < 3) = true := decide_eq_true (by omega)
              have d2 : decide (j < 3) = true := decide_eq_true h0
              have hj3 : j = 0 ∨ j = 1 ∨ j = 2 := by omega
              have hr := HR.out
              have hd : [5, 7, 9].drop j = wd [5, 7, 9] j :: [5, 7, 9].drop (j + 1) := by rcases hj3 with rfl | rfl | rfl <;> rfl
              rw [hd] at hr
              have lt9 : wd [5, 7, 9] j < 64 ∧ wd [5, 7, 9] j ≠ 0 := by rcases hj3 with rfl | rfl | rfl <;> decide
              have sl := HC.out.ex.sl (n := 3) rfl (by decide)
              have ix := fun W => sl.index 48 Tryz.underlying48 size_int W .i64 j h0
              have cx := sl.cell h0
              rw [nums_get (by exact h0)] at cx
              generalize wd [5, 7, 9] j = rj at *
              have HRt := Lib.hid (cn_root HC.out 0 (by decide))
              have HSr := Lib.hid (fun Y F1 (cn : CN w2 F pb (fun X => Row X gi 3 (nums .i64 [5, 7, 9])) Y F1 hk) => cn_setroot cn rj lt9.1 (wd hk.rt 0) HN0.out)
              have hN2 : isO (setR hk rj (wd hk.rt 0)) (wd (setR hk rj (wd hk.rt 0)).rt 0) = true := by
                rw [setR_root HC.out.hp.good lt9.1, if_neg (fun e => lt9.2 e.symm)]; exact HN0.out
              have HN2 := Lib.hid hN2
              have HR2 := Lib.hid (show nilR ([5, 7, 9].drop (j + 1)) (setR hk rj (wd hk.rt 0)) = hM from hr)
              generalize setR hk rj (wd hk.rt 0) = hq at *
              generalize wd hk.rt 0 = ov at *
              clear hr hd sl HR hj3 lt9 hN2 HN0
              go_wp2_with fail
              refine (HRt.out).mono ?_
              rintro e Y1 ⟨rfl, hb⟩
              (try dsimp only)
              have HC1 := Lib.hid (HC.out.below hb)
              clear hb HC HRt
              go_wp2_with fail
              refine (HSr.out _ _ HC1.out).mono ?_
              rintro e Y2 ⟨rfl, F2, hC⟩
              (try dsimp only)
              have HC2 := Lib.hid hC
              clear hC HC1 HSr
              go_wp2_with fail
              go_roundw
              case rel => exact ⟨j + 1, F2, hq, h0, by simp, HC2, HN2, HR2⟩
              case measure => simp [RowKit.intOf]; omega
            · obtain rfl : j = 3 := by omega
              rw [show ((3 : Nat) : Int) = 3 from rfl]
              have d3 : decide ((3 : Int) < 3) = false := rfl
              have hr := HR.out
              have e1 : nilR ([5, 7, 9].drop 3) hk = hk := rfl
              rw [e1] at hr
              have hc := HC.out
              rw [hr] at hc
              have HCl := Lib.hid (booter_classes hc.hp hc.rb ms hP HPr2.out HPd.out)
              have HNa := Lib.hid (fun Y F1 (cn : CN w2 F pb (fun _ => True) Y F1 (clsAll bareCls (wireAll ms 0 plans hP))) => booter_names cn.hp cn.rb ms HP2.out hE HRs.out)
              have HC3 := Lib.hid (show CN w2 F pb (fun _ => True) wr F' hM from hc.with ⟨fun _ _ _ _ => trivial, fun _ _ _ _ _ _ _ _ _ => trivial⟩ trivial)
              clear hr e1 hc HC HN0 HR HPr2 HPd HP2 HRs
              go_wp2_with fail
              refine (HCl.out).mono ?_
              rintro e Y1 ⟨rfl, F1, hSt⟩
              (try dsimp only)
              have HC4 := Lib.hid (HC3.out.step hSt)
              have HNb := Lib.hid (HNa.out _ _ HC4.out)
              clear hSt HC3 HCl HNa
              go_wp2_with fail
              refine (HNb.out).mono ?_
              rintro e Y2 ⟨rfl, F2, hSt⟩
              (try dsimp only)
              have hC := HC4.out.step hSt
              have c1 := (BootRow.cells hC.boot).2
              have hp2 : F2.p = F.p := hC.p
              have hfin : HeapAt Y2 F2 hE ∧ Below w.heap.size w Y2 ∧ ∀ g ∈ F2.l, w.heap.size ≤ g := by
                refine ⟨hC.hp, HB2.out.trans (hC.st.2.2.belowB HB2.out.size HFl.out), fun g hg => ?_⟩
                rcases hC.st.2.1.mem g hg with e | e
                · exact HFl.out g e
                · have := HB2.out.size; omega
              have HFin := Lib.hid hfin
              have HPP := Lib.hid hp2
              clear hSt hC HC4 HNb hfin hp2
              go_wp2_with fail
              go_ret2
              exact ⟨F2, by rw [HPP.out]; rfl, HFin.out⟩
end Go.Proofs.YteiikhcadjdkcaaGreatDoor
namespace Go.Proofs.YteiikhcadjdkcaaGreatDoor
open Go Go.RowKit Limb
theorem boot_4096 (w : World) (hs : Spares w) : ∃ hE, ∀ X, Below w.heap.size w X → Calls Tryz.prog 4 #[.int .i64 4096] X fun e w' => ∃ F, e = .returned (.tuple #[.pointer (some ⟨F.p, 0, none⟩), .int .i64 0]) ∧ HeapAt w' F hE ∧ Below X.heap.size X w' ∧ ∀ g ∈ F.l, X.heap.size ≤ g := by
  obtain ⟨hA, hP, hE, ms, st, st2⟩ := steps_4096
  exact ⟨hE, fun X hb => kernel_boot X (hs.below hb hs.1) 4096 (by decide) (by decide) hA hP hE ms st st2⟩
section
variable {w : World} {F : Foot} {h : Hp}
theorem data_1 (H : HeapAt w F h) {ga : Nat} (A : Row w ga 30 [.int .u32 9]) :
    Calls Tryz.prog 8 #[.pointer (some ⟨F.p, 0, none⟩), .int .i64 1, .int .u32 7, .slice (some ⟨ga, 0, none⟩) 1 1] w fun e w' => e = .returned (.tuple #[.int .u32 15, .int .i64 1]) ∧ Below w.heap.size w w' := by
  have e1 : ansN h 1 3 4 = some 15 := by rw [ansN_num (by unfold isNum; omega)]; decide
  have := data_num H (n := 1) (x := 3) (y := 4) (show Row w ga 30 [.int .u32 (smallO 4 : Nat)] from A) (by decide) (by decide) ⟨by decide, by decide⟩ ⟨by decide, by decide⟩
  rw [e1] at this
  exact this
theorem data_2 (H : HeapAt w F h) {ga : Nat} (A : Row w ga 30 [.int .u32 (smallO 536870912 : Nat)]) :
    Calls Tryz.prog 8 #[.pointer (some ⟨F.p, 0, none⟩), .int .i64 1, .int .u32 (smallO 536870912 : Nat), .slice (some ⟨ga, 0, none⟩) 1 1] w fun e w' => e = .returned (.tuple #[.int .u32 0, .int .i64 0]) ∧ Below w.heap.size w w' := by
  have e1 : ansN h 1 536870912 536870912 = none := by rw [ansN_num (by unfold isNum; omega)]; decide
  have := data_num H (n := 1) (x := 536870912) (y := 536870912) A (by decide) (by decide) ⟨by decide, by decide⟩ ⟨by decide, by decide⟩
  rw [e1] at this
  exact this
theorem data_4 (H : HeapAt w F h) {ga : Nat} (A : Row w ga 30 [.int .u32 5]) :
    Calls Tryz.prog 8 #[.pointer (some ⟨F.p, 0, none⟩), .int .i64 4, .int .u32 (smallO (-7) : Nat), .slice (some ⟨ga, 0, none⟩) 1 1] w fun e w' => e = .returned (.tuple #[.int .u32 (smallO (-4) : Nat), .int .i64 1]) ∧ Below w.heap.size w w' := by
  have e1 : ansN h 4 (-7) 2 = some (smallO (-4)) := by rw [ansN_num (by unfold isNum; omega)]; decide
  have := data_num H (n := 4) (x := -7) (y := 2) (show Row w ga 30 [.int .u32 (smallO 2 : Nat)] from A) (by decide) (by decide) ⟨by decide, by decide⟩ ⟨by decide, by decide⟩
  rw [e1] at this
  exact this
set_option maxHeartbeats 3200000 in
set_option maxRecDepth 100000 in
theorem law_awake (w : World) (hs : Spares w) : Calls Tryz.prog 6 #[] w fun e w' => e = .returned (.bool true) ∧ Below w.heap.size w w' := by
  obtain ⟨hE, hBt⟩ := boot_4096 w hs
  have HBt := Lib.hid (hBt w (Below.refl _ _))
  have HSm := Lib.hid (fun X x (hx : Sm x) => law_small X hx)
  have HN1 := Lib.hid prim_numbers
  have HN2 := Lib.hid ref_numbers
  have HNu := Lib.hid law_num
  clear hBt hs
  go_enter Tryz.func6, Tryz.ntmps6
  go_wp2_with fail
  refine (HBt.out).mono ?_
  rintro e W1 ⟨F, rfl, H, hb, -⟩
  (try dsimp only)
  have HB := Lib.hid hb
  have HH := Lib.hid H
  obtain ⟨V1, hV1, rv1, hbv1, -⟩ := alloc_row W1 30 [.int .u32 9]
  have HV1 := Lib.hid hV1
  have HD1 := Lib.hid (data_1 (HH.out.below hbv1) rv1)
  have HBV1 := Lib.hid hbv1
  clear hb H hV1 rv1 hbv1 HBt
  go_wp2_with fail
  refine (HNu.out _ _).mono ?_
  rintro e W ⟨rfl, rfl⟩
  (try dsimp only)
  go_wp2_with fail
  rw [← HV1.out]
  refine HD1.out.mono ?_
  rintro e W2 ⟨rfl, hb⟩
  (try dsimp only)
  have HB2 := Lib.hid (HBV1.out.trans (hb.mono HBV1.out.size))
  clear hb HD1 HV1 HBV1
  go_wp2_with fail
  refine (HSm.out _ 536870912 ⟨by decide, by decide⟩).mono ?_
  rintro e W ⟨rfl, rfl⟩
  (try dsimp only)
  go_wp2_with fail
  refine (HSm.out _ 536870912 ⟨by decide, by decide⟩).mono ?_
  rintro e W ⟨rfl, rfl⟩
  (try dsimp only)
  obtain ⟨V2, hV2, rv2, hbv2, -⟩ := alloc_row W2 30 [.int .u32 (smallO 536870912 : Nat)]
  have HV2 := Lib.hid hV2
  have HBV2 := Lib.hid (HB2.out.trans (hbv2.mono HB2.out.size))
  have HD2 := Lib.hid (data_2 (HH.out.below HBV2.out) rv2)
  clear hV2 rv2 hbv2
  go_wp2_with fail
  rw [← HV2.out]
  refine HD2.out.mono ?_
  rintro e W3 ⟨rfl, hb⟩
  (try dsimp only)
  have HB3 := Lib.hid (HBV2.out.trans (hb.mono HBV2.out.size))
  clear hb HD2 HV2 HBV2 HB2
  go_wp2_with fail
  refine (HSm.out _ (-7) ⟨by decide, by decide⟩).mono ?_
  rintro e W ⟨rfl, rfl⟩
  (try dsimp only)
  obtain ⟨V3, hV3, rv3, hbv3, -⟩ := alloc_row W3 30 [.int .u32 5]
  have HV3 := Lib.hid hV3
  have HBV3 := Lib.hid (HB3.out.trans (hbv3.mono HB3.out.size))
  have HD3 := Lib.hid (data_4 (HH.out.below HBV3.out) rv3)
  clear hV3 rv3 hbv3
  go_wp2_with fail
  rw [← HV3.out]
  refine HD3.out.mono ?_
  rintro e W4 ⟨rfl, hb⟩
  (try dsimp only)
  have HB4 := Lib.hid (HB.out.trans ((HBV3.out.trans (hb.mono HBV3.out.size)).mono HB.out.size))
  clear hb HD3 HV3 HBV3 HB3
  go_wp2_with fail
  refine (HSm.out _ (-4) ⟨by decide, by decide⟩).mono ?_
  rintro e W ⟨rfl, rfl⟩
  (try dsimp only)
  go_wp2_with fail
  refine (HN1.out _).mono ?_
  rintro e W5 ⟨g1, c1, rfl, hs1, hg1, hb1⟩
  (try dsimp only)
  have HB5 := Lib.hid (HB4.out.trans (hb1.mono HB4.out.size))
  clear hs1 hg1 hb1 HB4
  go_wp2_with fail
  refine (HN2.out _).mono ?_
  rintro e W6 ⟨g2, c2, rfl, hs2, hg2, hb2⟩
  (try dsimp only)
  have HB6 := Lib.hid (HB5.out.trans (hb2.mono HB5.out.size))
  clear hs2 hg2 hb2 HB5
  go_wp2_with fail
  go_ret
  exact ⟨rfl, HB6.out⟩
end
end Go.Proofs.YteiikhcadjdkcaaGreatDoor
namespace Go.Proofs.YteiikhcadjdkcaaGreatDoor
open Go Go.RowKit Go.Maps Limb
def CameB (w : World) (a : Option Addr) (n c : Nat) (l : List Nat) : Prop := Lay .u8 w a l ∧ B8 l ∧ n = l.length ∧ n ≤ c
theorem lay_subA {w : World} {a : Option Addr} {l : List Nat} (hl : Lay .u8 w a l) {lo hi c : Nat} (h1 : lo ≤ hi) (h2 : hi ≤ l.length) (hc : l.length ≤ c) :
    Lay .u8 w (if c = lo then a else a.map (·.add (lo * 1))) ((l.drop lo).take (hi - lo)) := by
  by_cases h0 : c = lo
  · have : (l.drop lo).take (hi - lo) = [] := by rw [List.drop_of_length_le (by omega)]; simp
    rw [this]; exact Lay.nil _ _ _
  · rw [if_neg h0]
    by_cases h3 : lo < l.length
    · obtain ⟨b, off, e1, e2⟩ := hl
      obtain ⟨rfl, e4⟩ := e1 (by omega)
      have ea : (⟨b, off, none⟩ : Addr).add (lo * 1) = ⟨b, off + lo, none⟩ := by
        unfold Addr.add
        by_cases h5 : lo = 0
        · subst h5; rfl
        · simp [h5]
      refine ⟨b, off + lo, fun _ => ⟨by rw [Option.map_some, ea], e4⟩, fun i hi' => ?_⟩
      rw [List.length_take, List.length_drop] at hi'
      have := e2 (lo + i) (by omega)
      rw [← Nat.add_assoc] at this
      rw [this, wd_take (by omega), wd_drop]
    · have : (l.drop lo).take (hi - lo) = [] := by rw [List.drop_of_length_le (by omega)]; simp
      rw [this]; exact Lay.nil _ _ _
theorem conv_any {w : World} {a : Option Addr} {l : List Nat} {n c : Nat} (h : Lay .u8 w a l) (hn : n = l.length) (hb : B8 l) {s : ByteArray} (hs : tx s = l) :
    (convert 22 9 (.slice a n c)).run Tryz.prog w = .ok (.string s) w := by
  by_cases h0 : 0 < l.length
  · obtain ⟨b, off, h1, h2⟩ := h
    obtain ⟨rfl, -⟩ := h1 h0
    have := run_convert_bytes_arg (P := Tryz.prog) (w := w) 22 5 Tryz.underlying22 Tryz.underlying5 b off n c (l.map fun n : Nat => (n : Int)) (by simp [hn]) (fun i hi => by
      rw [h2 i (by omega), wd_lt (by omega)]
      simp [List.getD_eq_getElem?_getD, show i < l.length by omega]) 9 Tryz.underlying9
    rw [this, show strOfNums (l.map fun n : Nat => (n : Int)) = s from tx_inj ((str_of_nats hb).trans hs.symm)]
  · obtain rfl := List.eq_nil_of_length_eq_zero (by omega : l.length = 0)
    obtain rfl : n = 0 := hn
    rw [run_convert_bytes_zero w 22 5 Tryz.underlying22 Tryz.underlying5 a c 9 Tryz.underlying9, show ByteArray.empty = s from tx_inj (by rw [hs]; rfl)]
theorem xor_one {x : Nat} (hx : x < 256) : ∃ vb : Nat, bits BinOp.xor IntKind.u8 (x : Int) 1 = (vb : Int) ∧ vb < 256 := by
  have h : ∀ y : Fin 256, ∃ vb : Fin 256, bits BinOp.xor IntKind.u8 ((y : Nat) : Int) 1 = ((vb : Nat) : Int) := by decide +kernel
  obtain ⟨vb, e⟩ := h ⟨x, hx⟩
  exact ⟨vb, e, vb.2⟩
theorem bs_ext {h h' : Hp} (x : Ext h h') (k : Limb.Good h) {o : Nat} {t : List Nat} (b : Bs h o (wd h.rt 19) t) : Bs h' o (wd h'.rt 19) t := by rw [x.rt]; exact x.bs k b
theorem ne_new {h : Hp} (k : Limb.Good h) {o c : Nat} {t : List Nat} (b : Bs h o c t) : newO h ≠ o := fun e => by
  have h1 := begins_lt (isO_iff.1 b.is).2.2
  rw [k.len] at h1
  unfold newO at e
  omega
theorem within_clamp {x y : Int} {n : Nat} (hn : n ≤ 2000) : withinB (clamp x) (clamp y) n = (decide (1 ≤ x) && (decide (x - 1 ≤ y) && decide (y ≤ n))) := by
  unfold withinB
  by_cases h1 : 1 ≤ x ∧ x - 1 ≤ y ∧ y ≤ n
  · obtain ⟨a, b, c⟩ := h1
    have e1 : clamp x = x := by unfold clamp; omega
    have e2 : clamp y = y := by unfold clamp; omega
    rw [e1, e2]
  · have h2 : ¬ (1 ≤ clamp x ∧ clamp x - 1 ≤ clamp y ∧ clamp y ≤ n) := by unfold clamp; omega
    have f : ∀ (p q r : Prop) [Decidable p] [Decidable q] [Decidable r], ¬ (p ∧ q ∧ r) → (decide p && (decide q && decide r)) = false := fun p q r _ _ _ hh => by
      by_cases h1 : p <;> by_cases h2 : q <;> by_cases h3 : r <;> simp_all
    rw [f _ _ _ h1, f _ _ _ h2]
theorem boot_16384 (w : World) (hs : Spares w) : ∃ hE, Str 16384 hE ∧ ∀ X, Below w.heap.size w X → Calls Tryz.prog 4 #[.int .i64 16384] X fun e w' => ∃ F, e = .returned (.tuple #[.pointer (some ⟨F.p, 0, none⟩), .int .i64 0]) ∧ HeapAt w' F hE ∧ Below X.heap.size X w' ∧ ∀ g ∈ F.l, X.heap.size ≤ g := by
  obtain ⟨hA, hP, hE, ms, st, st2, hS⟩ := steps_16384
  exact ⟨hE, hS, fun X hb => kernel_boot X (hs.below hb hs.1) 16384 (by decide) (by decide) hA hP hE ms st st2⟩
def StrRes (w : World) (P : Nat) (h : Hp) (j : Nat) (t : List Nat) (e : Ending) (X' : World) : Prop :=
  ∃ F' h' o, e = .returned (.tuple #[.int .u32 (o : Nat), .int .i64 0]) ∧ St w P X' F' h' (j + 1) ∧ Ext h h' ∧ Bs h' o (wd h'.rt 19) t ∧ o = newO h
section
variable {w X : World} {P j : Nat} {F : Foot} {h : Hp}
theorem d_string (S : St w P X F h j) (hj : j ≤ 12) (T : ByteArray) (ht : (tx T).length ≤ 2000) :
    Calls Tryz.prog 7 #[.pointer (some ⟨P, 0, none⟩), .string T] X (StrRes w P h j (tx T)) := by
  obtain ⟨o, h', e, hx, hb, ho, hst⟩ := make_ok S hj (tx_b8 T) ht
  have := kernel_string S.at_ S.sc T (by rw [← tx_length]; omega) o h' e
  rw [S.p] at this
  exact this.mono fun e X' ⟨he, F', st⟩ => ⟨F', h', o, he, hst _ _ st, hx, by rw [hx.rt]; exact hb, ho⟩
theorem d_text (S : St w P X F h j) {o c : Nat} {T : ByteArray} (b : Bs h o c (tx T)) :
    Calls Tryz.prog 9 #[.pointer (some ⟨P, 0, none⟩), .int .u32 o] X fun e w' => e = .returned (.tuple #[.string T, .int .i64 0]) ∧ Below X.heap.size X w' := by
  have := kernel_text S.at_ (live_of S.sc.live) b
  rwa [S.p] at this
theorem d_root (S : St w P X F h j) : Calls Tryz.prog 12 #[.pointer (some ⟨P, 0, none⟩), .int .i64 1] X fun e w' => e = .returned (.tuple #[.int .u32 (wd h.rt 1 : Nat), .int .i64 0]) ∧ X = w' := by
  have := heap_root S.at_ 1 (by decide)
  rwa [S.p] at this
end
end Go.Proofs.YteiikhcadjdkcaaGreatDoor
