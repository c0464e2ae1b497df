/- The walks of package kernel: isGlobal, Symbol, Global. Package kernel's Format of the class String. -/
import Derived.Test.YteiikhcadjdkcaaGreatDoorGX28
import Derived.Test.YteiikhcadjdkcaaGreatDoorGX27
set_option linter.unusedVariables false
set_option linter.unusedSimpArgs false
namespace Go.Proofs.YteiikhcadjdkcaaGreatDoor
open Go Go.RowKit Limb
section
variable {w : World} {F : Foot} {h : Hp}
theorem getF_fld {o i n : Nat} (hp : isF h o 1 n = true) (hi : i < n) : getF h o i = fld h o i := by
  unfold getF
  rw [if_pos]
  unfold isF at hp ⊢
  simp only [Bool.and_eq_true, decide_eq_true_eq] at hp ⊢
  exact ⟨hp.1, by omega⟩
set_option maxHeartbeats 1600000 in
set_option maxRecDepth 100000 in
theorem kernel_isGlobal (H : HeapAt w F h) (o : Nat) (ho : o < 4294967296) (S : ByteArray) (hS : S.size ≤ 262140) :
    Calls Tryz.prog 189 #[.pointer (some ⟨F.p, 0, none⟩), .int .u32 o, .string S] w fun e w' => e = .returned (.bool (isGlob h (tx S) o)) ∧ Below w.heap.size w w' := by
  have HP := Lib.hid (kernel_pointers H o 2 ho)
  obtain ⟨r, hr⟩ : ∃ b, b = isGlob h (tx S) o := ⟨_, rfl⟩
  have hr2 := hr
  unfold isGlob at hr2
  rw [← hr]
  have HR := Lib.hid hr2
  clear hr hr2
  cases hp : isF h o 1 2 with
  | false =>
    have hP := HP.out
    rw [hp] at hP
    have HP := Lib.hid hP
    obtain rfl : r = false := by rw [HR.out, hp]; rfl
    clear hP hp H HR
    go_enter Tryz.func189, Tryz.ntmps189
    go_wp2_with fail
    refine (HP.out).mono ?_
    rintro e V ⟨rfl, hB⟩
    (try dsimp only)
    go_wp2_with fail
    go_ret
    exact ⟨rfl, hB⟩
  | true =>
    have hP := HP.out
    rw [hp] at hP
    have HP := Lib.hid hP
    have hf := fun X (hb : Below w.heap.size w X) => kernel_field (H.below hb) o 0 ho (by decide)
    rw [getF_fld hp (by decide)] at hf
    have HF := Lib.hid hf
    have hv := fld_lt32 H.good o 0
    have HRd := Lib.hid (fun X (hb : Below w.heap.size w X) => kernel_reads (H.below hb) (fld h o 0) hv S hS)
    have hrr := HR.out
    rw [hp, Bool.true_and] at hrr
    have HRR := Lib.hid hrr
    generalize fld h o 0 = v at *
    obtain ⟨b, hb0⟩ : ∃ b, b = readsO h (tx S) v := ⟨_, rfl⟩
    have hrd := HRd.out
    rw [← hb0] at hrd
    have HRd := Lib.hid hrd
    obtain rfl : r = b := by rw [HRR.out, hb0]
    clear hP hp H HR HRR hrr hf hrd hb0
    go_enter Tryz.func189, Tryz.ntmps189
    go_wp2_with fail
    refine (HP.out).mono ?_
    rintro e V ⟨rfl, hB⟩
    (try dsimp only)
    go_wp2_with fail
    refine (HF.out V hB).mono ?_
    rintro e V1 ⟨rfl, hb⟩
    (try dsimp only)
    replace hB := hB.trans (hb.mono hB.size)
    clear hb
    go_wp2_with fail
    refine (HRd.out _ hB).mono ?_
    rintro e V2 ⟨rfl, hb⟩
    (try dsimp only)
    replace hB := hB.trans (hb.mono hB.size)
    clear hb
    go_wp2_with fail
    go_ret
    exact ⟨rfl, hB⟩
theorem kernel_symbol_fn (S : ByteArray) (hS : S.size ≤ 262140) (a b : Nat) (X : World) (HX : HeapAt X F h) (ra : Row X a 23 [.pointer (some ⟨F.p, 0, none⟩)]) (rb : Row X b 9 [.string S]) (o : Nat) (ho : o < 4294967296) :
    Calls Tryz.prog 256 #[.int .u32 (o : Nat), .pointer (some ⟨a, 0, none⟩), .pointer (some ⟨b, 0, none⟩)] X fun e X' => e = .returned (.bool (readsO h (tx S) o)) ∧ Below X.heap.size X X' := by
  have HI := Lib.hid (kernel_reads HX o ho S hS)
  have c0 := ra.cell_at 0
  have c1 := rb.cell_at 0
  simp only [List.getElem?_cons_zero] at c0 c1
  generalize readsO h (tx S) o = v at *
  clear HX ra rb
  go_enter Tryz.func256, Tryz.ntmps256
  go_wp2_with fail
  refine (HI.out).mono ?_
  rintro e V ⟨rfl, hB⟩
  (try dsimp only)
  go_wp2_with fail
  go_ret
  exact ⟨rfl, hB⟩
set_option maxHeartbeats 1600000 in
set_option maxRecDepth 100000 in
theorem kernel_symbol (H : HeapAt w F h) (hL : Live h) (S : ByteArray) (hS : S.size ≤ 262140) :
    Calls Tryz.prog 185 #[.pointer (some ⟨F.p, 0, none⟩), .string S] w fun e w' => e = .returned (.int .u32 (symP h (tx S) : Nat)) ∧ Below w.heap.size w w' := by
  obtain ⟨W, hW, ra, hb1, hz1⟩ := alloc_row w 23 [.pointer (some ⟨F.p, 0, none⟩)]
  obtain ⟨V, hV, rb, hb2, hz2⟩ := alloc_row W 9 [.string S]
  rw [hz1] at rb
  have hB : Below w.heap.size w V := hb1.trans (hb2.mono (by omega))
  replace ra := ra.below hb2 ra.lt
  have HV := Lib.hid (show V = (w.alloc (.cells #[.pointer (some ⟨F.p, 0, none⟩)] 23)).alloc (.cells #[.string S] 9) by rw [hV, hW])
  have HH := H.below hB
  have hl := root_lt H.good 3
  have HR := Lib.hid (kernel_root HH 3 (by decide))
  have HFo := Lib.hid (found_symbol HH (wd h.rt 3) hl (readsO h (tx S)) (.pointer (some ⟨w.heap.size, 0, none⟩)) (.pointer (some ⟨w.heap.size + 1, 0, none⟩)) (fun X hx o ho => kernel_symbol_fn S hS _ _ X (HH.below hx) (ra.below hx ra.lt) (rb.below hx rb.lt) o ho))
  have HBa := Lib.hid (fun X (hb : Below w.heap.size w X) => kernel_bare (H.below hb) hL)
  have HFi := Lib.hid (fun X (hb : Below w.heap.size w X) k (hk : k ≤ 65535) => kernel_field (H.below hb) (wd h.rt 3) k hl hk)
  have HN := Lib.hid (show isF h (wd h.rt 3) 1 0 = false → symP h (tx S) = 0 from fun e => by unfold symP entries; rw [if_neg (by rw [e]; decide)]; rfl)
  have HN1 := Lib.hid (show isF h (wd h.rt 3) 1 0 = true → (Limb.ahead (wd h.rt 0) (flds h (wd h.rt 3))).find? (readsO h (tx S)) = none → symP h (tx S) = 0 from fun e e2 => by unfold symP entries; rw [if_pos e, e2]; rfl)
  have HS1 := Lib.hid (fun k (hk : k < (hdO h (wd h.rt 3)).size) (e : isF h (wd h.rt 3) 1 0 = true) (e2 : (Limb.ahead (wd h.rt 0) (flds h (wd h.rt 3))).find? (readsO h (tx S)) = some (fld h (wd h.rt 3) k)) => show symP h (tx S) = getF h (wd h.rt 3) k ∧ k ≤ 65535 from by
    have hs : (hdO h (wd h.rt 3)).size ≤ 65535 := by
      unfold isF at e; simp only [Bool.and_eq_true] at e
      exact (H.good.ok _ (isO_iff.1 e.1.1).2.2).1.size
    refine ⟨?_, by omega⟩
    unfold symP entries
    rw [if_pos e, e2]
    have : isF h (wd h.rt 3) 1 (k + 1) = true := by
      unfold isF at e ⊢
      simp only [Bool.and_eq_true, decide_eq_true_eq] at e ⊢
      exact ⟨e.1, by omega⟩
    rw [getF_fld this (by omega)]; rfl)
  have HPl := Lib.hid (show symP h (tx S) = symP h (tx S) from rfl)
  generalize hpl : symP h (tx S) = pl at *
  have Hpl := Lib.hid hpl
  generalize hroot : wd h.rt 3 = l at *
  have c0 := ra.cell_at 0
  simp only [List.getElem?_cons_zero] at c0
  clear hW hV hz1 hz2 hb1 hb2 HPl hpl hroot hL H
  go_enter Tryz.func185, Tryz.ntmps185
  go_wp2_with fail
  rw [← HV.out]
  go_wp2_with fail
  refine (HR.out).mono ?_
  rintro e V1 ⟨rfl, rfl⟩
  (try dsimp only)
  go_wp2_with fail
  refine (HFo.out).mono ?_
  rintro e V2 ⟨⟨z, rfl, hz⟩, hb⟩
  (try dsimp only)
  replace ra := ra.below hb ra.lt
  replace hB := hB.trans (hb.mono hB.size)
  clear hb c0 rb
  have c0 := ra.cell_at 0
  simp only [List.getElem?_cons_zero] at c0
  rcases hz with ⟨rfl, hz⟩ | ⟨k, rfl, hz1, hz2, hz3⟩
  · obtain rfl : pl = 0 := by
      cases e : isF h l 1 0 with
      | false => exact HN.out e
      | true => exact HN1.out e (hz e)
    clear hz HN HN1 HS1 Hpl HFo HR
    go_wp2_with fail
    go_ret
    exact ⟨rfl, hB⟩
  · obtain ⟨e1, e2⟩ := HS1.out k hz2 hz1 hz3
    have d1 : decide ((k : Int) < 0) = false := decide_eq_false (by omega)
    have hfi := fun X hb => HFi.out X hb k e2
    rw [← e1] at hfi
    have HFi1 := Lib.hid hfi
    clear hz1 hz2 hz3 HN HN1 HS1 Hpl HFo HR hfi e1
    go_wp2_with fail
    refine (HBa.out _ hB).mono ?_
    rintro e V3 ⟨rfl, hb⟩
    (try dsimp only)
    replace ra := ra.below hb ra.lt
    replace hB := hB.trans (hb.mono hB.size)
    clear hb c0
    have c0 := ra.cell_at 0
    simp only [List.getElem?_cons_zero] at c0
    go_wp2_with fail
    refine (HFi1.out _ hB).mono ?_
    rintro e V4 ⟨rfl, hb⟩
    (try dsimp only)
    replace hB := hB.trans (hb.mono hB.size)
    clear hb
    go_wp2_with fail
    go_ret
    exact ⟨rfl, hB⟩
theorem kernel_global_fn (S : ByteArray) (hS : S.size ≤ 262140) (a b : Nat) (X : World) (HX : HeapAt X F h) (ra : Row X a 23 [.pointer (some ⟨F.p, 0, none⟩)]) (rb : Row X b 9 [.string S]) (o : Nat) (ho : o < 4294967296) :
    Calls Tryz.prog 188 #[.int .u32 (o : Nat), .pointer (some ⟨a, 0, none⟩), .pointer (some ⟨b, 0, none⟩)] X fun e X' => e = .returned (.bool (isGlob h (tx S) o)) ∧ Below X.heap.size X X' := by
  have HI := Lib.hid (kernel_isGlobal HX o ho S hS)
  have c0 := ra.cell_at 0
  have c1 := rb.cell_at 0
  simp only [List.getElem?_cons_zero] at c0 c1
  generalize isGlob h (tx S) o = v at *
  clear HX ra rb
  go_enter Tryz.func188, Tryz.ntmps188
  go_wp2_with fail
  refine (HI.out).mono ?_
  rintro e V ⟨rfl, hB⟩
  (try dsimp only)
  go_wp2_with fail
  go_ret
  exact ⟨rfl, hB⟩
set_option maxHeartbeats 1600000 in
set_option maxRecDepth 100000 in
theorem kernel_global (H : HeapAt w F h) (hL : Live h) (S : ByteArray) (hS : S.size ≤ 262140) :
    Calls Tryz.prog 63 #[.pointer (some ⟨F.p, 0, none⟩), .string S] w fun e w' => e = .returned (.int .u32 (globP h (tx S) : Nat)) ∧ Below w.heap.size w w' := by
  obtain ⟨W, hW, ra, hb1, hz1⟩ := alloc_row w 23 [.pointer (some ⟨F.p, 0, none⟩)]
  obtain ⟨V, hV, rb, hb2, hz2⟩ := alloc_row W 9 [.string S]
  rw [hz1] at rb
  have hB : Below w.heap.size w V := hb1.trans (hb2.mono (by omega))
  replace ra := ra.below hb2 ra.lt
  have HV := Lib.hid (show V = (w.alloc (.cells #[.pointer (some ⟨F.p, 0, none⟩)] 23)).alloc (.cells #[.string S] 9) by rw [hV, hW])
  have HH := H.below hB
  have hl := root_lt H.good 4
  have HR := Lib.hid (kernel_root HH 4 (by decide))
  have HFo := Lib.hid (found_global HH (wd h.rt 4) hl (isGlob h (tx S)) (.pointer (some ⟨w.heap.size, 0, none⟩)) (.pointer (some ⟨w.heap.size + 1, 0, none⟩)) (fun X hx o ho => kernel_global_fn S hS _ _ X (HH.below hx) (ra.below hx ra.lt) (rb.below hx rb.lt) o ho))
  have HBa := Lib.hid (fun X (hb : Below w.heap.size w X) => kernel_bare (H.below hb) hL)
  have HFi := Lib.hid (fun X (hb : Below w.heap.size w X) k (hk : k ≤ 65535) => kernel_field (H.below hb) (wd h.rt 4) k hl hk)
  have HN := Lib.hid (show isF h (wd h.rt 4) 1 0 = false → globP h (tx S) = 0 from fun e => by unfold globP entries; rw [if_neg (by rw [e]; decide)]; rfl)
  have HN1 := Lib.hid (show isF h (wd h.rt 4) 1 0 = true → (Limb.ahead (wd h.rt 0) (flds h (wd h.rt 4))).find? (isGlob h (tx S)) = none → globP h (tx S) = 0 from fun e e2 => by unfold globP entries; rw [if_pos e, e2]; rfl)
  have HS1 := Lib.hid (fun k (hk : k < (hdO h (wd h.rt 4)).size) (e : isF h (wd h.rt 4) 1 0 = true) (e2 : (Limb.ahead (wd h.rt 0) (flds h (wd h.rt 4))).find? (isGlob h (tx S)) = some (fld h (wd h.rt 4) k)) => show globP h (tx S) = getF h (wd h.rt 4) k ∧ k ≤ 65535 from by
    have hs : (hdO h (wd h.rt 4)).size ≤ 65535 := by
      unfold isF at e; simp only [Bool.and_eq_true] at e
      exact (H.good.ok _ (isO_iff.1 e.1.1).2.2).1.size
    refine ⟨?_, by omega⟩
    unfold globP entries
    rw [if_pos e, e2]
    have : isF h (wd h.rt 4) 1 (k + 1) = true := by
      unfold isF at e ⊢
      simp only [Bool.and_eq_true, decide_eq_true_eq] at e ⊢
      exact ⟨e.1, by omega⟩
    rw [getF_fld this (by omega)]; rfl)
  have HPl := Lib.hid (show globP h (tx S) = globP h (tx S) from rfl)
  generalize hpl : globP h (tx S) = pl at *
  have Hpl := Lib.hid hpl
  generalize hroot : wd h.rt 4 = l at *
  have c0 := ra.cell_at 0
  simp only [List.getElem?_cons_zero] at c0
  clear hW hV hz1 hz2 hb1 hb2 HPl hpl hroot hL H
  go_enter Tryz.func63, Tryz.ntmps63
  go_wp2_with fail
  rw [← HV.out]
  go_wp2_with fail
  refine (HR.out).mono ?_
  rintro e V1 ⟨rfl, rfl⟩
  (try dsimp only)
  go_wp2_with fail
  refine (HFo.out).mono ?_
  rintro e V2 ⟨⟨z, rfl, hz⟩, hb⟩
  (try dsimp only)
  replace ra := ra.below hb ra.lt
  replace hB := hB.trans (hb.mono hB.size)
  clear hb c0 rb
  have c0 := ra.cell_at 0
  simp only [List.getElem?_cons_zero] at c0
  rcases hz with ⟨rfl, hz⟩ | ⟨k, rfl, hz1, hz2, hz3⟩
  · obtain rfl : pl = 0 := by
      cases e : isF h l 1 0 with
      | false => exact HN.out e
      | true => exact HN1.out e (hz e)
    clear hz HN HN1 HS1 Hpl HFo HR
    go_wp2_with fail
    go_ret
    exact ⟨rfl, hB⟩
  · obtain ⟨e1, e2⟩ := HS1.out k hz2 hz1 hz3
    have d1 : decide ((k : Int) < 0) = false := decide_eq_false (by omega)
    have hfi := fun X hb => HFi.out X hb k e2
    rw [← e1] at hfi
    have HFi1 := Lib.hid hfi
    clear hz1 hz2 hz3 HN HN1 HS1 Hpl HFo HR hfi e1
    go_wp2_with fail
    refine (HBa.out _ hB).mono ?_
    rintro e V3 ⟨rfl, hb⟩
    (try dsimp only)
    replace ra := ra.below hb ra.lt
    replace hB := hB.trans (hb.mono hB.size)
    clear hb c0
    have c0 := ra.cell_at 0
    simp only [List.getElem?_cons_zero] at c0
    go_wp2_with fail
    refine (HFi1.out _ hB).mono ?_
    rintro e V4 ⟨rfl, hb⟩
    (try dsimp only)
    replace hB := hB.trans (hb.mono hB.size)
    clear hb
    go_wp2_with fail
    go_ret
    exact ⟨rfl, hB⟩
end
end Go.Proofs.YteiikhcadjdkcaaGreatDoor
namespace Go.Proofs.YteiikhcadjdkcaaGreatDoor
open Go Go.RowKit Limb
section
variable {w : World} {F : Foot} {h : Hp}
theorem store3 {w : World} {g : Nat} {e : TypeId} {a b c : Value} (h : Row w g e [a, b, c]) (x y z : Value) : Row (((w.setCell ⟨g, 0, none⟩ x).setCell ⟨g, 1, none⟩ y).setCell ⟨g, 2, none⟩ z) g e [x, y, z] :=
  ((h.store_any 0 x).store_any 1 y).store_any 2 z
theorem below_store3 {w W : World} {g : Nat} (h : Below w.heap.size w W) (hg : w.heap.size ≤ g) (x y z : Value) : Below w.heap.size w (((W.setCell ⟨g, 0, none⟩ x).setCell ⟨g, 1, none⟩ y).setCell ⟨g, 2, none⟩ z) :=
  below_store (below_store (below_store h hg x) hg y) hg z
set_option maxRecDepth 100000 in
theorem kernel_shaped (H : HeapAt w F h) {o : Nat} (ho : isF h o 1 6 = true) :
    Calls Tryz.prog 242 #[.pointer (some ⟨F.p, 0, none⟩), .int .u32 o] w fun e w' => e = .returned (.bool true) ∧ Below w.heap.size w w' := by
  have HP := Lib.hid (kernel_pointers H o 6 (isO_lt H.good (isF_isO ho)))
  rw [ho] at HP
  clear H ho
  go_enter Tryz.func242, Tryz.ntmps242
  go_wp2_with fail
  refine (HP.out).mono ?_
  rintro e V ⟨rfl, hb⟩
  (try dsimp only)
  have HB := Lib.hid hb
  clear hb HP
  go_wp2_with fail
  go_ret
  exact ⟨rfl, HB.out⟩
set_option maxRecDepth 100000 in
theorem kernel_look_ok (H : HeapAt w F h) (S : SC h) :
    Calls Tryz.prog 253 #[.pointer (some ⟨F.p, 0, none⟩), .int .u32 (wd h.rt 19 : Nat)] w fun e w' => e = .returned (.int .i64 0) ∧ Below w.heap.size w w' := by
  have HB0 := Lib.hid (kernel_bare H (live_of S.live))
  have HIs := Lib.hid (fun X (hb : Below w.heap.size w X) => show Calls Tryz.prog 24 #[.pointer (some ⟨F.p, 0, none⟩), .int .u32 (wd h.rt 19 : Nat)] X fun e w' => e = .returned (.bool true) ∧ X = w' from by
    have := heap_is (H.below hb) (wd h.rt 19) (isO_lt H.good (isF_isO S.cls))
    rwa [isF_isO S.cls] at this)
  have HSh := Lib.hid (fun X (hb : Below w.heap.size w X) => kernel_shaped (H.below hb) S.cls)
  clear H S
  go_enter Tryz.func253, Tryz.ntmps253
  go_wp2_with fail
  refine (HB0.out).mono ?_
  rintro e V ⟨rfl, hb⟩
  (try dsimp only)
  have HB := Lib.hid hb
  clear hb HB0
  go_wp2_with fail
  refine (HIs.out _ HB.out).mono ?_
  rintro e V1 ⟨rfl, rfl⟩
  (try dsimp only)
  go_wp2_with fail
  refine (HSh.out _ HB.out).mono ?_
  rintro e V1 ⟨rfl, hb⟩
  (try dsimp only)
  have HB1 := Lib.hid (HB.out.trans (hb.mono HB.out.size))
  clear hb HSh HIs HB
  go_wp2_with fail
  go_ret
  exact ⟨rfl, HB1.out⟩
set_option maxRecDepth 100000 in
theorem kernel_fits_b (w : World) : Calls Tryz.prog 273 #[.agg #[.int .i64 2, .int .i64 0, .bool true]] w fun e w' => e = .returned (.bool true) ∧ Below w.heap.size w w' := by
  obtain ⟨W, hW, r0, hB, hz⟩ := alloc_row w 85 [.int .i64 2, .int .i64 0, .bool true]
  obtain ⟨k0, k1, k2⟩ := r0.cells3
  have HW := Lib.hid hW
  have HB := Lib.hid hB
  clear hW r0 hB hz
  go_enter Tryz.func273, Tryz.ntmps273
  go_upto_region 1 with fail
  rw [← HW.out]
  go_wp2_with fail
  go_ret
  exact ⟨rfl, HB.out⟩
set_option maxRecDepth 100000 in
theorem kernel_written_b (w : World) : Calls Tryz.prog 35 #[.agg #[.int .i64 2, .int .i64 0, .bool true]] w fun e w' => e = .returned (.int .i64 65538) ∧ Below w.heap.size w w' := by
  obtain ⟨W, hW, r0, hB, hz⟩ := alloc_row w 85 [.int .i64 2, .int .i64 0, .bool true]
  obtain ⟨k0, k1, k2⟩ := r0.cells3
  have HW := Lib.hid hW
  have HB := Lib.hid hB
  clear hW r0 hB hz
  go_enter Tryz.func35, Tryz.ntmps35
  go_upto_region 1 with fail
  rw [← HW.out]
  go_wp2_with fail
  go_ret
  exact ⟨rfl, HB.out⟩
set_option maxHeartbeats 1600000 in
set_option maxRecDepth 100000 in
theorem kernel_format (H : HeapAt w F h) (S : SC h) :
    Calls Tryz.prog 213 #[.pointer (some ⟨F.p, 0, none⟩), .int .u32 (wd h.rt 19 : Nat)] w fun e w' => e = .returned (.tuple #[.agg #[.int .i64 2, .int .i64 0, .bool true], .int .i64 0]) ∧ Below w.heap.size w w' := by
  obtain ⟨W, hW, r0, hB, hz⟩ := alloc_row w 85 [.int .i64 0, .int .i64 0, .bool false]
  have HW := Lib.hid hW
  have HLk := Lib.hid (kernel_look_ok (H.below hB) S)
  have HFd := Lib.hid (fun X (hb : Below W.heap.size W X) => show Calls Tryz.prog 190 #[.pointer (some ⟨F.p, 0, none⟩), .int .u32 (wd h.rt 19 : Nat), .int .i64 4] X fun e w' => e = .returned (.int .u32 131077) ∧ Below X.heap.size X w' from by
    have := kernel_field ((H.below hB).below hb) (wd h.rt 19) 4 (isO_lt H.good (isF_isO S.cls)) (by decide)
    rwa [S.fmt] at this)
  have HVl := Lib.hid (fun X => show Calls Tryz.prog 207 #[.int .u32 131077] X fun e w' => e = .returned (.tuple #[.int .i64 65538, .int .i64 0]) ∧ X = w' from oop_value X 131077 (by decide) (by decide))
  have HFt := Lib.hid kernel_fits_b
  have HWr := Lib.hid kernel_written_b
  obtain ⟨g0, hg0⟩ : ∃ g, g = w.heap.size := ⟨_, rfl⟩
  rw [← hg0] at r0
  have Hg0 := Lib.hid hg0
  have R0 := Lib.hid r0
  have HBW := Lib.hid hB
  have HLg := Lib.hid (show w.heap.size ≤ g0 by omega)
  clear hW hz H S hg0 r0 hB
  go_enter Tryz.func213, Tryz.ntmps213
  obtain ⟨BP, hBP⟩ : ∃ B, bodyPost Tryz.prog Tryz.f213 (fun e w' => e = .returned (.tuple #[.agg #[.int .i64 2, .int .i64 0, .bool true], .int .i64 0]) ∧ Below w.heap.size w w') = B := ⟨_, rfl⟩
  rw [hBP]
  go_upto_region 1 with fail
  rw [← HW.out, ← Hg0.out]
  go_wp2_with fail
  refine (HLk.out).mono ?_
  rintro e V1 ⟨rfl, hb⟩
  (try dsimp only)
  have HB1 := Lib.hid hb
  clear hb HLk
  go_wp2_with fail
  refine (HFd.out _ HB1.out).mono ?_
  rintro e V2 ⟨rfl, hb⟩
  (try dsimp only)
  have HB2 := Lib.hid (HB1.out.trans (hb.mono HB1.out.size))
  clear hb HFd
  go_wp2_with fail
  refine (HVl.out _).mono ?_
  rintro e V3 ⟨rfl, rfl⟩
  (try dsimp only)
  obtain ⟨V4, hV4, r4, hb4, hz4⟩ := alloc_row V2 85 [.int .i64 2, .int .i64 0, .bool true]
  have HV4 := Lib.hid hV4
  have HB4 := Lib.hid (HB2.out.trans (hb4.mono HB2.out.size))
  obtain ⟨g, hg⟩ : ∃ g, g = V2.heap.size := ⟨_, rfl⟩
  rw [← hg] at r4
  have Hg := Lib.hid hg
  obtain ⟨k0, k1, k2⟩ := r4.cells3
  have R4 := Lib.hid r4
  clear hV4 r4 hb4 hz4 hg HVl HB1 HB2
  go_upto_region 6 with fail
  simp only [show bits BinOp.and IntKind.i64 65538 7 = 2 by decide +kernel, show bits BinOp.and IntKind.i64 8192 8191 = 0 by decide +kernel, show (bits BinOp.and IntKind.i64 65538 65536 != 0) = true by decide +kernel]
  rw [← HV4.out, ← Hg.out]
  go_wp2_with fail
  refine (HFt.out _).mono ?_
  rintro e V5 ⟨rfl, hb⟩
  (try dsimp only)
  have HB5 := Lib.hid (HB4.out.trans (hb.mono HB4.out.size))
  have R5 := Lib.hid (R4.out.below hb R4.out.lt)
  obtain ⟨k0, k1, k2⟩ := R5.out.cells3
  clear hb HFt R4 HB4
  go_wp2_with fail
  refine (HWr.out _).mono ?_
  rintro e V6 ⟨rfl, hb⟩
  (try dsimp only)
  have HB6 := Lib.hid (HB5.out.trans (hb.mono HB5.out.size))
  have R6 := Lib.hid (R5.out.below hb R5.out.lt)
  obtain ⟨k0, k1, k2⟩ := R6.out.cells3
  have r0 := R0.out.below HB6.out R0.out.lt
  have z0 := r0.free 0
  have z1 := r0.free 1
  have z2 := r0.free 2
  obtain ⟨p0, p1, p2⟩ := r0.cells3
  have RE := store3 r0 (.int .i64 2) (.int .i64 0) (.bool true)
  obtain ⟨f0, f1, f2⟩ := RE.cells3
  have HE := Lib.hid (below_store3 (HBW.out.trans (HB6.out.mono HBW.out.size)) HLg.out (.int .i64 2) (.int .i64 0) (.bool true))
  clear hb HWr R5 HB5 RE R0 r0 HBW
  go_wp2_with fail
  (try simp only [Exit.inBlock, Exit.then])
  rw [← hBP]
  refine bodyPost_ret (v := .tuple #[.agg #[.int .i64 2, .int .i64 0, .bool true], .int .i64 0]) (by simp [results, Tryz.results213, go_sem, f0, f1, f2]) rfl ⟨rfl, HE.out⟩
end
end Go.Proofs.YteiikhcadjdkcaaGreatDoor
