/- Primitives 53 and 55 over Strings: joined, equal. The walk of package kernel's Intern. -/
import Derived.Test.YteiikhcadjdkcaaGreatDoorGX34
import Derived.Test.YteiikhcadjdkcaaGreatDoorGX09
import Derived.Deep.Upon
import Derived.Test.YteiikhcadjdkcaaGreatDoorGX12
set_option linter.unusedVariables false
set_option linter.unusedSimpArgs false
namespace Go.Proofs.YteiikhcadjdkcaaGreatDoor
open Go Go.RowKit Limb
theorem lay_news {w : World} {g : Nat} {t : List Nat} (h : Lay .u8 w (some ⟨g, 0, none⟩) t) : ∀ j u, (nums .u8 t)[j]? = some u → w.cell? ((⟨g, 0, none⟩ : Addr).add j) = some u := by
  intro j u hj
  have ha : (⟨g, 0, none⟩ : Addr).add j = ⟨g, j, none⟩ := by
    unfold Addr.add
    by_cases h0 : j = 0
    · subst h0; rfl
    · simp [h0]
  have h1 := (List.getElem?_eq_some_iff.1 hj).1
  rw [nums_length] at h1
  obtain ⟨b, off, e1, e2⟩ := h
  have e3 := (e1 (by omega)).1
  simp only [Option.some.injEq, Addr.mk.injEq, and_true] at e3
  obtain ⟨rfl, rfl⟩ := e3
  have e4 := e2 j h1
  rw [Nat.zero_add] at e4
  rw [ha, e4, ← hj, nums_get h1]
theorem app_bytes (X : World) {g1 g2 : Nat} {t1 t2 : List Nat} (h1 : Lay .u8 X (some ⟨g1, 0, none⟩) t1) (h2 : Lay .u8 X (some ⟨g2, 0, none⟩) t2) (hl : t1.length + t2.length ≤ 1000000) :
    ∃ g c X', (Builtin.append_ #[22, 22] 22 #[.slice (some ⟨g1, 0, none⟩) t1.length t1.length, .slice (some ⟨g2, 0, none⟩) t2.length t2.length]).run Tryz.prog X = .ok (.slice (some ⟨g, 0, none⟩) (t1.length + t2.length) c) X' ∧ Below X.heap.size X X' ∧ Lay .u8 X' (some ⟨g, 0, none⟩) (t1 ++ t2) := by
  obtain ⟨i0, hi, hz0, hz1, hz2⟩ := info_parts info8
  rcases Nat.eq_zero_or_pos t2.length with h0 | h0
  · obtain rfl := List.eq_nil_of_length_eq_zero h0
    refine ⟨g1, t1.length, X, ?_, Below.refl _ _, by rw [List.append_nil]; exact h1⟩
    exact run_append_nothing (P := Tryz.prog) X _ _ _ 5 i0 Tryz.underlying22 hi _ _ _ (Nat.le_refl _) _ (Src.ofSlice X Tryz.underlying22 _ 0 _ [] (by simp) (fun j u hu => by simp at hu) (fun u hu => by cases hu))
  · have hn := nextslicecap_le (need := t1.length + t2.length) (old := t1.length) (by omega)
    refine ⟨X.heap.size, _, _, run_append_grow (P := Tryz.prog) (w := X) _ _ 5 i0 (.int .u8 0) Tryz.underlying22 hi hz0 ⟨g1, 0, none⟩ _ _ (nums .u8 t1) (by rw [nums_length, hz1, Nat.mul_one]) (lay_news h1) ⟨g2, 0, none⟩ _ _ (nums .u8 t2) (by rw [nums_length, hz1, Nat.mul_one]) (lay_news h2) (by omega) (by omega) (by rw [hz2]; omega), ?_, ?_⟩
    · exact (Below.refl _ _).drew.alloc (by simp) _
    · refine ⟨X.heap.size, 0, fun _ => ⟨rfl, by simp⟩, fun i hi => ?_⟩
      have e : ((nums .u8 t1).toArray ++ (nums .u8 t2).toArray) = (nums .u8 (t1 ++ t2)).toArray := by simp [nums]
      rw [e]
      have e2 := nums_get (k := .u8) hi
      have e3 : i < (nums .u8 (t1 ++ t2)).length := by rw [nums_length]; exact hi
      obtain ⟨W, hW, r, -, -⟩ := alloc_row X.drew 5 (nums .u8 (t1 ++ t2) ++ (Builtin.zeroCells (Value.int .u8 0).cells (grownCap X (t1.length + t2.length) t1.length 5 - (t1.length + t2.length))).toList)
      have e4 := r.cell_at i
      rw [List.getElem?_append_left e3, e2, hW] at e4
      rw [Nat.zero_add]
      have ea : ∀ (l : List Value) (z : Array Value), (l ++ z.toList).toArray = l.toArray ++ z := fun l z => by apply Array.ext'; simp
      rw [ea] at e4
      exact e4
section
variable {w : World} {F : Foot} {h : Hp}
set_option maxHeartbeats 3200000 in
set_option maxRecDepth 100000 in
theorem prim_joined (H : HeapAt w F h) (S : SC h) {p r ga q v : Nat} (R : Row w p 57 (callC F.p r (some ⟨ga, 0, none⟩) 1 1 v)) (A : Row w ga 30 [.int .u32 (q : Nat)])
    (hpF : p ∉ F.l) (h5 : 5 ≤ p) {t1 t2 : List Nat} (b1 : Bs h r (wd h.rt 19) t1) (b2 : Bs h q (wd h.rt 19) t2) (hl : t1.length + t2.length ≤ 262140) {o : Nat} {h' : Hp} (hp : makeP h (wd h.rt 19) (t1 ++ t2) = some (o, h')) :
    Calls Tryz.prog 126 #[.pointer (some ⟨p, 0, none⟩)] w fun e w' => e = .returned (.int .i64 1) ∧ Done w F p r (some ⟨ga, 0, none⟩) 1 1 w' o h' := by
  have hx := b1.cls
  have HB1 := Lib.hid (prim_bytes H R b1)
  have HB2 := Lib.hid (fun X (hb : Below w.heap.size w X) => prim_bytes (H.below hb) (R.below hb R.lt) b2)
  have HRc := Lib.hid (fun X (hb : Below w.heap.size w X) => show Calls Tryz.prog 218 #[.pointer (some ⟨p, 0, none⟩), .int .u32 r] X fun e w' => e = .returned (.int .u32 (wd h.rt 19 : Nat)) ∧ Below X.heap.size X w' from by
    have := prim_resultClass (H.below hb) (R.below hb R.lt) b1.is (by rw [hx]; exact S.d18)
    rwa [hx] at this)
  have HMk := Lib.hid (fun X g cap (hb : Below w.heap.size w X) (hly : Lay .u8 X (some ⟨g, 0, none⟩) (t1 ++ t2)) => show Calls Tryz.prog 22 #[.pointer (some ⟨F.p, 0, none⟩), .int .u32 (wd h.rt 19 : Nat), .slice (some ⟨g, 0, none⟩) (t1.length + t2.length) cap] X fun e w' => e = .returned (.tuple #[.int .u32 o, .int .i64 0]) ∧ Moved X F w' h' from by
    exact heap_MakeE (H.below hb) (wd h.rt 19) _ _ (t1.length + t2.length) cap o h' hly (fun x hx => by rcases List.mem_append.1 hx with hx | hx; exact b1.b8 x hx; exact b2.b8 x hx) (by rw [List.length_append]) (by omega) hp)
  have HFw := Lib.hid H.lt
  have HR := Lib.hid R
  have HA := Lib.hid A
  have HpF := Lib.hid (And.intro hpF h5)
  have HL := Lib.hid hl
  have HJ := Lib.hid (fun W => row_index (P := Tryz.prog) Tryz.underlying53 size_oop ga 1 1 .i64 ((0 : Nat) : Int) 0 rfl (by decide) (W := W))
  have q2 := R.cell_at 2
  unfold callC at q2
  simp only [List.getElem?_cons_zero, List.getElem?_cons_succ] at q2
  generalize wd h.rt 19 = cv at *
  clear H S R A hpF h5 b1 b2 hl hp hx
  go_enter Tryz.func126, Tryz.ntmps126
  go_wp2_with fail
  refine (HB1.out).mono ?_
  rintro e V1 ⟨⟨g1, rfl, -, hly⟩, hb⟩
  (try dsimp only)
  have HBa := Lib.hid hb
  have HLa := Lib.hid hly
  have RR := (HR.out.below hb HR.out.lt)
  have a0 := (HA.out.below hb HA.out.lt).cell_at 0
  have c3 := RR.cell_at 3
  unfold callC at c3
  simp only [List.getElem?_cons_zero, List.getElem?_cons_succ] at c3 a0
  have ix := HJ.out
  clear hb hly RR q2 HB1
  go_wp2_with fail
  refine (HB2.out _ HBa.out).mono ?_
  rintro e V2 ⟨⟨g2, rfl, -, hly⟩, hb⟩
  (try dsimp only)
  have HBb := Lib.hid (HBa.out.trans (hb.mono HBa.out.size))
  have HLb := Lib.hid hly
  have HLa2 := Lib.hid (HLa.out.below hb)
  clear hb hly a0 c3 ix HB2 HLa HBa HJ HA
  have HApp := Lib.hid (fun X (hb : Below V2.heap.size V2 X) => app_bytes X (HLa2.out.below hb) (HLb.out.below hb) (by have := HL.out; omega))
  have SX := Lib.hid (fun X (hb : Below w.heap.size w X) => show X.cell? ⟨p, 1, none⟩ = some (.pointer (some ⟨F.p, 0, none⟩)) ∧ X.cell? ⟨p, 2, none⟩ = some (.int .u32 (r : Nat)) from
    ⟨(HR.out.below hb HR.out.lt).cell_at 1, (HR.out.below hb HR.out.lt).cell_at 2⟩)
  have HV2 := Lib.hid HBb.out.size
  have hX := SX.out _ HBb.out.drew
  have HBc := Lib.hid HBb.out.drew
  have HBd := Lib.hid (Below.refl V2.heap.size V2).drew
  go_wp2_with fail
  refine wp_region_held (S := fun X => X.cell? ⟨p, 1, none⟩ = some (.pointer (some ⟨F.p, 0, none⟩)) ∧ X.cell? ⟨p, 2, none⟩ = some (.int .u32 (r : Nat))) (by kernel_rfl) ?_
  refine wpAnyH_take_at (i := 0) (v := .pointer (some ⟨p, 0, none⟩)) 31 rfl rfl (by kernel_rfl) (by kernel_rfl) (by kernel_rfl) (fun _ _ _ h => h) (.inl ⟨rfl, fun X hX => by go_simp⟩) hX ?_
  simp only [Act.put, List.setIfInBounds_toArray, List.set_cons_zero, List.set_cons_succ]
  refine wpAnyH_take_at (i := 1) (v := .pointer (some ⟨p, 0, none⟩)) 32 rfl rfl (by kernel_rfl) (by kernel_rfl) (by kernel_rfl) (fun _ _ _ h => h) (.inl ⟨rfl, fun X hX => by go_simp⟩) hX ?_
  simp only [Act.put, List.setIfInBounds_toArray, List.set_cons_zero, List.set_cons_succ]
  refine wpAnyH_take_at (i := 2) (v := .pointer (some ⟨p, 0, none⟩)) 33 rfl rfl (by kernel_rfl) (by kernel_rfl) (by kernel_rfl) (fun _ _ _ h => h) (.inl ⟨rfl, fun X hX => by go_simp⟩) hX ?_
  simp only [Act.put, List.setIfInBounds_toArray, List.set_cons_zero, List.set_cons_succ]
  refine wpAnyH_take_at (i := 3) (v := .pointer (some ⟨p, 1, none⟩)) 34 rfl rfl (by kernel_rfl) (by kernel_rfl) (by kernel_rfl) (fun _ _ _ h => h) (.inl ⟨rfl, fun X hX => by go_simp⟩) hX ?_
  simp only [Act.put, List.setIfInBounds_toArray, List.set_cons_zero, List.set_cons_succ]
  refine wpAnyH_take_at (i := 4) (v := .pointer (some ⟨F.p, 0, none⟩)) 35 rfl rfl (by kernel_rfl) (by kernel_rfl) (by kernel_rfl) (fun _ _ _ h => h) (.inl ⟨rfl, fun X hX => by obtain ⟨s0, s1⟩ := hX; go_simp⟩) hX ?_
  simp only [Act.put, List.setIfInBounds_toArray, List.set_cons_zero, List.set_cons_succ]
  refine wpAnyH_take_at (i := 5) (v := .pointer (some ⟨p, 0, none⟩)) 36 rfl rfl (by kernel_rfl) (by kernel_rfl) (by kernel_rfl) (fun _ _ _ h => h) (.inl ⟨rfl, fun X hX => by go_simp⟩) hX ?_
  simp only [Act.put, List.setIfInBounds_toArray, List.set_cons_zero, List.set_cons_succ]
  refine wpAnyH_take_at (i := 6) (v := .pointer (some ⟨p, 0, none⟩)) 37 rfl rfl (by kernel_rfl) (by kernel_rfl) (by kernel_rfl) (fun _ _ _ h => h) (.inl ⟨rfl, fun X hX => by go_simp⟩) hX ?_
  simp only [Act.put, List.setIfInBounds_toArray, List.set_cons_zero, List.set_cons_succ]
  refine wpAnyH_take_at (i := 7) (v := .pointer (some ⟨p, 0, none⟩)) 38 rfl rfl (by kernel_rfl) (by kernel_rfl) (by kernel_rfl) (fun _ _ _ h => h) (.inl ⟨rfl, fun X hX => by go_simp⟩) hX ?_
  simp only [Act.put, List.setIfInBounds_toArray, List.set_cons_zero, List.set_cons_succ]
  refine wpAnyH_take_at (i := 8) (v := .pointer (some ⟨p, 2, none⟩)) 39 rfl rfl (by kernel_rfl) (by kernel_rfl) (by kernel_rfl) (fun _ _ _ h => h) (.inl ⟨rfl, fun X hX => by go_simp⟩) hX ?_
  simp only [Act.put, List.setIfInBounds_toArray, List.set_cons_zero, List.set_cons_succ]
  refine wpAnyH_take_at (i := 9) (v := .int .u32 (r : Nat)) 40 rfl rfl (by kernel_rfl) (by kernel_rfl) (by kernel_rfl) (fun _ _ _ h => h) (.inl ⟨rfl, fun X hX => by obtain ⟨s0, s1⟩ := hX; go_simp⟩) hX ?_
  simp only [Act.put, List.setIfInBounds_toArray, List.set_cons_zero, List.set_cons_succ]
  refine wpAnyH_take_at (i := 11) (v := .slice (some ⟨g1, 0, none⟩) t1.length t1.length) 42 rfl rfl (by kernel_rfl) (by kernel_rfl) (by kernel_rfl) (fun _ _ _ h => h) (.inl ⟨rfl, fun X hX => by go_simp⟩) hX ?_
  simp only [Act.put, List.setIfInBounds_toArray, List.set_cons_zero, List.set_cons_succ]
  refine wpAnyH_take_at (i := 12) (v := .slice (some ⟨g2, 0, none⟩) t2.length t2.length) 43 rfl rfl (by kernel_rfl) (by kernel_rfl) (by kernel_rfl) (fun _ _ _ h => h) (.inl ⟨rfl, fun X hX => by go_simp⟩) hX ?_
  simp only [Act.put, List.setIfInBounds_toArray, List.set_cons_zero, List.set_cons_succ]
  refine wpAnyH_all (rs := [10]) (by kernel_rfl) (by decide) (fun i hi => ?_)
  rw [List.mem_singleton] at hi
  subst hi
  unfold wpOp
  go_simp
  refine .inl ((HRc.out _ HBc.out).mono ?_)
  rintro e X1 ⟨rfl, hb⟩
  replace HBc := Lib.hid (HBc.out.trans (hb.mono HBc.out.size))
  replace HBd := Lib.hid (HBd.out.trans (hb.mono HBd.out.size))
  (try replace HLz := Lib.hid (HLz.out.below hb))
  clear hX hb
  have hX := SX.out _ HBc.out
  refine ⟨hX, ?_⟩
  (try simp only [Act.put, List.setIfInBounds_toArray, List.set_cons_zero, List.set_cons_succ])
  refine wpAnyH_all (rs := [13]) (by kernel_rfl) (by decide) (fun i hi => ?_)
  rw [List.mem_singleton] at hi
  subst hi
  obtain ⟨g3, cap3, X2, happ, hb, hly3⟩ := HApp.out _ HBd.out
  refine wpOp_plain rfl rfl ?_
  refine Lib.wp_append_run _ (.tmp 42) (.tmp 43) 22 22 rfl _ _ rfl rfl _ _ happ ?_
  replace HBc := Lib.hid (HBc.out.trans (hb.mono HBc.out.size))
  replace HBd := Lib.hid (HBd.out.trans (hb.mono HBd.out.size))
  have HLz := Lib.hid hly3
  clear hX hb happ hly3
  have hX := SX.out _ HBc.out
  refine ⟨hX, ?_⟩
  (try simp only [Act.put, List.setIfInBounds_toArray, List.set_cons_zero, List.set_cons_succ])
  refine wpAnyH_all (rs := [14]) (by kernel_rfl) (by decide) (fun i hi => ?_)
  rw [List.mem_singleton] at hi
  subst hi
  unfold wpOp
  go_simp
  refine .inl ((HMk.out _ g3 cap3 HBc.out HLz.out).mono ?_)
  rintro e X3 ⟨rfl, F1, hst⟩
  have rp := hst.beside (HR.out.below HBc.out HR.out.lt) HpF.out.1
  have RP := Lib.hid rp
  have HSt := Lib.hid hst
  clear hX
  have hX := And.intro (rp.cell_at 1) (rp.cell_at 2)
  unfold callC at hX
  simp only [List.getElem?_cons_zero, List.getElem?_cons_succ] at hX
  clear hst rp
  refine ⟨hX, ?_⟩
  (try simp only [Act.put, List.setIfInBounds_toArray, List.set_cons_zero, List.set_cons_succ])
  refine wpAnyH_take_at (i := 15) (v := .int .u32 o) 46 rfl rfl (by kernel_rfl) (by kernel_rfl) (by kernel_rfl) (fun _ _ _ h => h) (.inl ⟨rfl, fun X hX => by go_simp⟩) hX ?_
  simp only [Act.put, List.setIfInBounds_toArray, List.set_cons_zero, List.set_cons_succ]
  refine wpAnyH_take_at (i := 16) (v := .int .i64 0) 47 rfl rfl (by kernel_rfl) (by kernel_rfl) (by kernel_rfl) (fun _ _ _ h => h) (.inl ⟨rfl, fun X hX => by go_simp⟩) hX ?_
  simp only [Act.put, List.setIfInBounds_toArray, List.set_cons_zero, List.set_cons_succ]
  refine wpAnyH_all (rs := [17]) (by kernel_rfl) (by decide) (fun i hi => ?_)
  rw [List.mem_singleton] at hi
  subst hi
  unfold wpOp
  go_simp
  refine .inl ((prim_made_ok RP.out o).mono ?_)
  rintro e X4 ⟨rfl, ro, oo⟩
  have HDn := Lib.hid (done_of (W1' := X3) HBc.out HFw.out HR.out.lt HpF.out.1 HpF.out.2 HSt.out ro oo)
  clear hX
  have hX := And.intro (ro.cell_at 1) (ro.cell_at 2)
  unfold callC at hX
  simp only [List.getElem?_cons_zero, List.getElem?_cons_succ] at hX
  clear ro oo
  refine ⟨hX, ?_⟩
  (try simp only [Act.put, List.setIfInBounds_toArray, List.set_cons_zero, List.set_cons_succ])
  refine wpAnyH_take_at (i := 18) (v := .int .i64 1) 2 rfl rfl (by kernel_rfl) (by kernel_rfl) (by kernel_rfl) (fun _ _ _ h => h) (.inl ⟨rfl, fun X hX => by go_simp⟩) hX ?_
  simp only [Act.put, List.setIfInBounds_toArray, List.set_cons_zero, List.set_cons_succ]
  refine wpAnyH_done (by kernel_rfl) ?_ _
  clear hX SX HMk HRc HApp RP HSt HLa2 HLb HLz
  go_wp2_with fail
  go_ret
  exact ⟨rfl, HDn.out⟩
end
theorem bytes_eq (X : World) {g1 g2 : Nat} {t : List Nat} (h1 : Lay .u8 X (some ⟨g1, 0, none⟩) t) (h2 : Lay .u8 X (some ⟨g2, 0, none⟩) t) (hb : B8 t) :
    Calls Tryz.prog 129 #[.slice (some ⟨g1, 0, none⟩) t.length t.length, .slice (some ⟨g2, 0, none⟩) t.length t.length] X fun e w' => e = .returned (.bool true) ∧ X = w' := by
  obtain ⟨s1, e1, c1⟩ := conv_lay (P := Tryz.prog) (c := t.length) 22 5 Tryz.underlying22 Tryz.underlying5 h1 ⟨_, rfl⟩ rfl hb
  obtain ⟨s2, e2, c2⟩ := conv_lay (P := Tryz.prog) (c := t.length) 22 5 Tryz.underlying22 Tryz.underlying5 h2 ⟨_, rfl⟩ rfl hb
  obtain rfl : s1 = s2 := tx_inj (e1.trans e2.symm)
  have d1 := c1 9 Tryz.underlying9
  have d2 := c2 9 Tryz.underlying9
  generalize t.length = n at *
  clear h1 h2 e1 e2 c1 c2
  have eq := Lib.hid hb
  clear hb
  go_enter Tryz.func129, Tryz.ntmps129
  go_wp2_with fail
  go_ret
  exact ⟨rfl, rfl⟩
section
variable {w : World} {F : Foot} {h : Hp}
set_option maxHeartbeats 3200000 in
set_option maxRecDepth 100000 in
theorem prim_equal (H : HeapAt w F h) {p r ga q v c : Nat} (R : Row w p 57 (callC F.p r (some ⟨ga, 0, none⟩) 1 1 v)) (A : Row w ga 30 [.int .u32 (q : Nat)])
    (hpF : p ∉ F.l) (h5 : 5 ≤ p) {t : List Nat} (b1 : Bs h r c t) (b2 : Bs h q c t) :
    Calls Tryz.prog 128 #[.pointer (some ⟨p, 0, none⟩)] w fun e w' => e = .returned (.int .i64 1) ∧ Done w F p r (some ⟨ga, 0, none⟩) 1 1 w' (wd h.rt 1) h := by
  have HB1 := Lib.hid (prim_bytes H R b1)
  have HB2 := Lib.hid (fun X (hb : Below w.heap.size w X) => prim_bytes (H.below hb) (R.below hb R.lt) b2)
  obtain ⟨x0, x1, x2, x3, x4, hx⟩ : ∃ x0 x1 x2 x3 x4, hdO h r = ⟨x0, x1, x2, x3, x4⟩ := ⟨_, _, _, _, _, rfl⟩
  obtain ⟨y0, y1, y2, y3, y4, hy⟩ : ∃ x0 x1 x2 x3 x4, hdO h q = ⟨x0, x1, x2, x3, x4⟩ := ⟨_, _, _, _, _, rfl⟩
  have HH1 := Lib.hid (fun X (hb : Below w.heap.size w X) => prim_header (H.below hb) (R.below hb R.lt) b1.is hx)
  have HH2 := Lib.hid (fun X (hb : Below w.heap.size w X) => prim_header (H.below hb) (R.below hb R.lt) b2.is hy)
  obtain rfl : x3 = c := by have := b1.cls; rw [hx] at this; exact this
  obtain rfl : y3 = x3 := by have := b2.cls; rw [hy] at this; exact this
  have HTr := Lib.hid (fun X (hb : Below w.heap.size w X) => prim_truth (H.below hb) true p r (some ⟨ga, 0, none⟩) 1 1 v (R.below hb R.lt))
  have HH := Lib.hid H
  have HR := Lib.hid R
  have HA := Lib.hid A
  have HpF := Lib.hid (And.intro hpF h5)
  have HB8 := Lib.hid b1.b8
  have HJ := Lib.hid (fun W => row_index (P := Tryz.prog) Tryz.underlying53 size_oop ga 1 1 .i64 ((0 : Nat) : Int) 0 rfl (by decide) (W := W))
  have q2 := R.cell_at 2
  unfold callC at q2
  simp only [List.getElem?_cons_zero, List.getElem?_cons_succ] at q2
  clear H R A hpF h5 b1 b2 hx hy
  go_enter Tryz.func128, Tryz.ntmps128
  go_wp2_with fail
  refine (HB1.out).mono ?_
  rintro e V1 ⟨⟨g1, rfl, -, hly⟩, hb⟩
  (try dsimp only)
  have HBa := Lib.hid hb
  have HLa := Lib.hid hly
  have RR := (HR.out.below hb HR.out.lt)
  have a0 := (HA.out.below hb HA.out.lt).cell_at 0
  have c3 := RR.cell_at 3
  unfold callC at c3
  simp only [List.getElem?_cons_zero, List.getElem?_cons_succ] at c3 a0
  have ix := HJ.out
  clear hb hly RR q2 HB1
  go_wp2_with fail
  refine (HB2.out _ HBa.out).mono ?_
  rintro e V2 ⟨⟨g2, rfl, -, hly⟩, hb⟩
  (try dsimp only)
  have HBb := Lib.hid (HBa.out.trans (hb.mono HBa.out.size))
  have HLb := Lib.hid hly
  have HLa2 := Lib.hid (HLa.out.below hb)
  have q2 := (HR.out.below HBb.out HR.out.lt).cell_at 2
  unfold callC at q2
  simp only [List.getElem?_cons_zero, List.getElem?_cons_succ] at q2
  clear hb hly a0 c3 ix HB2 HLa HBa
  go_wp2_with fail
  refine (HH1.out _ HBb.out).mono ?_
  rintro e V3 ⟨rfl, hb⟩
  (try dsimp only)
  obtain ⟨V4, hV4, r4, hb4, hz4⟩ := alloc_row V3 102 [.int .i64 x0, .int .i64 x1, .int .i64 x2, .int .u32 y3, .int .u32 x4]
  have HB4 := Lib.hid (hb.trans (hb4.mono hb.size))
  have HBc := Lib.hid (HBb.out.trans (HB4.out.mono HBb.out.size))
  obtain ⟨k1, hk1⟩ : ∃ g, g = V3.heap.size := ⟨_, rfl⟩
  have Hk1 := Lib.hid hk1
  have HV4 := Lib.hid hV4
  rw [← hk1] at r4
  have R4 := Lib.hid r4
  clear q2 hb hV4 hb4 hz4 hk1 r4 HH1
  go_upto_region 6 with fail
  rw [← HV4.out, ← Hk1.out]
  have RR := (HR.out.below HBc.out HR.out.lt)
  have a0 := (HA.out.below HBc.out HA.out.lt).cell_at 0
  have c3 := RR.cell_at 3
  unfold callC at c3
  simp only [List.getElem?_cons_zero, List.getElem?_cons_succ] at c3 a0
  have ix := HJ.out
  clear RR
  go_wp2_with fail
  refine (HH2.out _ HBc.out).mono ?_
  rintro e V5 ⟨rfl, hb⟩
  (try dsimp only)
  obtain ⟨V6, hV6, r6, hb6, hz6⟩ := alloc_row V5 102 [.int .i64 y0, .int .i64 y1, .int .i64 y2, .int .u32 y3, .int .u32 y4]
  have HB6 := Lib.hid (hb.trans (hb6.mono hb.size))
  have HBd := Lib.hid (HBc.out.trans (HB6.out.mono HBc.out.size))
  obtain ⟨k2, hk2⟩ : ∃ g, g = V5.heap.size := ⟨_, rfl⟩
  have Hk2 := Lib.hid hk2
  have HV6 := Lib.hid hV6
  rw [← hk2] at r6
  have k13 := (R4.out.below HB6.out R4.out.lt).cell_at 3
  have k23 := r6.cell_at 3
  simp only [List.getElem?_cons_zero, List.getElem?_cons_succ] at k13 k23
  have HBe := Lib.hid (HB4.out.trans (HB6.out.mono HB4.out.size))
  have HEq := Lib.hid (bytes_eq V6 (HLa2.out.below HBe.out) (HLb.out.below HBe.out) HB8.out)
  clear a0 c3 ix hb hV6 hb6 hz6 hk2 r6 HH2 R4 HV4 HLa2 HLb HB8 HB4 HB6 HBb HBc HBe HA HJ
  go_upto_region 7 with fail
  rw [← HV6.out, ← Hk2.out]
  go_wp2_with fail
  refine (HEq.out).mono ?_
  rintro e V7 ⟨rfl, rfl⟩
  (try dsimp only)
  go_wp2_with fail
  refine (HTr.out _ HBd.out).mono ?_
  rintro e V8 ⟨rfl, ro, oo⟩
  (try dsimp only)
  have HDn := Lib.hid (done_of (W1' := V6) HBd.out HH.out.lt HR.out.lt HpF.out.1 HpF.out.2 ⟨HH.out.below HBd.out, Foot.Next.refl _ _, Only.refl _ _⟩ ro oo)
  clear ro oo k13 k23 HTr
  go_wp2_with fail
  go_ret
  exact ⟨rfl, HDn.out⟩
end
end Go.Proofs.YteiikhcadjdkcaaGreatDoor
namespace Go.Proofs.YteiikhcadjdkcaaGreatDoor
open Go Go.RowKit Limb
theorem Ker.bare {h : Hp} (K : Limb.Ker h) : Live h := fun j hj => by
  have h1 := isO_iff.1 (K.live j hj)
  rw [kind_two.2 ⟨h1.1, h1.2.1⟩]; decide
section
variable {w : World} {F : Foot} {h : Hp}
set_option maxHeartbeats 1600000 in
set_option maxRecDepth 100000 in
theorem kernel_intern (H : HeapAt w F h) (K : Limb.Ker h) (S : ByteArray) (hS : S.size ≤ 262140) (h0 : 0 < S.size) (o : Nat) (h' : Hp) (hp : internP h (tx S) = some (o, h')) :
    Calls Tryz.prog 62 #[.pointer (some ⟨F.p, 0, none⟩), .string S] w fun e w' => e = .returned (.tuple #[.int .u32 o, .int .i64 0]) ∧ Moved w F w' h' := by
  obtain ⟨W, hW, ra, hb1, hz1⟩ := alloc_row w 23 [.pointer (some ⟨F.p, 0, none⟩)]
  obtain ⟨V, hV, rb, hb2, hz2⟩ := alloc_row W 9 [.string S]
  rw [hz1] at rb
  have hB : Below w.heap.size w V := hb1.trans (hb2.mono (by omega))
  replace ra := ra.below hb2 ra.lt
  have HV := Lib.hid (show V = (w.alloc (.cells #[.pointer (some ⟨F.p, 0, none⟩)] 23)).alloc (.cells #[.string S] 9) by rw [hV, hW])
  have HH := H.below hB
  have HSy := Lib.hid (kernel_symbol HH (Ker.bare K) S hS)
  have c0 := ra.cell_at 0
  have c1 := rb.cell_at 0
  simp only [List.getElem?_cons_zero] at c0 c1
  have hzV : V.heap.size = w.heap.size + 2 := by omega
  by_cases hs : symP h (tx S) = 0
  · have hp2 := hp
    unfold internP at hp2
    simp only [hs, if_true] at hp2
    obtain ⟨⟨o1, h1⟩, e1, e2⟩ := Option.bind_eq_some_iff.1 hp2
    obtain ⟨h2, e3, e4⟩ := Option.map_eq_some_iff.1 e2
    rw [Prod.mk.injEq] at e4
    obtain ⟨rfl, rfl⟩ := e4
    have hsy := HSy.out
    rw [hs] at hsy
    have HSy := Lib.hid hsy
    have HFn := Lib.hid (fun X (HX : HeapAt X F h) c (rA : Row X w.heap.size 23 [.pointer (some ⟨F.p, 0, none⟩)]) (rB : Row X (w.heap.size + 1) 9 [.string S]) (rc : Row X c 30 [.int .u32 0]) (hcw : w.heap.size + 1 < c) =>
      kernel_intern_fn S hS h0 w.heap.size (w.heap.size + 1) c X HX rA rB _ rc (fun e => Nat.lt_irrefl _ (H.lt _ e)) (fun e => absurd (H.lt _ e) (by omega)) (fun e => absurd (H.lt _ e) (by omega)) (by have := H.lt _ (mem_p F); have := H.low; omega) (by omega) o1 h1 h2 e1 e3)
    have HLt := Lib.hid (H.lt)
    clear hW hV hz1 hz2 hb1 hb2 hsy hp hp2 hs e1 e2 e3 H
    go_enter Tryz.func62, Tryz.ntmps62
    go_wp2_with fail
    rw [← HV.out]
    go_wp2_with fail
    refine (HSy.out).mono ?_
    rintro e V1 ⟨rfl, hb⟩
    (try dsimp only)
    replace ra := ra.below hb ra.lt
    replace rb := rb.below hb rb.lt
    replace HH := HH.below hb
    replace hB := hB.trans (hb.mono hB.size)
    replace hzV : w.heap.size + 2 ≤ V1.heap.size := by have := hb.size; omega
    clear hb c0 c1 HSy HV
    have HBa := Lib.hid (fun Y (hC : Below V1.heap.size V1 Y) => (kernel_bare (HH.below hC) (Ker.bare K)).mono (R' := fun e w' => e = .returned (.bool false) ∧ Below V1.heap.size V1 w') fun e w' ⟨x, y⟩ => ⟨x, hC.trans (y.mono hC.size)⟩)
    have HR := Lib.hid (fun Y (hC : Below V1.heap.size V1 Y) => (kernel_root (HH.below hC) 3 (by decide)).mono (R' := fun e w' => e = .returned (.int .u32 (wd h.rt 3 : Nat)) ∧ Below V1.heap.size V1 w') fun e w' ⟨x, y⟩ => ⟨x, by rw [← y]; exact hC⟩)
    have HP := Lib.hid (fun Y (hC : Below V1.heap.size V1 Y) => (kernel_pointers (HH.below hC) (wd h.rt 3) 0 (root_lt HH.good 3)).mono (R' := fun e w' => e = .returned (.bool true) ∧ Below V1.heap.size V1 w') fun e w' ⟨x, y⟩ => ⟨by rw [x, K.l3], hC.trans (y.mono hC.size)⟩)
    go_wp2_with fail
    refine wp_region_calm (fun Y => Below V1.heap.size V1 Y) (by kernel_rfl) (by kernel_rfl) (Below.refl _ _).drew ?_
    show wpQuiet _ _ _ _ [_, _, _, _, _, _, _, _, _] _
    refine wpQuiet_at 15 (.pointer (some ⟨F.p, 0, none⟩)) rfl (by kernel_rfl) (fun Y hC => ?_) ?_
    · have c0 := (ra.below hC ra.lt).cell_at 0
      simp only [List.getElem?_cons_zero] at c0
      go_simp
    simp only [Act.put, List.setIfInBounds_toArray, List.set_cons_zero, List.set_cons_succ]
    refine wpQuiet_at 16 (.bool false) rfl (by kernel_rfl) (fun Y hC => ?_) ?_
    · go_simp
      exact HBa.out Y hC
    simp only [Act.put, List.setIfInBounds_toArray, List.set_cons_zero, List.set_cons_succ]
    refine wpQuiet_at 17 (.bool false) rfl (by kernel_rfl) (fun Y hC => ?_) ?_
    · go_simp
    simp only [Act.put, List.setIfInBounds_toArray, List.set_cons_zero, List.set_cons_succ]
    refine wpQuiet_at 18 (.pointer (some ⟨F.p, 0, none⟩)) rfl (by kernel_rfl) (fun Y hC => ?_) ?_
    · have c0 := (ra.below hC ra.lt).cell_at 0
      simp only [List.getElem?_cons_zero] at c0
      go_simp
    simp only [Act.put, List.setIfInBounds_toArray, List.set_cons_zero, List.set_cons_succ]
    refine wpQuiet_at 19 (.pointer (some ⟨F.p, 0, none⟩)) rfl (by kernel_rfl) (fun Y hC => ?_) ?_
    · have c0 := (ra.below hC ra.lt).cell_at 0
      simp only [List.getElem?_cons_zero] at c0
      go_simp
    simp only [Act.put, List.setIfInBounds_toArray, List.set_cons_zero, List.set_cons_succ]
    refine wpQuiet_at 20 (.int .u32 (wd h.rt 3 : Nat)) rfl (by kernel_rfl) (fun Y hC => ?_) ?_
    · go_simp
      exact HR.out Y hC
    simp only [Act.put, List.setIfInBounds_toArray, List.set_cons_zero, List.set_cons_succ]
    refine wpQuiet_at 21 (.bool true) rfl (by kernel_rfl) (fun Y hC => ?_) ?_
    · go_simp
      exact HP.out Y hC
    simp only [Act.put, List.setIfInBounds_toArray, List.set_cons_zero, List.set_cons_succ]
    refine wpQuiet_at 22 (.bool false) rfl (by kernel_rfl) (fun Y hC => ?_) ?_
    · go_simp
    simp only [Act.put, List.setIfInBounds_toArray, List.set_cons_zero, List.set_cons_succ]
    refine wpQuiet_at 23 (.bool false) rfl (by kernel_rfl) (fun Y hC => ?_) ?_
    · go_simp
    simp only [Act.put, List.setIfInBounds_toArray, List.set_cons_zero, List.set_cons_succ]
    refine wpQuiet_nil ?_
    intro V2 hb2
    replace ra := ra.below hb2 ra.lt
    replace rb := rb.below hb2 rb.lt
    replace HH := HH.below hb2
    replace hB := hB.trans (hb2.mono hB.size)
    replace hzV : w.heap.size + 2 ≤ V2.heap.size := by have := hb2.size; omega
    clear hb2 HBa HR HP
    obtain ⟨V3, hV3, rc, hb3, hz3⟩ := alloc_row V2 30 [.int .u32 0]
    have HV3 := Lib.hid hV3
    have ra2' := ra
    have hlt := ra.lt
    replace ra := ra.below hb3 ra.lt
    replace rb := rb.below hb3 rb.lt
    replace HH := HH.below hb3
    replace hB := hB.trans (hb3.mono hB.size)
    obtain ⟨c, hc⟩ : ∃ c, c = V2.heap.size := ⟨_, rfl⟩
    rw [← hc] at rc
    have Hc := Lib.hid hc
    have hcw : w.heap.size + 1 < c := by omega
    have ra2 : Row V2 w.heap.size 23 [.pointer (some ⟨F.p, 0, none⟩)] := ra2'
    have c0 := ra2.cell_at 0
    have hlt2 := ra2.lt
    simp only [List.getElem?_cons_zero] at c0
    have hcl := rc.lt
    have HQ := Lib.hid (undo_intern HH (.pointer (some ⟨w.heap.size, 0, none⟩)) (.pointer (some ⟨w.heap.size + 1, 0, none⟩)) (.pointer (some ⟨c, 0, none⟩)) (fun X' => ∃ F', StepC [c] V3 F X' F' h2 ∧ Row X' c 30 [.int .u32 o1])
      (fun X hX => (HFn.out X (HH.below hX) c (ra.below hX ra.lt) (rb.below hX rb.lt) (rc.below hX rc.lt) hcw).mono fun e X' ⟨x, F', y1, y2, y3, y4⟩ => ⟨x, F', ⟨y1, ⟨y2.p, y2.gr, y2.gw.imp id (fun e => Nat.le_trans hX.size e), y2.gs.imp id (fun e => Nat.le_trans hX.size e)⟩, (Only.of_below hX).trans y3 (fun q hq => .inl hq)⟩, y4⟩))
    have HcF := Lib.hid (show w.heap.size ≤ c from by omega)
    clear HH HFn ra rb rc ra2 ra2' hlt hcw hV3 hb3 hz3 hc hzV
    go_wp2_with fail
    rw [← Hc.out, ← HV3.out]
    refine (HQ.out).mono ?_
    rintro e V4 ⟨rfl, F', hT, rc4⟩
    (try dsimp only)
    have HM := Lib.hid (hT.moved hB (by intro g hg; rw [List.mem_singleton] at hg; rw [hg]; exact HcF.out))
    have c4 := rc4.cell_at 0
    simp only [List.getElem?_cons_zero] at c4
    clear hT rc4 HQ
    go_wp2_with fail
    go_ret2
    exact ⟨rfl, HM.out⟩
  · have hp2 := hp
    unfold internP at hp2
    simp only [hs, if_false] at hp2
    rw [Option.some.injEq, Prod.mk.injEq] at hp2
    obtain ⟨rfl, rfl⟩ := hp2
    have q : (((symP h (tx S) : Nat) : Int) == 0) = false := by rw [beq_eq_false_iff_ne]; omega
    have q2 : (((symP h (tx S) : Nat)) == 0) = false := by rw [beq_eq_false_iff_ne]; omega
    have HSt := Lib.hid (show ∀ Y, Below w.heap.size w Y → Moved w F Y h from fun Y hY => ⟨F, (Step.refl H).below hY⟩)
    generalize symP h (tx S) = o at *
    clear hW hV hz1 hz2 hb1 hb2 hp hs H HH ra rb hzV
    go_enter Tryz.func62, Tryz.ntmps62
    go_wp2_with fail
    rw [← HV.out]
    go_wp2_with fail
    refine (HSy.out).mono ?_
    rintro e V1 ⟨rfl, hb⟩
    (try dsimp only)
    have HM := Lib.hid (HSt.out _ (hB.trans (hb.mono hB.size)))
    clear hb HSt c0 c1
    go_wp2_with fail
    go_ret2
    exact ⟨rfl, HM.out⟩
end
end Go.Proofs.YteiikhcadjdkcaaGreatDoor
