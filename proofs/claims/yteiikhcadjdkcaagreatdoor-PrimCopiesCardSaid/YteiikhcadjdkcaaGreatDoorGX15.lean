/- The walks of package heap: Get, Put, Word, SetWord. The walks of package heap: Put, SetWord, SetRoot. -/
import Derived.Test.YteiikhcadjdkcaaGreatDoorGX14
import Derived.Test.YteiikhcadjdkcaaGreatDoorGX06
set_option linter.unusedVariables false
set_option linter.unusedSimpArgs false
namespace Go.Proofs.YteiikhcadjdkcaaGreatDoor
open Go Go.RowKit Limb
section
variable {w : World} {F : Foot} {h : Hp}
theorem HeapAt.putW (H : HeapAt w F h) {k v : Nat} (hk : k < h.ws.length) (hg : Limb.Good (Limb.putW h k v)) : HeapAt (w.setCell ⟨F.gw, k, none⟩ (.int .u32 (v : Nat))) F (Limb.putW h k v) := by
  obtain ⟨cw, cs, r1, r2, r3⟩ := H.row
  obtain ⟨a1, a2, a3, a4, a5, a6⟩ := H.apart
  have ho : Only [F.gw] w (w.setCell ⟨F.gw, k, none⟩ (.int .u32 (v : Nat))) := (Only.refl _ _).setCell (by simp) _
  have hl : (Limb.putW h k v).ws.length = h.ws.length := putW_len h k v
  refine ⟨hg, H.spares.only ho (by have := H.low; simp; omega), ⟨cw, cs, ?_, ?_, ?_⟩, H.roots.only ho (by simp; omega), H.low⟩
  · rw [hl]; exact r1.only ho (by simp; omega)
  · rw [hl]
    have := r2.store hk (.int .u32 (v : Nat))
    rwa [← nums_set] at this
  · rw [hl]; exact r3.only ho (by simp; omega)
theorem HeapAt.setR (H : HeapAt w F h) {k v : Nat} (hg : Limb.Good (Limb.setR h k v)) : HeapAt (w.setCell ⟨F.gr, k, none⟩ (.int .u32 (v : Nat))) F (Limb.setR h k v) := by
  obtain ⟨cw, cs, r1, r2, r3⟩ := H.row
  obtain ⟨a1, a2, a3, a4, a5, a6⟩ := H.apart
  have ho : Only [F.gr] w (w.setCell ⟨F.gr, k, none⟩ (.int .u32 (v : Nat))) := (Only.refl _ _).setCell (by simp) _
  exact ⟨hg, H.spares.only ho (by have := H.low; simp; omega), ⟨cw, cs, r1.only ho (by simp; omega), r2.only ho (by simp; omega), r3.only ho (by simp; omega)⟩, H.roots.store k v v rfl, H.low⟩
theorem mem_gw (F : Foot) : F.gw ∈ F.l := by unfold Foot.l; simp
theorem mem_gr (F : Foot) : F.gr ∈ F.l := by unfold Foot.l; simp
theorem mem_p (F : Foot) : F.p ∈ F.l := by unfold Foot.l; simp
theorem Step.putW (H : HeapAt w F h) {k v : Nat} (hk : k < h.ws.length) (hg : Limb.Good (Limb.putW h k v)) : Step w F (w.setCell ⟨F.gw, k, none⟩ (.int .u32 (v : Nat))) F (Limb.putW h k v) :=
  ⟨H.putW hk hg, Foot.Next.refl _ _, (Only.refl _ _).setCell (mem_gw F) _⟩
theorem Step.setR (H : HeapAt w F h) {k v : Nat} (hg : Limb.Good (Limb.setR h k v)) : Step w F (w.setCell ⟨F.gr, k, none⟩ (.int .u32 (v : Nat))) F (Limb.setR h k v) :=
  ⟨H.setR hg, Foot.Next.refl _ _, (Only.refl _ _).setCell (mem_gr F) _⟩
theorem Step.of_below {w' w'' : World} {F' : Foot} {h' : Hp} (hb : Below w.heap.size w w') (a : Step w' F w'' F' h') : Step w F w'' F' h' :=
  ⟨a.1, ⟨a.2.1.p, a.2.1.gr, by have := a.2.1.gw; have := hb.size; omega, by have := a.2.1.gs; have := hb.size; omega⟩, (Only.of_below (ps := F.l) hb).trans a.2.2 (fun q hq => .inl hq)⟩
theorem fld_lt (k : Limb.Good h) {o i : Nat} (ho : isO h o = true) (hi : i < (hdO h o).size) : o / 2 + 3 + i < h.ws.length := by
  have := k.inside _ (isO_iff.1 ho).2.2
  have hi : i < (hd h (o / 2)).size := hi
  omega
theorem len_size {x : Hd} (h : x.fmt ≠ 2) : x.len = x.size := by unfold Hd.len; rw [if_neg h]
def getA (h : Hp) (o : Nat) (i : Int) (l : List Nat) : Nat := if lookE h o i l = 0 then fld h o i.toNat else 0
theorem lookE_cases (h : Hp) (o : Nat) (i : Int) (l : List Nat) (hl : 2 ∉ l) : (lookE h o i l ≠ 0 ∧ lookA h o i l = 0) ∨ (lookE h o i l = 0 ∧ lookA h o i l = o / 2 + 3 ∧ isO h o = true ∧ (hdO h o).fmt ∈ l ∧ ∃ j : Nat, i = j ∧ j < (hdO h o).size) := by
  by_cases h0 : lookE h o i l = 0
  · obtain ⟨h1, h2, h3, h4⟩ := lookE_zero.1 h0
    rw [List.contains_eq_mem, decide_eq_true_eq] at h2
    rw [len_size (fun e => hl (e ▸ h2))] at h4
    exact .inr ⟨h0, by unfold lookA; rw [if_pos h0], h1, h2, i.toNat, by omega, by omega⟩
  · exact .inl ⟨h0, by unfold lookA; rw [if_neg h0]⟩
set_option maxHeartbeats 1600000 in
set_option maxRecDepth 100000 in
theorem heap_get (H : HeapAt w F h) (o : Nat) (ho : o < 4294967296) (i : Int) (hi1 : -9223372036854775808 ≤ i) (hi2 : i ≤ 9223372036854775807) :
    Calls Tryz.prog 119 #[.pointer (some ⟨F.p, 0, none⟩), .int .u32 o, .int .i64 i] w fun e w' => e = .returned (.tuple #[.int .u32 (getA h o i [1, 4]), .int .i64 (lookE h o i [1, 4])]) ∧ Below w.heap.size w w' := by
  obtain ⟨W, hW, r0, hB, hz⟩ := alloc_row w 76 [.int .i64 1, .int .i64 4]
  have HW := Lib.hid hW
  have HH := H.belowB hB (Nat.le_refl _)
  have HL := Lib.hid (heap_look HH o ho i w.heap.size [1, 4] 2 r0 rfl (by decide))
  have hle := lookE_cases h o i [1, 4] (by decide)
  rcases hle with ⟨e1, e2⟩ | ⟨e1, e2, e3, e4, j, rfl, e5⟩
  · have e6 : getA h o i [1, 4] = 0 := by unfold getA; rw [if_neg e1]
    have hl := HL.out
    rw [e2] at hl
    have HL := Lib.hid hl
    rw [e6]
    have q : (((lookE h o i [1, 4] : Nat) : Int) != 0) = true := by rw [bne_iff_ne]; omega
    have q2 : (((lookE h o i [1, 4] : Nat) : Int) == 0) = false := by rw [beq_eq_false_iff_ne]; omega
    have q3 : (lookE h o i [1, 4] == 0) = false := by rw [beq_eq_false_iff_ne]; omega
    have q4 : ¬ lookE h o i [1, 4] = 0 := e1
    generalize lookE h o i [1, 4] = E at *
    clear hl e1 e2 e6 hW hz HH H
    go_enter Tryz.func119, Tryz.ntmps119
    go_wp2_with fail
    rw [← HW.out]
    refine (HL.out).mono ?_
    rintro e V ⟨rfl, hb⟩
    (try dsimp only)
    replace hB := hB.trans (hb.mono hB.size)
    clear hb
    go_wp2_with fail
    go_ret2
    exact ⟨rfl, hB⟩
  · have e6 : getA h o (j : Int) [1, 4] = fld h o j := by unfold getA; rw [if_pos e1, Int.toNat_natCast]
    have hl := HL.out
    rw [e2, e1] at hl
    rw [e6, e1]
    have HL := Lib.hid (hl.mono (R' := fun e w' => e = .returned (.tuple #[.int .i64 (o / 2 + 3 : Nat), .int .i64 0]) ∧ Below W.heap.size W w' ∧ HeapAt w' F h) fun e w' ⟨a, b⟩ => ⟨a, b, HH.below b⟩)
    have hlt := fld_lt H.good e3 e5
    have efl : fld h o j = wd h.ws (o / 2 + 3 + j) := rfl
    have hsm := H.small
    generalize o / 2 + 3 = at0 at *
    rw [efl]
    clear hl e1 e2 e6 hW hz HH H e3 e4 e5 efl
    go_enter Tryz.func119, Tryz.ntmps119
    go_wp2_with fail
    rw [← HW.out]
    refine (HL.out).mono ?_
    rintro e V ⟨rfl, hb, HV⟩
    (try dsimp only)
    replace hB := hB.trans (hb.mono hB.size)
    clear hb
    obtain ⟨cw, cs, c0, c1, c2, c3, c4, hw, hs⟩ := HV.cells
    have cx := hw.cell hlt
    rw [nums_get hlt] at cx
    have ix := fun W => hw.index 71 Tryz.underlying71 size32 W .i64 (at0 + j) hlt
    rw [Int.natCast_add] at ix
    clear HV hw hs HL HW
    go_wp2_with fail
    go_ret2
    exact ⟨rfl, hB⟩
end
end Go.Proofs.YteiikhcadjdkcaaGreatDoor
namespace Go.Proofs.YteiikhcadjdkcaaGreatDoor
open Go Go.RowKit Limb
def putE (h : Hp) (o : Nat) (i : Int) (v : Nat) : Nat := if lookE h o i [1, 4] = 0 then (if valO h v = true then 0 else 3) else lookE h o i [1, 4]
def putH (h : Hp) (o : Nat) (i : Int) (v : Nat) : Hp := if putE h o i v = 0 then Limb.putF h o i.toNat v else h
section
variable {w : World} {F : Foot} {h : Hp}
theorem Step.same (H : HeapAt w F h) {w' : World} (hb : Below w.heap.size w w') : Step w F w' F h := (Step.refl H).below hb
theorem isF_of {o f j : Nat} (h1 : isO h o = true) (h2 : (hdO h o).fmt = f) (h3 : j < (hdO h o).size) : isF h o f (j + 1) = true := by
  unfold isF; rw [h1, decide_eq_true h2, decide_eq_true (show j + 1 ≤ (hdO h o).size by omega)]; rfl
set_option maxHeartbeats 1600000 in
set_option maxRecDepth 100000 in
theorem heap_put (H : HeapAt w F h) (o : Nat) (ho : o < 4294967296) (i : Int) (hi1 : -9223372036854775808 ≤ i) (hi2 : i ≤ 9223372036854775807) (v : Nat) (hv : v < 4294967296) :
    Calls Tryz.prog 37 #[.pointer (some ⟨F.p, 0, none⟩), .int .u32 o, .int .i64 i, .int .u32 v] w fun e w' => e = .returned (.int .i64 (putE h o i v : Nat)) ∧ Step w F w' F (putH h o i v) := by
  obtain ⟨W, hW, r0, hB, hz⟩ := alloc_row w 76 [.int .i64 1, .int .i64 4]
  have HW := Lib.hid hW
  have HH := H.belowB hB (Nat.le_refl _)
  have HL := Lib.hid (heap_look HH o ho i w.heap.size [1, 4] 2 r0 rfl (by decide))
  have hle := lookE_cases h o i [1, 4] (by decide)
  rcases hle with ⟨e1, e2⟩ | ⟨e1, e2, e3, e4, j, rfl, e5⟩
  · have e7 : putH h o i v = h := by unfold putH; rw [if_neg (by first | exact e1 | (unfold putE; rw [if_neg e1]; exact e1))]
    rw [e7]
    have e8 : putE h o i v = lookE h o i [1, 4] := by unfold putE; rw [if_neg e1]
    rw [e8]
    have hl := HL.out
    rw [e2] at hl
    have HL := Lib.hid hl
    have q : (((lookE h o i [1, 4] : Nat) : Int) != 0) = true := by rw [bne_iff_ne]; omega
    have q2 : (((lookE h o i [1, 4] : Nat) : Int) == 0) = false := by rw [beq_eq_false_iff_ne]; omega
    have q3 : (lookE h o i [1, 4] == 0) = false := by rw [beq_eq_false_iff_ne]; omega
    have q4 : ¬ lookE h o i [1, 4] = 0 := e1
    have HS := Lib.hid (fun X (hb : Below w.heap.size w X) => Step.same H hb)
    generalize lookE h o i [1, 4] = E at *
    clear hl e1 e2 e7 e8 hW hz HH H
    go_enter Tryz.func37, Tryz.ntmps37
    go_wp2_with fail
    rw [← HW.out]
    refine (HL.out).mono ?_
    rintro e V ⟨rfl, hb⟩
    (try dsimp only)
    replace hB := hB.trans (hb.mono hB.size)
    clear hb
    go_wp2_with fail
    go_ret
    exact ⟨rfl, HS.out _ hB⟩
  · have hl := HL.out
    rw [e2, e1] at hl
    have HL := Lib.hid (hl.mono (R' := fun e w' => e = .returned (.tuple #[.int .i64 (o / 2 + 3 : Nat), .int .i64 0]) ∧ Below W.heap.size W w' ∧ HeapAt w' F h) fun e w' ⟨a, b⟩ => ⟨a, b, HH.below b⟩)
    have hlt := fld_lt H.good e3 e5
    have hsm := H.small
    have HP : putE h o (j : Int) v = if valO h v = true then 0 else 3 := by unfold putE; rw [if_pos e1]
    have HVal := Lib.hid (fun X (H : HeapAt X F h) => heap_value H v hv)
    have HPH : putH h o (j : Int) v = if valO h v = true then Limb.putF h o j v else h := by
      unfold putH; rw [HP, Int.toNat_natCast]
      cases valO h v <;> rfl
    rw [HPH, HP]
    have hG : Limb.Good (Limb.putF h o j v) := by
      simp only [List.mem_cons, List.not_mem_nil, or_false] at e4
      rcases e4 with e4 | e4
      · exact good_put H.good (isF_of e3 e4 e5) (by decide) hv
      · exact good_put H.good (isF_of e3 e4 e5) (by decide) hv
    have ePF : Limb.putF h o j v = Limb.putW h (o / 2 + 3 + j) v := rfl
    rw [ePF] at hG ⊢
    obtain ⟨vv, hvv⟩ : ∃ b, b = valO h v := ⟨_, rfl⟩
    rw [← hvv] at HVal ⊢
    clear hvv
    generalize o / 2 + 3 = at0 at *
    clear hl e1 e2 hW hz HH H e3 e4 e5 ePF HPH HP
    go_enter Tryz.func37, Tryz.ntmps37
    go_wp2_with fail
    rw [← HW.out]
    refine (HL.out).mono ?_
    rintro e V ⟨rfl, hb, HV⟩
    (try dsimp only)
    replace hB := hB.trans (hb.mono hB.size)
    clear hb
    go_wp2_with fail
    refine (HVal.out _ HV).mono ?_
    rintro e V1 ⟨rfl, rfl⟩
    (try dsimp only)
    cases vv with
    | false =>
      have HS := Lib.hid (Step.of_below hB (Step.refl HV))
      clear HV HVal HL HW hG
      go_wp2_with fail
      go_ret
      exact ⟨rfl, HS.out⟩
    | true =>
      obtain ⟨cw, cs, c0, c1, c2, c3, c4, hw, hs⟩ := HV.cells
      have z0 := hw.free (at0 + j)
      have cx := hw.cell hlt
      rw [nums_get hlt] at cx
      have ix := fun W => hw.index 71 Tryz.underlying71 size32 W .i64 (at0 + j) hlt
      rw [Int.natCast_add] at ix
      have HS := Lib.hid (Step.of_below hB (Step.putW HV hlt hG))
      clear HV hw hs HL HW HVal hG
      go_wp2_with fail
      go_ret
      exact ⟨rfl, HS.out⟩
set_option maxRecDepth 100000 in
theorem heap_setroot (H : HeapAt w F h) (i : Nat) (hi : i < 64) (v : Nat) (hv : v < 4294967296) (hval : valO h v = true) :
    Calls Tryz.prog 14 #[.pointer (some ⟨F.p, 0, none⟩), .int .i64 i, .int .u32 v] w fun e w' => e = .returned (.int .i64 0) ∧ Step w F w' F (Limb.setR h i v) := by
  have HM := Lib.hid (heap_made H)
  have hv2 := heap_value H v hv
  rw [hval] at hv2
  have HV := Lib.hid hv2
  have HS := Lib.hid (Step.setR H (k := i) (v := v) (H.good.setR hv))
  obtain ⟨cw, cs, c0, c1, c2, c3, c4, hw, hs⟩ := H.cells
  have z0 := H.roots.free i
  have cx := H.root_cell hi
  have d1 : decide ((i : Int) < 0) = false := decide_eq_false (by omega)
  have d2 : decide ((64 : Int) ≤ (i : Int)) = false := decide_eq_false (by omega)
  have d3 : decide (64 ≤ i) = false := decide_eq_false (by omega)
  have sl : Sl w F.gr 30 64 64 (nums .u32 h.rt) := H.roots.sl (by rw [nums_length]; exact H.good.rlen.symm) (by decide)
  have ix := fun W => sl.index 53 Tryz.underlying53 size_oop W .i64 i hi
  clear hw hs H sl hv2 hval
  go_enter Tryz.func14, Tryz.ntmps14
  go_wp2_with fail
  refine (HM.out).mono ?_
  rintro e w1 ⟨rfl, rfl⟩
  (try dsimp only)
  go_wp2_with fail
  refine (HV.out).mono ?_
  rintro e w1 ⟨rfl, rfl⟩
  (try dsimp only)
  go_wp2_with fail
  go_ret
  exact ⟨rfl, HS.out⟩
end
end Go.Proofs.YteiikhcadjdkcaaGreatDoor
