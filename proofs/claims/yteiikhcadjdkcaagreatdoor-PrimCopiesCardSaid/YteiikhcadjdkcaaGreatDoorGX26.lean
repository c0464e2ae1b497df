/- Objects of bytes of the class String: what package prim's calls ask of them. The walk of package kernel's reads. The walk of package prim's ints: numbers of oops that are small integers. -/
import Derived.Test.YteiikhcadjdkcaaGreatDoorGX11
import Derived.Test.YteiikhcadjdkcaaGreatDoorGX18
import Derived.Test.YteiikhcadjdkcaaGreatDoorGX23
import Derived.Test.YteiikhcadjdkcaaGreatDoorGX25
import Derived.Test.YteiikhcadjdkcaaGreatDoorGX14
import Derived.Test.YteiikhcadjdkcaaGreatDoorGX20
import Derived.Laws.StructEq
import Derived.Laws.BytesArg
import Derived.Maps.AppendAt
set_option linter.unusedVariables false
set_option linter.unusedSimpArgs false
namespace Go.Proofs.YteiikhcadjdkcaaGreatDoor
open Go Go.RowKit Limb
theorem hdX_is {h : Hp} {o : Nat} (ho : isO h o = true) : hdX h o = hdO h o ∧ erX h o = 0 := by unfold hdX erX; rw [if_pos ho, if_pos ho]; exact ⟨rfl, rfl⟩
theorem live_of {h : Hp} (L : ∀ j, j < 5 → isO h (wd h.rt (wd [12, 18, 19, 20, 23] j)) = true) : Live h := fun j hj => by
  have h1 := isO_iff.1 (L j hj)
  rw [kind_two.2 ⟨h1.1, h1.2.1⟩]; decide
section
variable {w : World} {F : Foot} {h : Hp}
theorem header_is (H : HeapAt w F h) {o : Nat} (ho : isO h o = true) {x0 x1 x2 x3 x4 : Nat} (hx : hdO h o = ⟨x0, x1, x2, x3, x4⟩) :
    Calls Tryz.prog 57 #[.pointer (some ⟨F.p, 0, none⟩), .int .u32 o] w fun e w' => e = .returned (.tuple #[.agg #[.int .i64 x0, .int .i64 x1, .int .i64 x2, .int .u32 x3, .int .u32 x4], .int .i64 0]) ∧ Below w.heap.size w w' := by
  have := heap_Header H o (isO_lt H.good ho)
  rw [(hdX_is ho).1, (hdX_is ho).2, hx] at this
  exact this
set_option maxHeartbeats 1600000 in
set_option maxRecDepth 100000 in
theorem kernel_meta_no (H : HeapAt w F h) {o : Nat} (ho : isO h o = true) (hi : isO h (hdO h o).cls = true) (hne : (hdO h o).cls ≠ wd h.rt 12) :
    Calls Tryz.prog 308 #[.pointer (some ⟨F.p, 0, none⟩), .int .u32 o] w fun e w' => e = .returned (.bool false) ∧ Below w.heap.size w w' := by
  obtain ⟨x0, x1, x2, x3, x4, hx⟩ : ∃ x0 x1 x2 x3 x4, hdO h o = ⟨x0, x1, x2, x3, x4⟩ := ⟨_, _, _, _, _, rfl⟩
  have HD := Lib.hid (header_is H ho hx)
  rw [hx] at hi hne
  replace hi : isO h x3 = true := hi
  replace hne : x3 ≠ wd h.rt 12 := hne
  obtain ⟨tv, htv⟩ : ∃ tv, tv = wd h.rt 12 := ⟨_, rfl⟩
  have HIs := Lib.hid (fun X (hb : Below w.heap.size w X) => (heap_is (H.below hb) x3 (isO_lt H.good hi)).mono (R' := fun e X' => e = .returned (.bool true) ∧ Below X.heap.size X X') fun e X' ⟨a, b⟩ => ⟨by rw [a, hi], by rw [← b]; exact Below.refl _ _⟩)
  have HRt := Lib.hid (fun X (hb : Below w.heap.size w X) => (kernel_root (H.below hb) 12 (by decide)).mono (R' := fun e X' => e = .returned (.int .u32 (tv : Nat)) ∧ Below X.heap.size X X') fun e X' ⟨a, b⟩ => ⟨by rw [a, htv], by rw [← b]; exact Below.refl _ _⟩)
  rw [← htv] at hne
  have d1 : ((x3 : Int) == (tv : Int)) = false := by rw [beq_eq_false_iff_ne]; omega
  have d2 : (x3 == tv) = false := by rw [beq_eq_false_iff_ne]; exact hne
  clear H ho hi hx hne htv
  go_enter Tryz.func308, Tryz.ntmps308
  go_wp2_with fail
  refine (HD.out).mono ?_
  rintro e V ⟨rfl, hb⟩
  (try dsimp only)
  obtain ⟨V1, hV1, r1, hb1, hz1⟩ := alloc_row V 102 [.int .i64 x0, .int .i64 x1, .int .i64 x2, .int .u32 x3, .int .u32 x4]
  have HV1 := Lib.hid hV1
  have hBV := hb.trans (hb1.mono hb.size)
  obtain ⟨g, hg⟩ : ∃ g, g = V.heap.size := ⟨_, rfl⟩
  rw [← hg] at r1
  have Hg := Lib.hid hg
  clear hV1 hb1 hz1 hb hg HD
  go_wp2_with fail
  rw [← HV1.out, ← Hg.out]
  refine wp_region_calm (fun Y => Below V1.heap.size V1 Y) (by kernel_rfl) (by kernel_rfl) (Below.refl _ _).drew ?_
  show wpQuiet _ _ _ _ [_, _, _, _, _, _, _, _, _, _, _, _, _, _, _, _] _
  refine wpQuiet_at 13 (.int .i64 0) rfl (by kernel_rfl) (fun Y hC => ?_) ?_
  · go_simp
  simp only [Act.put, List.setIfInBounds_toArray, List.set_cons_zero, List.set_cons_succ]
  refine wpQuiet_at 14 (.bool true) rfl (by kernel_rfl) (fun Y hC => ?_) ?_
  · go_simp
  simp only [Act.put, List.setIfInBounds_toArray, List.set_cons_zero, List.set_cons_succ]
  refine wpQuiet_at 15 (.bool true) rfl (by kernel_rfl) (fun Y hC => ?_) ?_
  · go_simp
  simp only [Act.put, List.setIfInBounds_toArray, List.set_cons_zero, List.set_cons_succ]
  refine wpQuiet_at 16 (.pointer (some ⟨F.p, 0, none⟩)) rfl (by kernel_rfl) (fun Y hC => ?_) ?_
  · go_simp
  simp only [Act.put, List.setIfInBounds_toArray, List.set_cons_zero, List.set_cons_succ]
  refine wpQuiet_at 17 (.pointer (some ⟨g, 3, none⟩)) rfl (by kernel_rfl) (fun Y hC => ?_) ?_
  · go_simp
  simp only [Act.put, List.setIfInBounds_toArray, List.set_cons_zero, List.set_cons_succ]
  refine wpQuiet_at 18 (.int .u32 x3) rfl (by kernel_rfl) (fun Y hC => ?_) ?_
  · have k0 := (r1.below hC r1.lt).cell_at 3
    simp only [List.getElem?_cons_zero, List.getElem?_cons_succ] at k0
    go_simp
  simp only [Act.put, List.setIfInBounds_toArray, List.set_cons_zero, List.set_cons_succ]
  refine wpQuiet_at 19 (.bool true) rfl (by kernel_rfl) (fun Y hC => ?_) ?_
  · go_simp
    exact (HIs.out Y (hBV.trans (hC.mono hBV.size))).mono fun e X' ⟨a, b⟩ => ⟨a, hC.trans (b.mono hC.size)⟩
  simp only [Act.put, List.setIfInBounds_toArray, List.set_cons_zero, List.set_cons_succ]
  refine wpQuiet_at 20 (.bool true) rfl (by kernel_rfl) (fun Y hC => ?_) ?_
  · go_simp
  simp only [Act.put, List.setIfInBounds_toArray, List.set_cons_zero, List.set_cons_succ]
  refine wpQuiet_at 21 (.bool true) rfl (by kernel_rfl) (fun Y hC => ?_) ?_
  · go_simp
  simp only [Act.put, List.setIfInBounds_toArray, List.set_cons_zero, List.set_cons_succ]
  refine wpQuiet_at 22 (.pointer (some ⟨g, 3, none⟩)) rfl (by kernel_rfl) (fun Y hC => ?_) ?_
  · go_simp
  simp only [Act.put, List.setIfInBounds_toArray, List.set_cons_zero, List.set_cons_succ]
  refine wpQuiet_at 23 (.int .u32 x3) rfl (by kernel_rfl) (fun Y hC => ?_) ?_
  · have k0 := (r1.below hC r1.lt).cell_at 3
    simp only [List.getElem?_cons_zero, List.getElem?_cons_succ] at k0
    go_simp
  simp only [Act.put, List.setIfInBounds_toArray, List.set_cons_zero, List.set_cons_succ]
  refine wpQuiet_at 24 (.pointer (some ⟨F.p, 0, none⟩)) rfl (by kernel_rfl) (fun Y hC => ?_) ?_
  · go_simp
  simp only [Act.put, List.setIfInBounds_toArray, List.set_cons_zero, List.set_cons_succ]
  refine wpQuiet_at 25 (.int .u32 (tv : Nat)) rfl (by kernel_rfl) (fun Y hC => ?_) ?_
  · go_simp
    exact (HRt.out Y (hBV.trans (hC.mono hBV.size))).mono fun e X' ⟨a, b⟩ => ⟨a, hC.trans (b.mono hC.size)⟩
  simp only [Act.put, List.setIfInBounds_toArray, List.set_cons_zero, List.set_cons_succ]
  refine wpQuiet_at 26 (.bool false) rfl (by kernel_rfl) (fun Y hC => ?_) ?_
  · go_simp
  simp only [Act.put, List.setIfInBounds_toArray, List.set_cons_zero, List.set_cons_succ]
  refine wpQuiet_at 27 (.bool false) rfl (by kernel_rfl) (fun Y hC => ?_) ?_
  · go_simp
  simp only [Act.put, List.setIfInBounds_toArray, List.set_cons_zero, List.set_cons_succ]
  refine wpQuiet_at 4 (.bool false) rfl (by kernel_rfl) (fun Y hC => ?_) ?_
  · go_simp
  simp only [Act.put, List.setIfInBounds_toArray, List.set_cons_zero, List.set_cons_succ]
  refine wpQuiet_nil ?_
  intro V2 hb2
  have HF := Lib.hid (hBV.trans (hb2.mono hBV.size))
  clear hb2 hBV HIs HRt r1 HV1 Hg
  go_wp2_with fail
  go_ret
  exact ⟨rfl, HF.out⟩
set_option maxHeartbeats 1600000 in
set_option maxRecDepth 100000 in
theorem kernel_isclass_no (H : HeapAt w F h) (S : SC h) {o : Nat} {t : List Nat} (b : Bs h o (wd h.rt 19) t) :
    Calls Tryz.prog 245 #[.pointer (some ⟨F.p, 0, none⟩), .int .u32 o] w fun e w' => e = .returned (.bool false) ∧ Below w.heap.size w w' := by
  have hs := isF_isO S.cls
  have hc := b.cls
  obtain ⟨x0, x1, x2, x3, x4, hx⟩ : ∃ x0 x1 x2 x3 x4, hdO h o = ⟨x0, x1, x2, x3, x4⟩ := ⟨_, _, _, _, _, rfl⟩
  have HD := Lib.hid (header_is H b.is hx)
  rw [hx] at hc
  replace hc : x3 = wd h.rt 19 := hc
  have HBa := Lib.hid (fun X (hb : Below w.heap.size w X) => kernel_bare (H.below hb) (live_of S.live))
  have HM1 := Lib.hid (fun X (hb : Below w.heap.size w X) => kernel_meta_no (H.below hb) b.is (by rw [b.cls]; exact hs) (by rw [b.cls]; exact fun e => S.d12 e.symm))
  have HM2 := Lib.hid (fun X (hb : Below w.heap.size w X) => show Calls Tryz.prog 308 #[.pointer (some ⟨F.p, 0, none⟩), .int .u32 x3] X fun e w' => e = .returned (.bool false) ∧ Below X.heap.size X w' from by rw [hc]; exact kernel_meta_no (H.below hb) hs S.mo S.mn)
  clear H S b hs hc hx
  go_enter Tryz.func245, Tryz.ntmps245
  go_wp2_with fail
  refine (HD.out).mono ?_
  rintro e V ⟨rfl, hb⟩
  (try dsimp only)
  obtain ⟨V1, hV1, r1, hb1, hz1⟩ := alloc_row V 102 [.int .i64 x0, .int .i64 x1, .int .i64 x2, .int .u32 x3, .int .u32 x4]
  have HV1 := Lib.hid hV1
  have HB := Lib.hid (hb.trans (hb1.mono hb.size))
  obtain ⟨g, hg⟩ : ∃ g, g = V.heap.size := ⟨_, rfl⟩
  rw [← hg] at r1
  have Hg := Lib.hid hg
  have R1 := Lib.hid r1
  clear hV1 hb1 hz1 hb hg HD r1
  go_wp2_with fail
  rw [← HV1.out, ← Hg.out]
  refine (HBa.out _ HB.out).mono ?_
  rintro e V2 ⟨rfl, hb⟩
  (try dsimp only)
  have HB2 := Lib.hid (HB.out.trans (hb.mono HB.out.size))
  have R2 := Lib.hid (R1.out.below hb R1.out.lt)
  clear hb HBa R1 HB HV1
  go_wp2_with fail
  refine (HM1.out _ HB2.out).mono ?_
  rintro e V3 ⟨rfl, hb⟩
  (try dsimp only)
  have HB3 := Lib.hid (HB2.out.trans (hb.mono HB2.out.size))
  have r3 := R2.out.below hb R2.out.lt
  have k3 := r3.cell_at 3
  simp only [List.getElem?_cons_zero, List.getElem?_cons_succ] at k3
  clear hb HM1 R2 HB2 r3
  go_wp2_with fail
  refine (HM2.out _ HB3.out).mono ?_
  rintro e V4 ⟨rfl, hb⟩
  (try dsimp only)
  have HB4 := Lib.hid (HB3.out.trans (hb.mono HB3.out.size))
  clear hb HM2 HB3 k3
  go_wp2_with fail
  go_ret
  exact ⟨rfl, HB4.out⟩
end
end Go.Proofs.YteiikhcadjdkcaaGreatDoor
namespace Go.Proofs.YteiikhcadjdkcaaGreatDoor
open Go Go.RowKit Limb
def tx (S : ByteArray) : List Nat := S.data.toList.map UInt8.toNat
theorem tx_length (S : ByteArray) : (tx S).length = S.size := by unfold tx; rw [List.length_map, Array.length_toList]; rfl
theorem tx_b8 (S : ByteArray) : B8 (tx S) := by
  intro x hx
  unfold tx at hx
  obtain ⟨u, _, rfl⟩ := List.mem_map.1 hx
  exact u.toNat_lt
theorem str_of_nats {l : List Nat} (hl : B8 l) : tx (strOfNums (l.map fun n : Nat => (n : Int))) = l := by
  unfold tx
  rw [strOfNums_data, List.map_map, List.map_map]
  have : ∀ x ∈ l, (UInt8.toNat ∘ (fun n : Int => UInt8.ofNat n.toNat) ∘ fun n : Nat => (n : Int)) x = x := fun x hx => by
    show (UInt8.ofNat ((x : Int).toNat)).toNat = x
    rw [Int.toNat_natCast, UInt8.toNat_ofNat']
    exact Nat.mod_eq_of_lt (hl x hx)
  exact (List.map_congr_left this).trans (List.map_id _)
theorem tx_inj {a b : ByteArray} (h : tx a = tx b) : a = b := by
  unfold tx at h
  have h2 : a.data.toList = b.data.toList := by
    generalize a.data.toList = x at h
    generalize b.data.toList = y at h
    induction x generalizing y with
    | nil => cases y with
      | nil => rfl
      | cons _ _ => simp at h
    | cons p s ih => cases y with
      | nil => simp at h
      | cons q t =>
        simp only [List.map_cons, List.cons.injEq] at h
        rw [UInt8.toNat_inj.1 h.1, ih t h.2]
  obtain ⟨⟨x⟩⟩ := a; obtain ⟨⟨y⟩⟩ := b
  simpa using h2
theorem conv_lay {P : Program} {w : World} {a : Option Addr} {l : List Nat} {n c : Nat} (src e : TypeId) (hs : P.underlying src = some (.slice e)) (he : P.underlying e = some (.int .u8)) (h : Lay .u8 w a l) (ha : ∃ g, a = some ⟨g, 0, none⟩) (hn : n = l.length) (hb : B8 l) :
    ∃ s, tx s = l ∧ ∀ dst, P.underlying dst = some .string → (convert src dst (.slice a n c)).run P w = .ok (.string s) w := by
  refine ⟨strOfNums (l.map fun n : Nat => (n : Int)), str_of_nats hb, ?_⟩
  obtain ⟨g, rfl⟩ := ha
  refine run_convert_bytes_arg w src e hs he g 0 n c _ (by simp [hn]) (fun i hi => ?_)
  obtain ⟨b, off, h1, h2⟩ := h
  have h3 := (h1 (by omega)).1
  simp only [Option.some.injEq, Addr.mk.injEq, and_true] at h3
  obtain ⟨rfl, rfl⟩ := h3
  rw [h2 i (by omega), wd_lt (by omega)]
  simp [List.getD_eq_getElem?_getD, show i < l.length by omega]
theorem readsO_of {h : Hp} {t : List Nat} {o : Nat} : readsO h t o = (decide (erX h o = 0) && decide ((hdX h o).len = t.length) && decide (bytE h o = 0) && decide (bytO h o = t)) := by
  unfold readsO isF erX hdX bytE
  by_cases hi : isO h o = true
  · rw [if_pos hi, if_pos hi, if_pos hi, hi]
    by_cases hf : (hdO h o).fmt = 2
    · rw [if_pos hf, decide_eq_true hf]; simp
    · rw [if_neg hf, decide_eq_false hf]; simp
  · rw [if_neg hi, if_neg hi, if_neg hi]
    rw [Bool.not_eq_true] at hi
    rw [hi]; simp
theorem bytO_length {h : Hp} (k : Limb.Good h) {o : Nat} (he : bytE h o = 0) : (bytO h o).length = (hdO h o).len := by
  unfold bytE at he
  by_cases hi : isO h o = true
  · rw [if_pos hi] at he
    by_cases hf : (hdO h o).fmt = 2
    · obtain ⟨b1, _⟩ := bytes_parts k hi hf
      unfold bytO
      rw [List.length_take, unpB_length, flds_length k hi]; omega
    · rw [if_neg hf] at he; omega
  · rw [if_neg hi] at he; omega
theorem bytO_b8 (h : Hp) (o : Nat) : B8 (bytO h o) := fun x hx => unpB_b8 _ x (List.mem_of_mem_take hx)
section
variable {w : World} {F : Foot} {h : Hp}
set_option maxHeartbeats 1600000 in
set_option maxRecDepth 100000 in
theorem kernel_reads (H : HeapAt w F h) (o : Nat) (ho : o < 4294967296) (S : ByteArray) (hS : S.size ≤ 262140) :
    Calls Tryz.prog 257 #[.pointer (some ⟨F.p, 0, none⟩), .int .u32 o, .string S] w fun e w' => e = .returned (.bool (readsO h (tx S) o)) ∧ Below w.heap.size w w' := by
  have HL := Lib.hid (heap_Length H o ho)
  have HB := Lib.hid (fun X (hb : Below w.heap.size w X) => heap_Bytes (H.below hb) o ho)
  obtain ⟨r, hr⟩ : ∃ b, b = readsO h (tx S) o := ⟨_, rfl⟩
  have hr2 := hr
  rw [readsO_of, tx_length] at hr2
  rw [← hr]
  have HR := Lib.hid hr2
  clear hr hr2
  by_cases e0 : erX h o = 0
  · by_cases e1 : (hdX h o).len = S.size
    · have hl := HL.out
      rw [e0, e1] at hl
      have HL := Lib.hid hl
      have q : ((S.size : Int) != (S.size : Int)) = false := by simp
      by_cases e2 : bytE h o = 0
      · have hb := HB.out
        have hlb := bytO_length H.good e2
        have hb8 := bytO_b8 h o
        simp only [e2, if_true] at hb
        rw [← hlb] at hb
        have hrr := HR.out
        rw [e0, e1, e2] at hrr
        simp only [decide_true, Bool.true_and] at hrr
        generalize bytO h o = bs at *
        have HB := Lib.hid hb
        have HRR := Lib.hid hrr
        have HB8 := Lib.hid hb8
        clear hb hrr hlb hl hb8 e0 e1 e2 HR H
        go_enter Tryz.func257, Tryz.ntmps257
        go_wp2_with fail
        refine (HL.out).mono ?_
        rintro e V ⟨rfl, hB⟩
        (try dsimp only)
        go_wp2_with fail
        refine (HB.out V hB).mono ?_
        rintro e V2 ⟨⟨a, c, rfl, hx⟩, hb⟩
        (try dsimp only)
        obtain ⟨hga, hlay⟩ := hx (by trivial)
        obtain ⟨s, hs, hcv⟩ := conv_lay (P := Tryz.prog) (c := c) 22 5 Tryz.underlying22 Tryz.underlying5 hlay hga rfl HB8.out
        have hc := hcv 9 Tryz.underlying9
        replace hB := hB.trans (hb.mono hB.size)
        by_cases he : bs = tx S
        · have hsS : s = S := tx_inj (hs.trans he)
          subst hsS
          obtain rfl : r = true := by rw [HRR.out, decide_eq_true he]
          clear hs he HRR
          go_wp2_with fail
          go_ret
          exact ⟨rfl, hB⟩
        · have hne : (s.toList == S.toList) = false := by
            rw [beq_eq_false_iff_ne]
            intro e
            rw [ByteArray.toList_eq, ByteArray.toList_eq] at e
            exact he (hs.symm.trans (by unfold tx; rw [e]))
          obtain rfl : r = false := by rw [HRR.out, decide_eq_false he]
          clear hs he HRR
          go_wp2_with fail
          go_ret
          exact ⟨rfl, hB⟩
      · obtain rfl : r = false := by rw [HR.out, decide_eq_false e2]; simp
        have hb := HB.out
        simp only [e2, if_false] at hb
        have q1 : (((bytE h o : Nat) : Int) == 0) = false := by rw [beq_eq_false_iff_ne]; omega
        have q2 : (bytE h o == 0) = false := by rw [beq_eq_false_iff_ne]; exact e2
        generalize bytE h o = be at *
        have HB := Lib.hid hb
        clear hb hl e0 e1 e2 HR H
        go_enter Tryz.func257, Tryz.ntmps257
        go_wp2_with fail
        refine (HL.out).mono ?_
        rintro e V ⟨rfl, hB⟩
        (try dsimp only)
        go_wp2_with fail
        refine (HB.out V hB).mono ?_
        rintro e V2 ⟨⟨a, c, rfl, hx⟩, hb⟩
        (try dsimp only)
        replace hB := hB.trans (hb.mono hB.size)
        clear hb
        clear hx
        go_wp2_with fail
        go_ret
        exact ⟨rfl, hB⟩
    · obtain rfl : r = false := by rw [HR.out, decide_eq_false e1]; simp
      have hl := HL.out
      rw [e0] at hl
      have q1 : ((((hdX h o).len : Nat) : Int) != (S.size : Int)) = true := by rw [bne_iff_ne]; omega
      have q2 : ((((hdX h o).len : Nat) : Int) == (S.size : Int)) = false := by rw [beq_eq_false_iff_ne]; omega
      have q3 : ((hdX h o).len == S.size) = false := by rw [beq_eq_false_iff_ne]; exact e1
      generalize (hdX h o).len = ln at *
      have HL := Lib.hid hl
      clear hl e0 e1 HR H HB
      go_enter Tryz.func257, Tryz.ntmps257
      go_wp2_with fail
      refine (HL.out).mono ?_
      rintro e V ⟨rfl, hB⟩
      (try dsimp only)
      go_wp2_with fail
      go_ret
      exact ⟨rfl, hB⟩
  · obtain rfl : r = false := by rw [HR.out, decide_eq_false e0]; simp
    have q1 : (((erX h o : Nat) : Int) != 0) = true := by rw [bne_iff_ne]; omega
    have q2 : (((erX h o : Nat) : Int) == 0) = false := by rw [beq_eq_false_iff_ne]; omega
    have q3 : (erX h o == 0) = false := by rw [beq_eq_false_iff_ne]; exact e0
    have hl := HL.out
    generalize erX h o = er at *
    have HL := Lib.hid hl
    clear hl e0 HR H HB
    go_enter Tryz.func257, Tryz.ntmps257
    go_wp2_with fail
    refine (HL.out).mono ?_
    rintro e V ⟨rfl, hB⟩
    (try dsimp only)
    go_wp2_with fail
    go_ret
    exact ⟨rfl, hB⟩
end
end Go.Proofs.YteiikhcadjdkcaaGreatDoor
namespace Go.Proofs.YteiikhcadjdkcaaGreatDoor
open Go Go.RowKit Limb
def ivs (xs : List Int) : List Value := xs.map (Value.int .i64)
theorem info_int : (Tryz.prog.info? 3).map (fun i => (i.zero, i.size, i.bytes)) = some (some (.int .i64 0), 1, 8) := by kernel_rfl
def OwnI (w : World) (v : Value) (xs : List Int) (B : Nat) : Prop :=
  (v = .slice none 0 0 ∧ xs = []) ∨ ∃ g c, v = .slice (some ⟨g, 0, none⟩) xs.length c ∧ Sl w g 3 xs.length c (ivs xs) ∧ B ≤ g ∧ 0 < xs.length
theorem OwnI.below {w w' : World} {v : Value} {xs : List Int} {B : Nat} (hs : OwnI w v xs B) (hb : Below w.heap.size w w') : OwnI w' v xs B := by
  rcases hs with hs | ⟨g, c, h1, h2, h3, h4⟩
  · exact .inl hs
  · exact .inr ⟨g, c, h1, h2.below hb, h3, h4⟩
theorem OwnI.owns {w : World} {v : Value} {xs : List Int} {B : Nat} (hs : OwnI w v xs B) : w.ownsRow 0 3 1 v xs.length (ivs xs) := by
  rcases hs with ⟨rfl, rfl⟩ | ⟨g, c, rfl, h2, h3, h4⟩
  · exact ⟨rfl, .inl ⟨rfl, rfl⟩⟩
  · exact h2.owns
theorem OwnI.ownBlock {w : World} {v : Value} {xs : List Int} {B : Nat} (hs : OwnI w v xs B) : v.ownBlock = none ∨ ∃ g, v.ownBlock = some g ∧ B ≤ g := by
  rcases hs with ⟨rfl, rfl⟩ | ⟨g, c, rfl, h2, h3, h4⟩
  · exact .inl rfl
  · exact .inr ⟨g, rfl, h3⟩
theorem owni_append {v : Value} {xs : List Int} {X : World} {B : Nat} (hs : OwnI X v xs B) (hB : B ≤ X.heap.size) (x : Int) (hl : xs.length ≤ 100000) :
    ∃ v' X', (Builtin.append_ #[48, 48] 48 #[v, .slice (some ⟨X.heap.size, 0, none⟩) 1 1]).run Tryz.prog (X.alloc (.cells #[.int .i64 x] 3)) = .ok v' X' ∧ OwnI X' v' (xs ++ [x]) B ∧ Below B X X' := by
  obtain ⟨i0, hi, hz0, hz1, hz2⟩ := info_parts info_int
  have hb : Below B X (X.alloc (.cells #[.int .i64 x] 3)) := (Below.refl _ _).alloc hB _
  have hown2 : (X.alloc (.cells #[.int .i64 x] 3)).ownsRow 0 3 1 v xs.length (ivs xs) := hs.owns.alloc _
  obtain ⟨v', X', hr, h2, h3, h4, h5⟩ := run_append_own_at (P := Tryz.prog) (w := X.alloc (.cells #[.int .i64 x] 3)) 0 48 48 3 i0 (.int .i64 0) 1 8 Tryz.underlying48 hi hz0 hz1 hz2 rfl (by decide) v xs.length _ hown2 ⟨X.heap.size, 0, none⟩ 1 1 (ivs [x]) rfl (cell_one_new _ _ _) (by simp [ivs, Value.oneCell']) (Nat.le_trans (show xs.length + 1 ≤ 100001 by omega) (by decide)) (by omega) (Nat.zero_le _)
  have hXs : X.heap.size < (X.alloc (.cells #[.int .i64 x] 3)).heap.size := by rw [World.size_alloc]; omega
  have hob := hs.ownBlock
  have hb2 : Below B (X.alloc (.cells #[.int .i64 x] 3)) X' := ⟨h3.os, h3.tape, h3.output, h3.size, fun k hk => h3.block k (by omega) (fun e => by
    rcases hob with e1 | ⟨g, e1, e2⟩
    · rw [e1] at e; cases e
    · rw [e1] at e; have := Option.some.inj e; omega)⟩
  obtain ⟨g', c', rfl, hgb, hs'⟩ := Sl.of_owns h2 (by omega)
  have hs' : Sl X' g' 3 (xs.length + 1) c' (ivs (xs ++ [x])) := by unfold ivs; rw [List.map_append]; exact hs'
  refine ⟨_, X', hr, .inr ⟨g', c', by rw [List.length_append]; rfl, by rw [List.length_append]; exact hs', ?_, by rw [List.length_append]; exact Nat.succ_pos _⟩, hb.trans hb2⟩
  rw [hgb] at h5
  rcases h5 with h5 | h5
  · rcases hob with e | ⟨g, e, e1⟩
    · rw [e] at h5; cases h5
    · rw [e] at h5; rw [Option.some.inj h5]; exact e1
  · rw [Option.some.inj h5]; omega
set_option maxHeartbeats 1600000 in
set_option maxRecDepth 100000 in
theorem prim_ints (w : World) (ga n : Nat) (l : List Nat) (hn : n = l.length) (hl : n ≤ 100) (R : Row w ga 30 (nums .u32 l)) (ho : ∀ k, k < n → wd l k % 2 = 1 ∧ wd l k < 4294967296) :
    Calls Tryz.prog 103 #[.slice (some ⟨ga, 0, none⟩) n n] w fun e w' => ∃ v, e = .returned (.tuple #[v, .bool true]) ∧ OwnI w' v (l.map valueO) w.heap.size ∧ Below w.heap.size w w' := by
  have sl := R.sl (n := n) (by rw [nums_length]; exact hn) (Nat.le_trans hl (by decide))
  have HIx := Lib.hid (fun W k (hk : k < n) => sl.index 53 Tryz.underlying53 size_oop W .i64 k hk)
  have HCx := Lib.hid (fun X (hb : Below w.heap.size w X) k (hk : k < n) => show X.cell? ⟨ga, k, none⟩ = some (.int .u32 (wd l k : Nat)) from by
    have := (sl.below hb).cell hk
    rwa [nums_get (by rw [← hn]; exact hk)] at this)
  have HV := Lib.hid (fun W k (hk : k < n) => oop_value W (wd l k) (ho k hk).2 (ho k hk).1)
  have HTk := Lib.hid (fun k (hk : k < n) => show l.map valueO = (l.take k).map valueO ++ [valueO (wd l k)] ++ (l.drop (k + 1)).map valueO from by
    have hk' : k < l.length := by omega
    rw [List.append_assoc, ← List.map_singleton, ← List.map_append, ← List.map_append]
    congr 1
    rw [wd_lt hk', List.singleton_append, ← List.drop_eq_getElem_cons hk', List.take_append_drop])
  have HSn := Lib.hid (fun k (hk : k < n) => show (l.take (k + 1)).map valueO = (l.take k).map valueO ++ [valueO (wd l k)] from by
    have hk' : k < l.length := by omega
    rw [List.take_succ_eq_append_getElem hk', List.map_append, wd_lt hk']; rfl)
  have HL := Lib.hid (fun k (hk : k ≤ n) => show ((l.take k).map valueO).length = k from by rw [List.length_map, List.length_take]; omega)
  have HAll := Lib.hid (show (l.take n).map valueO = l.map valueO from by rw [hn, List.take_length])
  clear sl R ho hn HTk
  go_enter Tryz.func103, Tryz.ntmps103
  go_wp2_with fail
  go_loopw [11, 4] (fun i s wr => ∃ k : Nat, k ≤ n ∧ i = .int .i64 k ∧ Hid (OwnI wr s ((l.take k).map valueO) w.heap.size) ∧ Hid (Below w.heap.size w wr)) (fun i _ _ => n - (RowKit.intOf i).toNat)
  case atStart => exact ⟨0, Nat.zero_le _, rfl, Lib.hid (.inl ⟨rfl, rfl⟩), Lib.hid (Below.refl _ _)⟩
  case round =>
    obtain ⟨k, hk, rfl, HO, HB⟩ := hrel
    by_cases h0 : k < n
    · have d1 : decide ((k : Int) < (n : Int)) = true := decide_eq_true (by omega)
      have d2 : decide (k < n) = true := decide_eq_true h0
      have ix := fun W => HIx.out W k h0
      have cx := HCx.out wr HB.out k h0
      have HV1 := Lib.hid (HV.out wr k h0)
      obtain ⟨s', X2, hr, hS2, hB2⟩ := owni_append HO.out HB.out.size (valueO (wd l k)) (by have := HL.out k hk; omega)
      have HR2 := Lib.hid hr
      have HS2 := Lib.hid (show OwnI X2 s' ((l.take (k + 1)).map valueO) w.heap.size by rw [HSn.out k h0]; exact hS2)
      have HB2 := Lib.hid (HB.out.trans hB2)
      generalize valueO (wd l k) = zk at *
      generalize wd l k = ok at *
      clear hr hS2 hB2
      go_wp2_with fail
      refine (HV1.out).mono ?_
      rintro e W1 ⟨rfl, rfl⟩
      (try dsimp only)
      go_wp2_with (at_builtin; refine Lib.wpList_append_run _ rfl _ _ _ _ rfl _ _ rfl rfl _ _ HR2.out ?_)
      go_roundw
      case rel => exact ⟨k + 1, h0, by simp, HS2, HB2⟩
      case measure => simp [RowKit.intOf]; omega
    · obtain rfl : k = n := by omega
      have d1 : decide ((k : Int) < (k : Int)) = false := decide_eq_false (by omega)
      have d2 : decide (k < k) = false := decide_eq_false (by omega)
      go_wp2_with fail
      go_ret2
      exact ⟨_, rfl, by rw [← HAll.out]; exact HO.out, HB.out⟩
theorem prim_ints2 (w : World) (ga : Nat) (r q : Nat) (hr : r % 2 = 1) (hr2 : r < 4294967296) (hq : q % 2 = 1) (hq2 : q < 4294967296) (R : Row w ga 30 [.int .u32 (r : Nat), .int .u32 (q : Nat)]) :
    Calls Tryz.prog 103 #[.slice (some ⟨ga, 0, none⟩) 2 2] w fun e w' => ∃ g c, e = .returned (.tuple #[.slice (some ⟨g, 0, none⟩) 2 c, .bool true]) ∧ Sl w' g 3 2 c (ivs [valueO r, valueO q]) ∧ w.heap.size ≤ g ∧ Below w.heap.size w w' :=
  (prim_ints w ga 2 [r, q] rfl (by decide) R (fun k hk => by
    have : k = 0 ∨ k = 1 := by omega
    rcases this with rfl | rfl
    · exact ⟨hr, hr2⟩
    · exact ⟨hq, hq2⟩)).mono fun e w' ⟨v, he, hO, hB⟩ => by
    rcases hO with ⟨_, e1⟩ | ⟨g, c, rfl, h2, h3, _⟩
    · cases e1
    · exact ⟨g, c, he, h2, h3, hB⟩
end Go.Proofs.YteiikhcadjdkcaaGreatDoor
