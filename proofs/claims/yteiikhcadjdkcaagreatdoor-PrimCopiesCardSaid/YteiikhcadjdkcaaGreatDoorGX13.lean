/- The walks of package heap: made, Is, at, value, class, Root, Top, Last, Size. The walks of package heap: header, Header. -/
import Derived.Test.YteiikhcadjdkcaaGreatDoorGX12
import Derived.Laws.Cover3
set_option linter.unusedVariables false
set_option linter.unusedSimpArgs false
namespace Go.Proofs.YteiikhcadjdkcaaGreatDoor
open Go Go.RowKit Limb
theorem kind_two {o : Nat} : kindN o = 2 ↔ o ≠ 0 ∧ o % 2 = 0 := by
  unfold kindN
  by_cases h0 : o = 0
  · simp [h0]
  · rw [if_neg h0]
    by_cases h1 : o % 2 = 1
    · rw [if_pos h1]; omega
    · rw [if_neg h1]; omega
section
variable {w : World} {F : Foot} {h : Hp}
set_option maxRecDepth 100000 in
theorem heap_made (H : HeapAt w F h) :
    Calls Tryz.prog 29 #[.pointer (some ⟨F.p, 0, none⟩)] w fun e w' => e = .returned (.bool true) ∧ w = w' := by
  obtain ⟨cw, cs, c0, c1, c2, c3, c4, hw, hs⟩ := H.cells
  have d1 : decide ((0 : Int) < (h.size : Int)) = true := decide_eq_true (by have := H.small; omega)
  have d2 : decide (0 < h.size) = true := decide_eq_true (by have := H.small; omega)
  generalize h.size = n at *
  clear hw hs H
  go_enter Tryz.func29, Tryz.ntmps29
  go_wp2_with fail
  go_ret
  exact ⟨rfl, rfl⟩
set_option maxRecDepth 100000 in
theorem heap_at (o : Nat) (ho : o < 4294967296) (w : World) (p : Value) :
    Calls Tryz.prog 49 #[p, .int .u32 o] w fun e w' => e = .returned (.int .i64 (idxN o)) ∧ w = w' := by
  have HK := Lib.hid (oop_index w o ho)
  go_enter Tryz.func49, Tryz.ntmps49
  go_wp2_with fail
  refine (HK.out).mono ?_
  rintro e w1 ⟨rfl, rfl⟩
  (try dsimp only)
  go_wp2_with fail
  go_ret
  exact ⟨rfl, rfl⟩
set_option maxHeartbeats 800000 in
set_option maxRecDepth 100000 in
theorem heap_is (H : HeapAt w F h) (o : Nat) (ho : o < 4294967296) :
    Calls Tryz.prog 24 #[.pointer (some ⟨F.p, 0, none⟩), .int .u32 o] w fun e w' => e = .returned (.bool (isO h o)) ∧ w = w' := by
  have HK := Lib.hid (oop_index w o ho)
  have HM := Lib.hid (heap_made H)
  obtain ⟨cw, cs, c0, c1, c2, c3, c4, hw, hs⟩ := H.cells
  have hlen := H.good.len
  by_cases h2 : kindN o = 2
  · have e1 : idxN o = o / 2 := by unfold idxN; rw [if_pos h2]
    have e2 : idxE o = 0 := by unfold idxE; rw [if_pos h2]
    have hk := HK.out
    rw [e1, e2] at hk
    have HK := Lib.hid hk
    have e3 : isO h o = begins h (o / 2) := by
      obtain ⟨k1, k2⟩ := kind_two.1 h2
      unfold isO; rw [decide_eq_true k1, decide_eq_true k2]; rfl
    rw [e3]
    clear h2 e1 e2 e3 hk
    generalize o / 2 = i at *
    by_cases hi : i < h.ws.length
    · have d1 : decide ((i : Int) < (h.ws.length : Int)) = true := decide_eq_true (by omega)
      have d2 : decide (i < h.ws.length) = true := decide_eq_true hi
      have hc := hs.cell hi
      rw [bools_get (by omega)] at hc
      have e4 : begins h i = h.st.getD i false := rfl
      rw [← e4] at hc
      have ix := fun W => hs.index 72 Tryz.underlying72 size_bool W .i64 i hi
      generalize begins h i = b at *
      generalize h.ws.length = n at *
      clear hw hs H hlen hi e4
      go_enter Tryz.func24, Tryz.ntmps24
      go_wp2_with fail
      refine (HK.out).mono ?_
      rintro e w1 ⟨rfl, rfl⟩
      (try dsimp only)
      go_wp2_with fail
      refine (HM.out).mono ?_
      rintro e w1 ⟨rfl, rfl⟩
      (try dsimp only)
      go_wp2_with fail
      go_ret
      exact ⟨rfl, rfl⟩
    · have d1 : decide ((i : Int) < (h.ws.length : Int)) = false := decide_eq_false (by omega)
      have d2 : decide (i < h.ws.length) = false := decide_eq_false hi
      have e4 : begins h i = false := by
        unfold begins; rw [List.getD_eq_getElem?_getD, List.getElem?_eq_none (by omega)]; rfl
      rw [e4]
      generalize h.ws.length = n at *
      clear hw hs H hlen hi e4
      go_enter Tryz.func24, Tryz.ntmps24
      go_wp2_with fail
      refine (HK.out).mono ?_
      rintro e w1 ⟨rfl, rfl⟩
      (try dsimp only)
      go_wp2_with fail
      refine (HM.out).mono ?_
      rintro e w1 ⟨rfl, rfl⟩
      (try dsimp only)
      go_wp2_with fail
      go_ret
      exact ⟨rfl, rfl⟩
  · have e2 : idxE o = 3 := by unfold idxE; rw [if_neg h2]
    have hk := HK.out
    rw [e2] at hk
    have HK := Lib.hid hk
    have e3 : isO h o = false := by
      rw [Bool.eq_false_iff]; intro e; exact h2 (kind_two.2 ⟨(isO_iff.1 e).1, (isO_iff.1 e).2.1⟩)
    rw [e3]
    clear h2 e2 e3 hk hw hs H hlen
    go_enter Tryz.func24, Tryz.ntmps24
    go_wp2_with fail
    refine (HK.out).mono ?_
    rintro e w1 ⟨rfl, rfl⟩
    (try dsimp only)
    go_wp2_with fail
    go_ret
    exact ⟨rfl, rfl⟩
set_option maxRecDepth 100000 in
theorem heap_value (H : HeapAt w F h) (o : Nat) (ho : o < 4294967296) :
    Calls Tryz.prog 30 #[.pointer (some ⟨F.p, 0, none⟩), .int .u32 o] w fun e w' => e = .returned (.bool (valO h o)) ∧ w = w' := by
  have HK := Lib.hid (oop_kind w o ho)
  have HI := Lib.hid (heap_is H o ho)
  by_cases h2 : kindN o = 2
  · have e3 : valO h o = isO h o := by
      obtain ⟨k1, k2⟩ := kind_two.1 h2
      unfold valO; rw [decide_eq_false k1, decide_eq_false (show ¬ o % 2 = 1 by omega)]; rfl
    rw [e3]
    have hk := HK.out
    rw [h2] at hk
    have HK := Lib.hid hk
    generalize isO h o = b at *
    clear h2 hk e3 H
    go_enter Tryz.func30, Tryz.ntmps30
    go_wp2_with fail
    refine (HK.out).mono ?_
    rintro e w1 ⟨rfl, rfl⟩
    (try dsimp only)
    go_wp2_with fail
    refine (HI.out).mono ?_
    rintro e w1 ⟨rfl, rfl⟩
    (try dsimp only)
    go_wp2_with fail
    go_ret
    exact ⟨rfl, rfl⟩
  · have e3 : valO h o = true := by
      have h3 : ¬ (o ≠ 0 ∧ o % 2 = 0) := fun e => h2 (kind_two.2 e)
      unfold valO
      by_cases h0 : o = 0
      · rw [decide_eq_true h0]; rfl
      · rw [decide_eq_true (show o % 2 = 1 by omega)]; simp
    have q : (((kindN o : Nat) : Int) != 2) = true := by rw [bne_iff_ne]; omega
    have q2 : (((kindN o : Nat) : Int) == 2) = false := by rw [beq_eq_false_iff_ne]; omega
    rw [e3]
    generalize kindN o = k at *
    clear h2 e3 H HI
    go_enter Tryz.func30, Tryz.ntmps30
    go_wp2_with fail
    refine (HK.out).mono ?_
    rintro e w1 ⟨rfl, rfl⟩
    (try dsimp only)
    go_wp2_with fail
    go_ret
    exact ⟨rfl, rfl⟩
set_option maxRecDepth 100000 in
theorem heap_class (H : HeapAt w F h) (o : Nat) (ho : o < 4294967296) :
    Calls Tryz.prog 61 #[.pointer (some ⟨F.p, 0, none⟩), .int .u32 o] w fun e w' => e = .returned (.bool (clsO h o)) ∧ w = w' := by
  have HI := Lib.hid (heap_is H o ho)
  by_cases h0 : o = 0
  · have e : clsO h o = true := by unfold clsO; rw [decide_eq_true h0]; rfl
    rw [e]
    subst h0
    clear e H HI
    go_enter Tryz.func61, Tryz.ntmps61
    go_wp2_with fail
    go_ret
    exact ⟨rfl, rfl⟩
  · have e : clsO h o = isO h o := by unfold clsO; rw [decide_eq_false h0]; rfl
    have q0 : ((o : Int) == 0) = false := by rw [beq_eq_false_iff_ne]; omega
    have q0' : (o == 0) = false := by rw [beq_eq_false_iff_ne]; omega
    rw [e]
    generalize isO h o = b at *
    clear e H h0
    go_enter Tryz.func61, Tryz.ntmps61
    go_wp2_with fail
    refine (HI.out).mono ?_
    rintro e w1 ⟨rfl, rfl⟩
    (try dsimp only)
    go_wp2_with fail
    go_ret
    exact ⟨rfl, rfl⟩
set_option maxRecDepth 100000 in
theorem heap_root (H : HeapAt w F h) (i : Nat) (hi : i < 64) :
    Calls Tryz.prog 12 #[.pointer (some ⟨F.p, 0, none⟩), .int .i64 i] w fun e w' => e = .returned (.tuple #[.int .u32 (wd h.rt i : Nat), .int .i64 0]) ∧ w = w' := by
  have HM := Lib.hid (heap_made H)
  obtain ⟨cw, cs, c0, c1, c2, c3, c4, hw, hs⟩ := H.cells
  have hc := H.root_cell hi
  have d1 : decide ((i : Int) < 0) = false := decide_eq_false (by omega)
  have d2 : decide ((64 : Int) ≤ (i : Int)) = false := decide_eq_false (by omega)
  have d3 : decide (64 ≤ i) = false := decide_eq_false (by omega)
  have sl : Sl w F.gr 30 64 64 (nums .u32 h.rt) := ⟨_, H.roots, by rw [nums_length]; exact H.good.rlen, by rw [nums_length]; exact H.good.rlen, Nat.le_refl _, by decide, List.take_of_length_le (by rw [nums_length, H.good.rlen]; exact Nat.le_refl _)⟩
  have ix := fun W => sl.index 53 Tryz.underlying53 size_oop W .i64 i hi
  clear hw hs H sl
  go_enter Tryz.func12, Tryz.ntmps12
  go_wp2_with fail
  refine (HM.out).mono ?_
  rintro e w1 ⟨rfl, rfl⟩
  (try dsimp only)
  go_wp2_with fail
  go_ret2
  exact ⟨rfl, rfl⟩
set_option maxRecDepth 100000 in
theorem heap_top (H : HeapAt w F h) :
    Calls Tryz.prog 46 #[.pointer (some ⟨F.p, 0, none⟩)] w fun e w' => e = .returned (.int .i64 h.ws.length) ∧ w = w' := by
  have HM := Lib.hid (heap_made H)
  obtain ⟨cw, cs, c0, c1, c2, c3, c4, hw, hs⟩ := H.cells
  clear hw hs H
  go_enter Tryz.func46, Tryz.ntmps46
  go_wp2_with fail
  refine (HM.out).mono ?_
  rintro e w1 ⟨rfl, rfl⟩
  (try dsimp only)
  go_wp2_with fail
  go_ret
  exact ⟨rfl, rfl⟩
set_option maxRecDepth 100000 in
theorem heap_last (H : HeapAt w F h) :
    Calls Tryz.prog 193 #[.pointer (some ⟨F.p, 0, none⟩)] w fun e w' => e = .returned (.int .u32 h.last) ∧ w = w' := by
  have HM := Lib.hid (heap_made H)
  obtain ⟨cw, cs, c0, c1, c2, c3, c4, hw, hs⟩ := H.cells
  clear hw hs H
  go_enter Tryz.func193, Tryz.ntmps193
  go_wp2_with fail
  refine (HM.out).mono ?_
  rintro e w1 ⟨rfl, rfl⟩
  (try dsimp only)
  go_wp2_with fail
  go_ret
  exact ⟨rfl, rfl⟩
end
end Go.Proofs.YteiikhcadjdkcaaGreatDoor
namespace Go.Proofs.YteiikhcadjdkcaaGreatDoor
open Go Go.RowKit Limb
theorem run_array3 (a : Option Addr) (c : Nat) (w : World) : (Instr.arrayAt 122 (.slice a 3 c)).run Tryz.prog w = .ok (.pointer a) w := run_arrayAt w _ _ 3 a 3 c Tryz.underlying122 (Nat.le_refl _)
attribute [local go_sem] run_array3
theorem store5 {w : World} {g : Nat} {e : TypeId} {u0 u1 u2 u3 u4 : Value} (h : Row w g e [u0, u1, u2, u3, u4]) (a b c d f : Value) : Row (((((w.setCell ⟨g, 0, none⟩ a).setCell ⟨g, 1, none⟩ b).setCell ⟨g, 2, none⟩ c).setCell ⟨g, 3, none⟩ d).setCell ⟨g, 4, none⟩ f) g e [a, b, c, d, f] :=
  ((((h.store_any 0 a).store_any 1 b).store_any 2 c).store_any 3 d).store_any 4 f
theorem below_store5 {B : Nat} {a w : World} (h : Below B a w) {g : Nat} (hp : B ≤ g) (u0 u1 u2 u3 u4 : Value) : Below B a (((((w.setCell ⟨g, 0, none⟩ u0).setCell ⟨g, 1, none⟩ u1).setCell ⟨g, 2, none⟩ u2).setCell ⟨g, 3, none⟩ u3).setCell ⟨g, 4, none⟩ u4) :=
  below_store (below_store (below_store (below_store (below_store h hp _) hp _) hp _) hp _) hp _
section
variable {w : World} {F : Foot} {h : Hp}
theorem hd_w0 (k : Limb.Good h) {i : Nat} (hb : begins h i = true) : (hd h i).w0 = wd h.ws i := w0_unp (k.ok i hb).2
set_option maxHeartbeats 800000 in
set_option maxRecDepth 100000 in
theorem heap_header (H : HeapAt w F h) (i : Nat) (hb : begins h i = true) :
    Calls Tryz.prog 182 #[.pointer (some ⟨F.p, 0, none⟩), .int .i64 i] w fun e w' => e = .returned (hdV (hd h i)) ∧ Below w.heap.size w w' := by
  have hin := H.good.inside i hb
  obtain ⟨hok, _⟩ := H.good.ok i hb
  have h0 := hd_w0 H.good hb
  have e1 : (hd h i).cls = wd h.ws (i + 1) := rfl
  have e2 : (hd h i).ser = wd h.ws (i + 2) := rfl
  have hsp := H.spares
  have h5 : 5 ≤ w.heap.size := hsp.1
  have HU := Lib.hid (fun X (hx : Below w.heap.size w X) => oop_unpack X (hd h i) hok (hsp.below hx h5))
  have hsm := H.small
  obtain ⟨cw, cs, c0, c1, c2, c3, c4, hw, hs⟩ := H.cells
  have q0 := hw.cell (i := i) (by omega)
  have q1 := hw.cell (i := i + 1) (by omega)
  have q2 := hw.cell (i := i + 2) (by omega)
  rw [nums_get (by omega)] at q0 q1 q2
  rw [h0, e1, e2] at HU
  have hle := hw.le
  generalize hd h i = x at *
  generalize wd h.ws i = a0 at *
  generalize wd h.ws (i + 1) = a1 at *
  generalize wd h.ws (i + 2) = a2 at *
  generalize h.ws.length = n at *
  have n1 : i + 3 ≤ n := by omega
  have n2 : n ≤ 1048576 := hsm.1
  have n3 : n ≤ cw := hle.1
  have hlt : F.gw < w.heap.size := hw.lt
  have hlp : F.p < w.heap.size := H.lt _ (by unfold Foot.l; simp)
  obtain ⟨W, hW, r0, hB, hz⟩ := alloc_row w 102 [.int .i64 0, .int .i64 0, .int .i64 0, .int .u32 0, .int .u32 0]
  have HW := Lib.hid hW
  have ex : hdV x = .agg #[.int .i64 x.size, .int .i64 x.fmt, .int .i64 x.spare, .int .u32 x.cls, .int .u32 x.ser] := rfl
  rw [ex] at HU ⊢
  generalize x.size = x0 at *
  generalize x.fmt = x1 at *
  generalize x.spare = x2 at *
  generalize x.cls = x3 at *
  generalize x.ser = x4 at *
  unfold w3V at HU
  clear hW hz ex hin hok h0 e1 e2 hsp hsm hw hs H hle hb c1 c2 c3 c4
  go_enter Tryz.func182, Tryz.ntmps182
  go_wp2_with fail
  rw [← HW.out]
  refine (HU.out W hB).mono ?_
  rintro e V ⟨rfl, hb⟩
  (try dsimp only)
  clear c0 q0 q1 q2
  replace r0 := r0.below hb r0.lt
  replace hB := hB.trans (hb.mono hB.size)
  clear hb
  have z0 := r0.free 0
  have z1 := r0.free 1
  have z2 := r0.free 2
  have z3 := r0.free 3
  have z4 := r0.free 4
  obtain ⟨p0, p1, p2, p3, p4⟩ := r0.cells5
  have hl : w.heap.size < V.heap.size := r0.lt
  have rs := store5 r0 (.int .i64 x0) (.int .i64 x1) (.int .i64 x2) (.int .u32 x3) (.int .u32 x4)
  have rr := rs.alloc (.cells #[.int .i64 x0, .int .i64 x1, .int .i64 x2, .int .u32 x3, .int .u32 x4] 102)
  have hS := below_store5 hB (Nat.le_refl _) (.int .i64 x0) (.int .i64 x1) (.int .i64 x2) (.int .u32 x3) (.int .u32 x4)
  have hE := hS.alloc hS.size (.cells #[.int .i64 x0, .int .i64 x1, .int .i64 x2, .int .u32 x3, .int .u32 x4] 102)
  have HE := Lib.hid hE
  obtain ⟨f0, f1, f2, f3, f4⟩ := Row.cells5 rr
  clear rr rs hS hE
  go_wp2_with fail
  refine bodyPost_ret (v := .agg #[.int .i64 x0, .int .i64 x1, .int .i64 x2, .int .u32 x3, .int .u32 x4]) (by simp [results, Tryz.results182, go_sem, f0, f1, f2, f3, f4]) rfl ⟨rfl, ?_⟩
  exact HE.out
end
end Go.Proofs.YteiikhcadjdkcaaGreatDoor
