/- The walk of large.divide. -/
import Derived.Test.YtbffpkmfhkphdaaGreatDoorGX21
import Derived.Test.YtbffpkmfhkphdaaGreatDoorJoinC
set_option linter.unusedVariables false
set_option linter.unusedSimpArgs false
namespace Go.Proofs.YtbffpkmfhkphdaaGreatDoor
open Go Go.RowKit Limb

def DivRes (w w' : World) (e : Ending) (q r : Int) : Prop := Below w.heap.size w w' ∧ ∃ aq cq ar cr,
  e = .returned (.tuple #[.agg #[.bool (decide (q < 0)), .slice aq (rep q.natAbs).length cq], .agg #[.bool (decide (r < 0)), .slice ar (rep r.natAbs).length cr], .int .i64 0]) ∧
  (rep q.natAbs).length ≤ cq ∧ (rep r.natAbs).length ≤ cr ∧ Lay .u32 w' aq (rep q.natAbs) ∧ Lay .u32 w' ar (rep r.natAbs)
def DivNone (w w' : World) (e : Ending) (k : Int) : Prop := Below w.heap.size w w' ∧
  e = .returned (.tuple #[.agg #[.bool false, .slice none 0 0], .agg #[.bool false, .slice none 0 0], .int .i64 k])

theorem rows4 (w : World) (t : TypeId) (a0 a1 b0 b1 c0 c1 d0 d1 : Value) : ∃ W, W = (((w.alloc (.cells #[a0, a1] t)).alloc (.cells #[b0, b1] t)).alloc (.cells #[c0, c1] t)).alloc (.cells #[d0, d1] t) ∧
    Row W w.heap.size t [a0, a1] ∧ Row W (w.heap.size + 1) t [b0, b1] ∧ Row W (w.heap.size + 1 + 1) t [c0, c1] ∧ Row W (w.heap.size + 1 + 1 + 1) t [d0, d1] ∧
    Below w.heap.size w W ∧ W.heap.size = w.heap.size + 1 + 1 + 1 + 1 := by
  obtain ⟨r0, r1, r2, hb, hs⟩ := rows3 w t a0 a1 b0 b1 c0 c1
  refine ⟨_, rfl, r0.alloc _, r1.alloc _, r2.alloc _, ?_, hb.alloc hb.size _, by rw [World.size_alloc, hs]⟩
  unfold Row; have := heap_alloc_new (((w.alloc (.cells #[a0, a1] t)).alloc (.cells #[b0, b1] t)).alloc (.cells #[c0, c1] t)) (.cells #[d0, d1] t); rw [hs] at this; exact this

set_option maxHeartbeats 800000 in
set_option maxRecDepth 100000 in
theorem divide_no (w : World) (n1 n2 fl : Bool) (a1 a2 : Option Addr) (l1 l2 : List Nat) (m1 m2 c1 c2 : Nat) (hy1 : Lay .u32 w a1 l1) (hy2 : Lay .u32 w a2 l2) (hl1 : Lim l1) (hl2 : Lim l2) (hm1 : m1 = l1.length) (hm2 : m2 = l2.length) (hb1 : m1 ≤ 9223372036854775807) (hb2 : m2 ≤ 9223372036854775807) (hok : (mayB n1 l1 && mayB n2 l2) = false) :
    Calls Tryz.prog 102 #[.agg #[.bool n1, .slice a1 m1 c1], .agg #[.bool n2, .slice a2 m2 c2], .bool fl] w fun e w' => DivNone w w' e 1 := by
  obtain ⟨W, hWe, r0, r1, r2, r3, hW, hsz⟩ := rows4 w 24 (.bool n1) (.slice a1 m1 c1) (.bool n2) (.slice a2 m2 c2) (.bool false) (.slice none 0 0) (.bool false) (.slice none 0 0)
  have HWe := Lib.hid hWe; clear hWe
  have hmay := fun g h1 h2 h3 => large_may2 (W.alloc (.cells #[.bool n1, .slice a1 m1 c1, .bool n2, .slice a2 m2 c2] 24)) g n1 n2 a1 a2 l1 l2 m1 m2 c1 c2 h1 h2 h3 hl1 hl2 hm1 hm2 hb1 hb2
  have Hm1 := Lib.hid hm1; clear hm1
  have Hm2 := Lib.hid hm2; clear hm2
  have hmay' := hmay (w.heap.size + 1 + 1 + 1 + 1) (by rw [← hsz]; exact row2slice _ _ _) ((hy1.below hW).below ((Below.refl _ _).alloc (Nat.le_refl _) _)) ((hy2.below hW).below ((Below.refl _ _).alloc (Nat.le_refl _) _))
  rw [hok] at hmay'
  have HM := Lib.hid hmay'; clear hmay hmay'
  go_enter Tryz.func102, Tryz.ntmps102
  go_wp2_with fail
  rw [← HWe.out]
  refine HM.out.mono ?_
  rintro e w1 ⟨rfl, hbw⟩
  have hbw' := below_over hbw
  have hB1 : Below w.heap.size w w1 := hW.trans (hbw'.mono hW.size)
  have q0 := r0.below hbw' r0.lt
  have q1 := r1.below hbw' r1.lt
  have q2 := r2.below hbw' r2.lt
  have q3 := r3.below hbw' r3.lt
  have hsz1 : w.heap.size + 4 ≤ w1.heap.size := by have := hbw'.size; omega
  have z0 := q2.cell_at 0
  have z1 := q2.cell_at 1
  have z2 := q3.cell_at 0
  have z3 := q3.cell_at 1
  have y0 := q2.free 0
  have y1 := q2.free 1
  have y2 := q3.free 0
  have y3 := q3.free 1
  simp only [List.getElem?_cons_zero, List.getElem?_cons_succ] at z0 z1 z2 z3
  obtain ⟨V, hV⟩ : ∃ V, V = (((w1.setCell ⟨w.heap.size + 1 + 1, 0, none⟩ (.bool false)).setCell ⟨w.heap.size + 1 + 1, 1, none⟩ (.slice none 0 0)).setCell ⟨w.heap.size + 1 + 1 + 1, 0, none⟩ (.bool false)).setCell ⟨w.heap.size + 1 + 1 + 1, 1, none⟩ (.slice none 0 0) := ⟨_, rfl⟩
  have g2 : Row V (w.heap.size + 1 + 1) 24 [.bool false, .slice none 0 0] := by rw [hV]; exact (((q2.store_any 0 (.bool false)).store_any 1 (.slice none 0 0)).other (by simp) _).other (by simp) _
  have g3 : Row V (w.heap.size + 1 + 1 + 1) 24 [.bool false, .slice none 0 0] := by rw [hV]; exact (((q3.other (by simp) _).other (by simp) _).store_any 0 (.bool false)).store_any 1 (.slice none 0 0)
  have hfin : Below w.heap.size w V := by rw [hV]; exact below_store (below_store (below_store (below_store hB1 (by omega) _) (by omega) _) (by omega) _) (by omega) _
  have f0 := g2.cell_at 0
  have f1 := g2.cell_at 1
  have f2 := g3.cell_at 0
  have f3 := g3.cell_at 1
  simp only [List.getElem?_cons_zero, List.getElem?_cons_succ] at f0 f1 f2 f3
  have HV := Lib.hid hV; clear hV
  go_wp2
  (try simp only [Exit.inBlock, Exit.then])
  rw [← HV.out]
  refine bodyPost_ret (v := .tuple #[.agg #[.bool false, .slice none 0 0], .agg #[.bool false, .slice none 0 0], .int .i64 1]) (by simp [results, Tryz.results102, go_sem, f0, f1, f2, f3]) rfl ?_
  exact ⟨hfin, rfl⟩

set_option maxHeartbeats 800000 in
set_option maxRecDepth 100000 in
theorem divide_zero (w : World) (n1 n2 fl : Bool) (a1 a2 : Option Addr) (l1 l2 : List Nat) (m1 m2 c1 c2 : Nat) (hy1 : Lay .u32 w a1 l1) (hy2 : Lay .u32 w a2 l2) (hl1 : Lim l1) (hl2 : Lim l2) (hm1 : m1 = l1.length) (hm2 : m2 = l2.length) (hb1 : m1 ≤ 9223372036854775807) (hb2 : m2 ≤ 9223372036854775807) (hok : (mayB n1 l1 && mayB n2 l2) = true) (hz : l2.length = 0) :
    Calls Tryz.prog 102 #[.agg #[.bool n1, .slice a1 m1 c1], .agg #[.bool n2, .slice a2 m2 c2], .bool fl] w fun e w' => DivNone w w' e 90 := by
  obtain ⟨W, hWe, r0, r1, r2, r3, hW, hsz⟩ := rows4 w 24 (.bool n1) (.slice a1 m1 c1) (.bool n2) (.slice a2 m2 c2) (.bool false) (.slice none 0 0) (.bool false) (.slice none 0 0)
  have HWe := Lib.hid hWe; clear hWe
  have hmay := fun g h1 h2 h3 => large_may2 (W.alloc (.cells #[.bool n1, .slice a1 m1 c1, .bool n2, .slice a2 m2 c2] 24)) g n1 n2 a1 a2 l1 l2 m1 m2 c1 c2 h1 h2 h3 hl1 hl2 hm1 hm2 hb1 hb2
  have Hm1 := Lib.hid hm1; clear hm1
  have Hm2 := Lib.hid hm2; clear hm2
  have hmay' := hmay (w.heap.size + 1 + 1 + 1 + 1) (by rw [← hsz]; exact row2slice _ _ _) ((hy1.below hW).below ((Below.refl _ _).alloc (Nat.le_refl _) _)) ((hy2.below hW).below ((Below.refl _ _).alloc (Nat.le_refl _) _))
  rw [hok] at hmay'
  have HM := Lib.hid hmay'; clear hmay hmay'
  have hz1 : ((m2 : Int) == 0) = true := by rw [beq_iff_eq, Hm2.out, hz]; rfl
  clear hz
  go_enter Tryz.func102, Tryz.ntmps102
  go_wp2_with fail
  rw [← HWe.out]
  refine HM.out.mono ?_
  rintro e w1 ⟨rfl, hbw⟩
  have hbw' := below_over hbw
  have hB1 : Below w.heap.size w w1 := hW.trans (hbw'.mono hW.size)
  have q0 := r0.below hbw' r0.lt
  have q1 := r1.below hbw' r1.lt
  have q2 := r2.below hbw' r2.lt
  have q3 := r3.below hbw' r3.lt
  have hsz1 : w.heap.size + 4 ≤ w1.heap.size := by have := hbw'.size; omega
  have c10 := q1.cell_at 0
  have c11 := q1.cell_at 1
  simp only [List.getElem?_cons_zero, List.getElem?_cons_succ] at c10 c11
  have z0 := q2.cell_at 0
  have z1 := q2.cell_at 1
  have z2 := q3.cell_at 0
  have z3 := q3.cell_at 1
  have y0 := q2.free 0
  have y1 := q2.free 1
  have y2 := q3.free 0
  have y3 := q3.free 1
  simp only [List.getElem?_cons_zero, List.getElem?_cons_succ] at z0 z1 z2 z3
  obtain ⟨V, hV⟩ : ∃ V, V = (((w1.setCell ⟨w.heap.size + 1 + 1, 0, none⟩ (.bool false)).setCell ⟨w.heap.size + 1 + 1, 1, none⟩ (.slice none 0 0)).setCell ⟨w.heap.size + 1 + 1 + 1, 0, none⟩ (.bool false)).setCell ⟨w.heap.size + 1 + 1 + 1, 1, none⟩ (.slice none 0 0) := ⟨_, rfl⟩
  have g2 : Row V (w.heap.size + 1 + 1) 24 [.bool false, .slice none 0 0] := by rw [hV]; exact (((q2.store_any 0 (.bool false)).store_any 1 (.slice none 0 0)).other (by simp) _).other (by simp) _
  have g3 : Row V (w.heap.size + 1 + 1 + 1) 24 [.bool false, .slice none 0 0] := by rw [hV]; exact (((q3.other (by simp) _).other (by simp) _).store_any 0 (.bool false)).store_any 1 (.slice none 0 0)
  have hfin : Below w.heap.size w V := by rw [hV]; exact below_store (below_store (below_store (below_store hB1 (by omega) _) (by omega) _) (by omega) _) (by omega) _
  have f0 := g2.cell_at 0
  have f1 := g2.cell_at 1
  have f2 := g3.cell_at 0
  have f3 := g3.cell_at 1
  simp only [List.getElem?_cons_zero, List.getElem?_cons_succ] at f0 f1 f2 f3
  have HV := Lib.hid hV; clear hV
  go_wp2
  (try simp only [Exit.inBlock, Exit.then])
  rw [← HV.out]
  refine bodyPost_ret (v := .tuple #[.agg #[.bool false, .slice none 0 0], .agg #[.bool false, .slice none 0 0], .int .i64 90]) (by simp [results, Tryz.results102, go_sem, f0, f1, f2, f3]) rfl ?_
  exact ⟨hfin, rfl⟩

set_option maxHeartbeats 1600000 in
set_option maxRecDepth 100000 in
theorem divide_ok (w : World) (n1 n2 fl : Bool) (a1 a2 : Option Addr) (l1 l2 : List Nat) (m1 m2 c1 c2 : Nat) (hy1 : Lay .u32 w a1 l1) (hy2 : Lay .u32 w a2 l2) (hl1 : Lim l1) (hl2 : Lim l2) (hm1 : m1 = l1.length) (hm2 : m2 = l2.length) (hb1 : m1 ≤ 9223372036854775807) (hb2 : m2 ≤ 9223372036854775807) (hok : (mayB n1 l1 && mayB n2 l2) = true) (hz : signed n2 (val l2) ≠ 0) :
    Calls Tryz.prog 102 #[.agg #[.bool n1, .slice a1 m1 c1], .agg #[.bool n2, .slice a2 m2 c2], .bool fl] w fun e w' => DivRes w w' e (dquo fl (signed n1 (val l1)) (signed n2 (val l2))) (drem fl (signed n1 (val l1)) (signed n2 (val l2))) := by
  have hok' := hok
  simp only [Bool.and_eq_true] at hok'
  obtain ⟨x1, x2, x3⟩ := mayB_int hl1 hok'.1
  obtain ⟨y1, y2, y3⟩ := mayB_int hl2 hok'.2
  have s1 : (rep (signed n1 (val l1)).natAbs).length ≤ 1024 := by rw [← x1]; omega
  have s2 : (rep (signed n2 (val l2)).natAbs).length ≤ 1024 := by rw [← y1]; omega
  have hl0 : l2.length ≠ 0 := by intro e; apply hz; rw [List.eq_nil_of_length_eq_zero e]; unfold signed; simp [val]
  clear x1 x2 y1 y2 hok'
  obtain ⟨W, hWe, r0, r1, r2, r3, hW, hsz⟩ := rows4 w 24 (.bool n1) (.slice a1 m1 c1) (.bool n2) (.slice a2 m2 c2) (.bool false) (.slice none 0 0) (.bool false) (.slice none 0 0)
  have HWe := Lib.hid hWe; clear hWe
  have hmay := fun g h1 h2 h3 => large_may2 (W.alloc (.cells #[.bool n1, .slice a1 m1 c1, .bool n2, .slice a2 m2 c2] 24)) g n1 n2 a1 a2 l1 l2 m1 m2 c1 c2 h1 h2 h3 hl1 hl2 hm1 hm2 hb1 hb2
  have Hm1 := Lib.hid hm1; clear hm1
  have Hm2 := Lib.hid hm2; clear hm2
  have hmay' := hmay (w.heap.size + 1 + 1 + 1 + 1) (by rw [← hsz]; exact row2slice _ _ _) ((hy1.below hW).below ((Below.refl _ _).alloc (Nat.le_refl _) _)) ((hy2.below hW).below ((Below.refl _ _).alloc (Nat.le_refl _) _))
  rw [hok] at hmay'
  have HM := Lib.hid hmay'; clear hmay hmay'
  have hz1 : ((m2 : Int) == 0) = false := by rw [beq_eq_false_iff_ne, Hm2.out]; omega
  have ls1 : m1 ≤ 1024 := by rw [Hm1.out]; exact x3
  have ls2 : m2 ≤ 1024 := by rw [Hm2.out]; exact y3
  obtain ⟨z1, hz1'⟩ : ∃ z, z = signed n1 (val l1) := ⟨_, rfl⟩
  obtain ⟨z2, hz2'⟩ : ∃ z, z = signed n2 (val l2) := ⟨_, rfl⟩
  rw [← hz1'] at s1 ⊢
  rw [← hz2'] at s2 hz ⊢
  clear hl0 x3 y3 hok
  have t1 : (rep (dquo fl z1 z2).natAbs).length ≤ 1024 := Nat.le_trans (rep_mono (dquo_abs fl z1 hz)) s1
  have t2 : (rep (drem fl z1 z2).natAbs).length ≤ 1024 := Nat.le_trans (rep_mono (Nat.le_of_lt (drem_abs fl z1 hz))) s2
  have t3 : (rep (z1.tdiv z2).natAbs).length ≤ 68719476736 := Nat.le_trans (rep_mono (dquo_abs false z1 hz)) (Nat.le_trans s1 (by decide))
  have t4 : (rep (z1.tmod z2).natAbs).length ≤ 68719476736 := Nat.le_trans (rep_mono (Nat.le_of_lt (drem_abs false z1 hz))) (Nat.le_trans s2 (by decide))
  have t5 : (rep (1 : Int).natAbs).length ≤ 68719476736 := Nat.le_trans (rep_length_le.mpr (by decide : (1 : Int).natAbs < Limb.W 1)) (by decide : 1 ≤ 68719476736)
  have s3 : (rep z1.natAbs).length ≤ 68719476736 := Nat.le_trans s1 (by decide)
  have s4 : (rep z2.natAbs).length ≤ 68719476736 := Nat.le_trans s2 (by decide)
  go_enter Tryz.func102, Tryz.ntmps102
  go_wp2_with fail
  rw [← HWe.out]
  refine HM.out.mono ?_
  rintro e w1 ⟨rfl, hbw⟩
  have hbw' := below_over hbw
  have hB1 : Below w.heap.size w w1 := hW.trans (hbw'.mono hW.size)
  have q0 := r0.below hbw' r0.lt
  have q1 := r1.below hbw' r1.lt
  have q2 := r2.below hbw' r2.lt
  have q3 := r3.below hbw' r3.lt
  have hsz1 : w.heap.size + 4 ≤ w1.heap.size := by have := hbw'.size; omega
  have l1' := hy1.below hB1
  have l2' := hy2.below hB1
  have hw1 := fun X ls (h : At w1 X ls) => at_wide h n1 a1 l1 m1 c1 l1' hl1 Hm1.out (by omega)
  have hw2 := fun X ls (h : At w1 X ls) => at_wide h n2 a2 l2 m2 c2 l2' hl2 Hm2.out (by omega)
  rw [← hz1'] at hw1
  rw [← hz2'] at hw2
  have HW1 := Lib.hid hw1; clear hw1 hz1'
  have HW2 := Lib.hid hw2; clear hw2 hz2'
  have hk : ∀ X, Below w1.heap.size w1 X → X.cell? ⟨w.heap.size, 0, none⟩ = some (.bool n1) ∧ X.cell? ⟨w.heap.size, 1, none⟩ = some (.slice a1 m1 c1) ∧ X.cell? ⟨w.heap.size + 1, 0, none⟩ = some (.bool n2) ∧ X.cell? ⟨w.heap.size + 1, 1, none⟩ = some (.slice a2 m2 c2) ∧
      Row X (w.heap.size + 1 + 1) 24 [.bool false, .slice none 0 0] ∧ Row X (w.heap.size + 1 + 1 + 1) 24 [.bool false, .slice none 0 0] := by
    intro X hX
    have p0 := q0.below hX (by omega)
    have p1 := q1.below hX (by omega)
    exact ⟨p0.cell_at 0, p0.cell_at 1, p1.cell_at 0, p1.cell_at 1, q2.below hX (by omega), q3.below hX (by omega)⟩
  have HK := Lib.hid hk; clear hk
  have h := At.refl w1
  clear q0 q1 q2 q3 l1' l2' hbw' hbw
  obtain ⟨k0, k1, k2, k3, -, -⟩ := HK.out _ h.below
  go_wp2_with fail
  refine (HW2.out _ _ h).mono ?_
  rintro e w2 ⟨pd, rfl, h2⟩
  clear h k0 k1 k2 k3
  obtain ⟨k0, k1, k2, k3, -, -⟩ := HK.out _ h2.below
  have h3 := h2.new
  obtain ⟨j0, j1, -, -, -, -⟩ := HK.out _ h3.below
  go_wp2_with fail
  refine (HW1.out _ _ h3).mono ?_
  rintro e w3 ⟨pa, rfl, h4⟩
  have h5 := h4.new
  clear h2 h3 k0 k1 k2 k3 j0 j1
  obtain ⟨pq, hpq⟩ : ∃ pq, pq = w2.heap.size := ⟨_, rfl⟩
  obtain ⟨pr, hpr⟩ : ∃ pr, pr = w3.heap.size := ⟨_, rfl⟩
  rw [← hpq] at h4 h5 ⊢
  rw [← hpr] at h5
  have Hpr := Lib.hid hpr; clear hpr hpq
  go_wp2_with fail
  rw [← Hpr.out]
  have HQR := Lib.hid (at_quorem h5 (p := pq) (q := pa) (r := pd) (s := pr) (by (first | exact .head _ | exact .tail _ (.head _) | exact .tail _ (.tail _ (.head _)) | exact .tail _ (.tail _ (.tail _ (.head _))) | exact .tail _ (.tail _ (.tail _ (.tail _ (.head _)))))) (by (first | exact .head _ | exact .tail _ (.head _) | exact .tail _ (.tail _ (.head _)) | exact .tail _ (.tail _ (.tail _ (.head _))) | exact .tail _ (.tail _ (.tail _ (.tail _ (.head _)))))) (by (first | exact .head _ | exact .tail _ (.head _) | exact .tail _ (.tail _ (.head _)) | exact .tail _ (.tail _ (.tail _ (.head _))) | exact .tail _ (.tail _ (.tail _ (.tail _ (.head _)))))) (by (first | exact .head _ | exact .tail _ (.head _) | exact .tail _ (.tail _ (.head _)) | exact .tail _ (.tail _ (.tail _ (.head _))) | exact .tail _ (.tail _ (.tail _ (.tail _ (.head _)))))) (by intro hnd; simp at hnd; omega) hz s3 s4)
  refine HQR.out.mono ?_
  rintro e w4 ⟨rfl, h6⟩
  clear HQR h4
  have hnd := h5.nd
  simp at hnd
  have mq := mem_upd_ne (z1.tmod z2) (mem_upd (z1.tdiv z2) (show (pq, (0 : Int)) ∈ [(pr, (0 : Int)), (pa, z1), (pq, 0), (pd, z2)] by (first | exact .head _ | exact .tail _ (.head _) | exact .tail _ (.tail _ (.head _)) | exact .tail _ (.tail _ (.tail _ (.head _))) | exact .tail _ (.tail _ (.tail _ (.tail _ (.head _))))))) (q := pq) (p := pr) (by omega)
  have mr := mem_upd (z1.tmod z2) (mem_upd_ne (z1.tdiv z2) (show (pr, (0 : Int)) ∈ [(pr, (0 : Int)), (pa, z1), (pq, 0), (pd, z2)] by (first | exact .head _ | exact .tail _ (.head _) | exact .tail _ (.tail _ (.head _)) | exact .tail _ (.tail _ (.tail _ (.head _))) | exact .tail _ (.tail _ (.tail _ (.tail _ (.head _)))))) (q := pr) (p := pq) (by omega))
  have md := mem_upd_ne (z1.tmod z2) (mem_upd_ne (z1.tdiv z2) (show (pd, z2) ∈ [(pr, (0 : Int)), (pa, z1), (pq, 0), (pd, z2)] by (first | exact .head _ | exact .tail _ (.head _) | exact .tail _ (.tail _ (.head _)) | exact .tail _ (.tail _ (.tail _ (.head _))) | exact .tail _ (.tail _ (.tail _ (.tail _ (.head _)))))) (q := pd) (p := pq) (by omega)) (q := pd) (p := pr) (by omega)
  have h := h6
  obtain ⟨L, hL⟩ : ∃ L, L = upd (upd [(pr, (0 : Int)), (pa, z1), (pq, 0), (pd, z2)] pq (z1.tdiv z2)) pr (z1.tmod z2) := ⟨_, rfl⟩
  rw [← hL] at h mq mr md
  have hneq : pr ≠ pq ∧ pd ≠ pq ∧ True := ⟨by omega, by omega, trivial⟩
  clear hL h6 h5 hnd
  cases fl with
  | false =>
    rw [show z1.tdiv z2 = dquo false z1 z2 from rfl] at mq
    rw [show z1.tmod z2 = drem false z1 z2 from rfl] at mr
    go_wp2_with fail
    refine (at_narrow_ok2 h mq t1).mono ?_
    rintro e w5 ⟨⟨aq, cq, rfl, hcq, hlq⟩, h7, -⟩
    have h8 := h7.alloc' (.cells #[.bool (decide (dquo false z1 z2 < 0)), .slice aq (rep (dquo false z1 z2).natAbs).length cq] 24)
    go_wp2_with fail
    refine (at_narrow_ok2 h8 mr t2).mono ?_
    rintro e w6 ⟨⟨ar, cr, rfl, hcr, hlr⟩, h9, hb9⟩
    go_upto_region 14 with fail
    obtain ⟨qq, hqq⟩ : ∃ qq, qq = dquo false z1 z2 := ⟨_, rfl⟩
    obtain ⟨rr, hrr⟩ : ∃ rr, rr = drem false z1 z2 := ⟨_, rfl⟩
    obtain ⟨g2, hg2⟩ : ∃ g, g = w5.heap.size := ⟨_, rfl⟩
    obtain ⟨g3, hg3⟩ : ∃ g, g = w6.heap.size := ⟨_, rfl⟩
    obtain ⟨V, hV⟩ : ∃ V, V = w6.alloc (.cells #[.bool (decide (drem false z1 z2 < 0)), .slice ar (rep (drem false z1 z2).natAbs).length cr] 24) := ⟨_, rfl⟩
    have hV6 : Below w6.heap.size w6 V := by rw [hV]; exact (Below.refl _ _).alloc (Nat.le_refl _) _
    have R2 : Row V g2 24 [.bool (decide (dquo false z1 z2 < 0)), .slice aq (rep (dquo false z1 z2).natAbs).length cq] := by
      have := row2slice w5 24 #[.bool (decide (dquo false z1 z2 < 0)), .slice aq (rep (dquo false z1 z2).natAbs).length cq]
      rw [hg2]; exact (this.below hb9 this.lt).below hV6 (this.below hb9 this.lt).lt
    have R3 : Row V g3 24 [.bool (decide (drem false z1 z2 < 0)), .slice ar (rep (drem false z1 z2).natAbs).length cr] := by rw [hV, hg3]; exact row2slice _ _ _
    have hBV : Below w.heap.size w V := hB1.trans ((h9.below.trans (hV6.mono h9.below.size)).mono hB1.size)
    have hlqV : Lay .u32 V aq (rep (dquo false z1 z2).natAbs) := ((hlq.below ((Below.refl _ _).alloc (Nat.le_refl _) _)).below hb9).below hV6
    have hlrV : Lay .u32 V ar (rep (drem false z1 z2).natAbs) := hlr.below hV6
    obtain ⟨-, -, -, -, ra, rb⟩ := HK.out _ (h9.below.trans (hV6.mono h9.below.size))
    have hsz7 := h7.below.size
    have hsz9 := h9.below.size
    have u1 : g2 ≠ w.heap.size + 1 + 1 := by omega
    have u2 : g2 ≠ w.heap.size + 1 + 1 + 1 := by omega
    have u3 : g3 ≠ w.heap.size + 1 + 1 := by omega
    have u4 : g3 ≠ w.heap.size + 1 + 1 + 1 := by omega
    clear hsz7 hsz9
    rw [← hV, ← hg2, ← hg3]
    rw [← hqq] at R2 hlqV hcq ⊢
    rw [← hrr] at R3 hlrV hcr ⊢
    clear hg2 hg3 hV hV6 h9 h8 h7 hb9 h mq mr HW1 HW2 HK hlq hlr
    have HQ := Lib.hid hqq; clear hqq
    have HR := Lib.hid hrr; clear hrr
    have a0 := R2.cell_at 0
    have a1' := R2.cell_at 1
    have b0 := R3.cell_at 0
    have b1' := R3.cell_at 1
    have d0 := ra.cell_at 0
    have d1 := ra.cell_at 1
    have e0 := rb.cell_at 0
    have e1 := rb.cell_at 1
    have d2 := ra.free 0
    have d3 := ra.free 1
    have e2 := rb.free 0
    have e3 := rb.free 1
    simp only [List.getElem?_cons_zero, List.getElem?_cons_succ] at a0 a1' b0 b1' d0 d1 e0 e1
    have v1 := u1.symm
    have v2 := u2.symm
    have v3 := u3.symm
    have v4 := u4.symm
    have HU : ∃ U, U = (((V.setCell ⟨w.heap.size + 1 + 1, 0, none⟩ (.bool (decide (qq < 0)))).setCell ⟨w.heap.size + 1 + 1, 1, none⟩ (.slice aq (rep qq.natAbs).length cq)).setCell ⟨w.heap.size + 1 + 1 + 1, 0, none⟩ (.bool (decide (rr < 0)))).setCell ⟨w.heap.size + 1 + 1 + 1, 1, none⟩ (.slice ar (rep rr.natAbs).length cr) := ⟨_, rfl⟩
    obtain ⟨U, hU⟩ := HU
    have ga : Row U (w.heap.size + 1 + 1) 24 [.bool (decide (qq < 0)), .slice aq (rep qq.natAbs).length cq] := by rw [hU]; exact (((ra.store_any 0 (.bool (decide (qq < 0)))).store_any 1 (.slice aq (rep qq.natAbs).length cq)).other (by simp) _).other (by simp) _
    have hrb' : Row ((V.setCell ⟨w.heap.size + 1 + 1, 0, none⟩ (.bool (decide (qq < 0)))).setCell ⟨w.heap.size + 1 + 1, 1, none⟩ (.slice aq (rep qq.natAbs).length cq)) (w.heap.size + 1 + 1 + 1) 24 [.bool false, .slice none 0 0] := (rb.other (by simp) _).other (by simp) _
    have gb : Row U (w.heap.size + 1 + 1 + 1) 24 [.bool (decide (rr < 0)), .slice ar (rep rr.natAbs).length cr] := by rw [hU]; exact (hrb'.store_any 0 _).store_any 1 _
    have hfin : Below w.heap.size w U := by rw [hU]; exact below_store (below_store (below_store (below_store hBV (by omega) _) (by omega) _) (by omega) _) (by omega) _
    have hqU : Lay .u32 U aq (rep qq.natAbs) := by rw [hU]; exact (hlqV.pair ra _ _).pair hrb' _ _
    have hrU : Lay .u32 U ar (rep rr.natAbs) := by rw [hU]; exact (hlrV.pair ra _ _).pair hrb' _ _
    have f0 := ga.cell_at 0
    have f1 := ga.cell_at 1
    have f2 := gb.cell_at 0
    have f3 := gb.cell_at 1
    simp only [List.getElem?_cons_zero, List.getElem?_cons_succ] at f0 f1 f2 f3
    have HV := Lib.hid hU; clear hU hrb'
    go_region
    go_wp2
    (try simp only [Exit.inBlock, Exit.then])
    rw [← HV.out]
    refine bodyPost_ret (v := .tuple #[.agg #[.bool (decide (qq < 0)), .slice aq (rep qq.natAbs).length cq], .agg #[.bool (decide (rr < 0)), .slice ar (rep rr.natAbs).length cr], .int .i64 0]) (by simp [results, Tryz.results102, go_sem, f0, f1, f2, f3]) rfl ?_
    rw [← HQ.out, ← HR.out]
    exact ⟨by first | exact hfin | exact hfin.drew | exact hfin.drew.drew | exact hfin.drew.drew.drew | exact hfin.drew.drew.drew.drew, aq, cq, ar, cr, rfl, hcq, hcr, hqU, hrU⟩

  | true =>
    by_cases hs0 : sgnI (z1.tmod z2) = 0
    · have hfx := (floor_fix hz (x := z1)).2 (.inl hs0)
      rw [show z1.tdiv z2 = dquo true z1 z2 from hfx.1.symm] at mq
      have mr' := mr
      rw [show z1.tmod z2 = drem true z1 z2 from hfx.2.symm] at mr
      have b1 : (sgnI (z1.tmod z2) != 0) = false := by rw [bne_eq_false_iff_eq]; exact hs0
      clear hfx hs0
      go_wp2_with fail
      refine (at_sign h mr').mono ?_
      rintro e w' ⟨rfl, rfl⟩
      go_wp2_with fail
      refine (at_narrow_ok2 h mq t1).mono ?_
      rintro e w5 ⟨⟨aq, cq, rfl, hcq, hlq⟩, h7, -⟩
      have h8 := h7.alloc' (.cells #[.bool (decide (dquo true z1 z2 < 0)), .slice aq (rep (dquo true z1 z2).natAbs).length cq] 24)
      go_wp2_with fail
      refine (at_narrow_ok2 h8 mr t2).mono ?_
      rintro e w6 ⟨⟨ar, cr, rfl, hcr, hlr⟩, h9, hb9⟩
      go_upto_region 14 with fail
      obtain ⟨qq, hqq⟩ : ∃ qq, qq = dquo true z1 z2 := ⟨_, rfl⟩
      obtain ⟨rr, hrr⟩ : ∃ rr, rr = drem true z1 z2 := ⟨_, rfl⟩
      obtain ⟨g2, hg2⟩ : ∃ g, g = w5.heap.size := ⟨_, rfl⟩
      obtain ⟨g3, hg3⟩ : ∃ g, g = w6.heap.size := ⟨_, rfl⟩
      obtain ⟨V, hV⟩ : ∃ V, V = w6.alloc (.cells #[.bool (decide (drem true z1 z2 < 0)), .slice ar (rep (drem true z1 z2).natAbs).length cr] 24) := ⟨_, rfl⟩
      have hV6 : Below w6.heap.size w6 V := by rw [hV]; exact (Below.refl _ _).alloc (Nat.le_refl _) _
      have R2 : Row V g2 24 [.bool (decide (dquo true z1 z2 < 0)), .slice aq (rep (dquo true z1 z2).natAbs).length cq] := by
        have := row2slice w5 24 #[.bool (decide (dquo true z1 z2 < 0)), .slice aq (rep (dquo true z1 z2).natAbs).length cq]
        rw [hg2]; exact (this.below hb9 this.lt).below hV6 (this.below hb9 this.lt).lt
      have R3 : Row V g3 24 [.bool (decide (drem true z1 z2 < 0)), .slice ar (rep (drem true z1 z2).natAbs).length cr] := by rw [hV, hg3]; exact row2slice _ _ _
      have hBV : Below w.heap.size w V := hB1.trans ((h9.below.trans (hV6.mono h9.below.size)).mono hB1.size)
      have hlqV : Lay .u32 V aq (rep (dquo true z1 z2).natAbs) := ((hlq.below ((Below.refl _ _).alloc (Nat.le_refl _) _)).below hb9).below hV6
      have hlrV : Lay .u32 V ar (rep (drem true z1 z2).natAbs) := hlr.below hV6
      obtain ⟨-, -, -, -, ra, rb⟩ := HK.out _ (h9.below.trans (hV6.mono h9.below.size))
      have hsz7 := h7.below.size
      have hsz9 := h9.below.size
      have u1 : g2 ≠ w.heap.size + 1 + 1 := by omega
      have u2 : g2 ≠ w.heap.size + 1 + 1 + 1 := by omega
      have u3 : g3 ≠ w.heap.size + 1 + 1 := by omega
      have u4 : g3 ≠ w.heap.size + 1 + 1 + 1 := by omega
      clear hsz7 hsz9
      rw [← hV, ← hg2, ← hg3]
      rw [← hqq] at R2 hlqV hcq ⊢
      rw [← hrr] at R3 hlrV hcr ⊢
      clear hg2 hg3 hV hV6 h9 h8 h7 hb9 h mq mr HW1 HW2 HK hlq hlr
      have HQ := Lib.hid hqq; clear hqq
      have HR := Lib.hid hrr; clear hrr
      have a0 := R2.cell_at 0
      have a1' := R2.cell_at 1
      have b0 := R3.cell_at 0
      have b1' := R3.cell_at 1
      have d0 := ra.cell_at 0
      have d1 := ra.cell_at 1
      have e0 := rb.cell_at 0
      have e1 := rb.cell_at 1
      have d2 := ra.free 0
      have d3 := ra.free 1
      have e2 := rb.free 0
      have e3 := rb.free 1
      simp only [List.getElem?_cons_zero, List.getElem?_cons_succ] at a0 a1' b0 b1' d0 d1 e0 e1
      have v1 := u1.symm
      have v2 := u2.symm
      have v3 := u3.symm
      have v4 := u4.symm
      have HU : ∃ U, U = (((V.setCell ⟨w.heap.size + 1 + 1, 0, none⟩ (.bool (decide (qq < 0)))).setCell ⟨w.heap.size + 1 + 1, 1, none⟩ (.slice aq (rep qq.natAbs).length cq)).setCell ⟨w.heap.size + 1 + 1 + 1, 0, none⟩ (.bool (decide (rr < 0)))).setCell ⟨w.heap.size + 1 + 1 + 1, 1, none⟩ (.slice ar (rep rr.natAbs).length cr) := ⟨_, rfl⟩
      obtain ⟨U, hU⟩ := HU
      have ga : Row U (w.heap.size + 1 + 1) 24 [.bool (decide (qq < 0)), .slice aq (rep qq.natAbs).length cq] := by rw [hU]; exact (((ra.store_any 0 (.bool (decide (qq < 0)))).store_any 1 (.slice aq (rep qq.natAbs).length cq)).other (by simp) _).other (by simp) _
      have hrb' : Row ((V.setCell ⟨w.heap.size + 1 + 1, 0, none⟩ (.bool (decide (qq < 0)))).setCell ⟨w.heap.size + 1 + 1, 1, none⟩ (.slice aq (rep qq.natAbs).length cq)) (w.heap.size + 1 + 1 + 1) 24 [.bool false, .slice none 0 0] := (rb.other (by simp) _).other (by simp) _
      have gb : Row U (w.heap.size + 1 + 1 + 1) 24 [.bool (decide (rr < 0)), .slice ar (rep rr.natAbs).length cr] := by rw [hU]; exact (hrb'.store_any 0 _).store_any 1 _
      have hfin : Below w.heap.size w U := by rw [hU]; exact below_store (below_store (below_store (below_store hBV (by omega) _) (by omega) _) (by omega) _) (by omega) _
      have hqU : Lay .u32 U aq (rep qq.natAbs) := by rw [hU]; exact (hlqV.pair ra _ _).pair hrb' _ _
      have hrU : Lay .u32 U ar (rep rr.natAbs) := by rw [hU]; exact (hlrV.pair ra _ _).pair hrb' _ _
      have f0 := ga.cell_at 0
      have f1 := ga.cell_at 1
      have f2 := gb.cell_at 0
      have f3 := gb.cell_at 1
      simp only [List.getElem?_cons_zero, List.getElem?_cons_succ] at f0 f1 f2 f3
      have HV := Lib.hid hU; clear hU hrb'
      go_region
      go_wp2
      (try simp only [Exit.inBlock, Exit.then])
      rw [← HV.out]
      refine bodyPost_ret (v := .tuple #[.agg #[.bool (decide (qq < 0)), .slice aq (rep qq.natAbs).length cq], .agg #[.bool (decide (rr < 0)), .slice ar (rep rr.natAbs).length cr], .int .i64 0]) (by simp [results, Tryz.results102, go_sem, f0, f1, f2, f3]) rfl ?_
      rw [← HQ.out, ← HR.out]
      exact ⟨by first | exact hfin | exact hfin.drew | exact hfin.drew.drew | exact hfin.drew.drew.drew | exact hfin.drew.drew.drew.drew, aq, cq, ar, cr, rfl, hcq, hcr, hqU, hrU⟩

    · have b1 : (sgnI (z1.tmod z2) != 0) = true := by rw [bne_iff_ne]; exact hs0
      by_cases hs1 : sgnI (z1.tmod z2) = sgnI z2
      · have hfx := (floor_fix hz (x := z1)).2 (.inr hs1)
        rw [show z1.tdiv z2 = dquo true z1 z2 from hfx.1.symm] at mq
        have mr' := mr
        rw [show z1.tmod z2 = drem true z1 z2 from hfx.2.symm] at mr
        have b2 : (sgnI (z1.tmod z2) != sgnI z2) = false := by rw [bne_eq_false_iff_eq]; exact hs1
        clear hfx hs0 hs1
        go_wp2_with fail
        refine (at_sign h mr').mono ?_
        rintro e w' ⟨rfl, rfl⟩
        go_wp2_with fail
        refine (at_sign h mr').mono ?_
        rintro e w' ⟨rfl, rfl⟩
        go_wp2_with fail
        refine (at_sign h md).mono ?_
        rintro e w' ⟨rfl, rfl⟩
        go_wp2_with fail
        refine (at_narrow_ok2 h mq t1).mono ?_
        rintro e w5 ⟨⟨aq, cq, rfl, hcq, hlq⟩, h7, -⟩
        have h8 := h7.alloc' (.cells #[.bool (decide (dquo true z1 z2 < 0)), .slice aq (rep (dquo true z1 z2).natAbs).length cq] 24)
        go_wp2_with fail
        refine (at_narrow_ok2 h8 mr t2).mono ?_
        rintro e w6 ⟨⟨ar, cr, rfl, hcr, hlr⟩, h9, hb9⟩
        go_upto_region 14 with fail
        obtain ⟨qq, hqq⟩ : ∃ qq, qq = dquo true z1 z2 := ⟨_, rfl⟩
        obtain ⟨rr, hrr⟩ : ∃ rr, rr = drem true z1 z2 := ⟨_, rfl⟩
        obtain ⟨g2, hg2⟩ : ∃ g, g = w5.heap.size := ⟨_, rfl⟩
        obtain ⟨g3, hg3⟩ : ∃ g, g = w6.heap.size := ⟨_, rfl⟩
        obtain ⟨V, hV⟩ : ∃ V, V = w6.alloc (.cells #[.bool (decide (drem true z1 z2 < 0)), .slice ar (rep (drem true z1 z2).natAbs).length cr] 24) := ⟨_, rfl⟩
        have hV6 : Below w6.heap.size w6 V := by rw [hV]; exact (Below.refl _ _).alloc (Nat.le_refl _) _
        have R2 : Row V g2 24 [.bool (decide (dquo true z1 z2 < 0)), .slice aq (rep (dquo true z1 z2).natAbs).length cq] := by
          have := row2slice w5 24 #[.bool (decide (dquo true z1 z2 < 0)), .slice aq (rep (dquo true z1 z2).natAbs).length cq]
          rw [hg2]; exact (this.below hb9 this.lt).below hV6 (this.below hb9 this.lt).lt
        have R3 : Row V g3 24 [.bool (decide (drem true z1 z2 < 0)), .slice ar (rep (drem true z1 z2).natAbs).length cr] := by rw [hV, hg3]; exact row2slice _ _ _
        have hBV : Below w.heap.size w V := hB1.trans ((h9.below.trans (hV6.mono h9.below.size)).mono hB1.size)
        have hlqV : Lay .u32 V aq (rep (dquo true z1 z2).natAbs) := ((hlq.below ((Below.refl _ _).alloc (Nat.le_refl _) _)).below hb9).below hV6
        have hlrV : Lay .u32 V ar (rep (drem true z1 z2).natAbs) := hlr.below hV6
        obtain ⟨-, -, -, -, ra, rb⟩ := HK.out _ (h9.below.trans (hV6.mono h9.below.size))
        have hsz7 := h7.below.size
        have hsz9 := h9.below.size
        have u1 : g2 ≠ w.heap.size + 1 + 1 := by omega
        have u2 : g2 ≠ w.heap.size + 1 + 1 + 1 := by omega
        have u3 : g3 ≠ w.heap.size + 1 + 1 := by omega
        have u4 : g3 ≠ w.heap.size + 1 + 1 + 1 := by omega
        clear hsz7 hsz9
        rw [← hV, ← hg2, ← hg3]
        rw [← hqq] at R2 hlqV hcq ⊢
        rw [← hrr] at R3 hlrV hcr ⊢
        clear hg2 hg3 hV hV6 h9 h8 h7 hb9 h mq mr HW1 HW2 HK hlq hlr
        have HQ := Lib.hid hqq; clear hqq
        have HR := Lib.hid hrr; clear hrr
        have a0 := R2.cell_at 0
        have a1' := R2.cell_at 1
        have b0 := R3.cell_at 0
        have b1' := R3.cell_at 1
        have d0 := ra.cell_at 0
        have d1 := ra.cell_at 1
        have e0 := rb.cell_at 0
        have e1 := rb.cell_at 1
        have d2 := ra.free 0
        have d3 := ra.free 1
        have e2 := rb.free 0
        have e3 := rb.free 1
        simp only [List.getElem?_cons_zero, List.getElem?_cons_succ] at a0 a1' b0 b1' d0 d1 e0 e1
        have v1 := u1.symm
        have v2 := u2.symm
        have v3 := u3.symm
        have v4 := u4.symm
        have HU : ∃ U, U = (((V.setCell ⟨w.heap.size + 1 + 1, 0, none⟩ (.bool (decide (qq < 0)))).setCell ⟨w.heap.size + 1 + 1, 1, none⟩ (.slice aq (rep qq.natAbs).length cq)).setCell ⟨w.heap.size + 1 + 1 + 1, 0, none⟩ (.bool (decide (rr < 0)))).setCell ⟨w.heap.size + 1 + 1 + 1, 1, none⟩ (.slice ar (rep rr.natAbs).length cr) := ⟨_, rfl⟩
        obtain ⟨U, hU⟩ := HU
        have ga : Row U (w.heap.size + 1 + 1) 24 [.bool (decide (qq < 0)), .slice aq (rep qq.natAbs).length cq] := by rw [hU]; exact (((ra.store_any 0 (.bool (decide (qq < 0)))).store_any 1 (.slice aq (rep qq.natAbs).length cq)).other (by simp) _).other (by simp) _
        have hrb' : Row ((V.setCell ⟨w.heap.size + 1 + 1, 0, none⟩ (.bool (decide (qq < 0)))).setCell ⟨w.heap.size + 1 + 1, 1, none⟩ (.slice aq (rep qq.natAbs).length cq)) (w.heap.size + 1 + 1 + 1) 24 [.bool false, .slice none 0 0] := (rb.other (by simp) _).other (by simp) _
        have gb : Row U (w.heap.size + 1 + 1 + 1) 24 [.bool (decide (rr < 0)), .slice ar (rep rr.natAbs).length cr] := by rw [hU]; exact (hrb'.store_any 0 _).store_any 1 _
        have hfin : Below w.heap.size w U := by rw [hU]; exact below_store (below_store (below_store (below_store hBV (by omega) _) (by omega) _) (by omega) _) (by omega) _
        have hqU : Lay .u32 U aq (rep qq.natAbs) := by rw [hU]; exact (hlqV.pair ra _ _).pair hrb' _ _
        have hrU : Lay .u32 U ar (rep rr.natAbs) := by rw [hU]; exact (hlrV.pair ra _ _).pair hrb' _ _
        have f0 := ga.cell_at 0
        have f1 := ga.cell_at 1
        have f2 := gb.cell_at 0
        have f3 := gb.cell_at 1
        simp only [List.getElem?_cons_zero, List.getElem?_cons_succ] at f0 f1 f2 f3
        have HV := Lib.hid hU; clear hU hrb'
        go_region
        go_wp2
        (try simp only [Exit.inBlock, Exit.then])
        rw [← HV.out]
        refine bodyPost_ret (v := .tuple #[.agg #[.bool (decide (qq < 0)), .slice aq (rep qq.natAbs).length cq], .agg #[.bool (decide (rr < 0)), .slice ar (rep rr.natAbs).length cr], .int .i64 0]) (by simp [results, Tryz.results102, go_sem, f0, f1, f2, f3]) rfl ?_
        rw [← HQ.out, ← HR.out]
        exact ⟨by first | exact hfin | exact hfin.drew | exact hfin.drew.drew | exact hfin.drew.drew.drew | exact hfin.drew.drew.drew.drew, aq, cq, ar, cr, rfl, hcq, hcr, hqU, hrU⟩

      · have hfx := (floor_fix hz (x := z1)).1 hs0 hs1
        have b2 : (sgnI (z1.tmod z2) != sgnI z2) = true := by rw [bne_iff_ne]; exact hs1
        clear hs0 hs1
        go_wp2_with fail
        refine (at_sign h mr).mono ?_
        rintro e w' ⟨rfl, rfl⟩
        go_wp2_with fail
        refine (at_sign h mr).mono ?_
        rintro e w' ⟨rfl, rfl⟩
        go_wp2_with fail
        refine (at_sign h md).mono ?_
        rintro e w' ⟨rfl, rfl⟩
        go_wp2_with fail
        refine (at_newint h 1 (by decide) (by decide)).mono ?_
        rintro e w5 ⟨po, rfl, h7⟩
        have hne := hneq
        have n1' : po ∉ L.map Prod.fst := by have := h7.nd; rw [List.map_cons, List.nodup_cons] at this; exact this.1
        have mq1 := List.Mem.tail (po, (1 : Int)) mq
        have mr1 := List.Mem.tail (po, (1 : Int)) mr
        have md1 := List.Mem.tail (po, (1 : Int)) md
        go_wp2_with fail
        refine (at_sub h7 mq1 mq1 (List.Mem.head _) t3 t5).mono ?_
        rintro e w6 ⟨rfl, h8⟩
        have mq2 := mem_upd (z1.tdiv z2 - 1) mq1
        have mr2 := mem_upd_ne (z1.tdiv z2 - 1) mr1 hne.1
        have md2 := mem_upd_ne (z1.tdiv z2 - 1) md1 hne.2.1
        go_wp2_with fail
        refine (at_add h8 mr2 mr2 md2 t4 s4).mono ?_
        rintro e w7 ⟨rfl, h9⟩
        have mq3 := mem_upd_ne (z1.tmod z2 + z2) mq2 (Ne.symm hne.1)
        have mr3 := mem_upd (z1.tmod z2 + z2) mr2
        rw [show z1.tdiv z2 - 1 = dquo true z1 z2 from hfx.1.symm, show z1.tmod z2 + z2 = drem true z1 z2 from hfx.2.symm] at mq3 mr3 h9
        clear h mq mr md mq1 mr1 md1 mq2 mr2 md2 h8 h7 hfx hne n1'
        obtain ⟨L2, hL2⟩ : ∃ L2, L2 = upd (upd ((po, (1 : Int)) :: L) pq (dquo true z1 z2)) pr (drem true z1 z2) := ⟨_, rfl⟩
        rw [← hL2] at h9 mq3 mr3
        clear hL2
        have h := h9; have mq := mq3; have mr := mr3
        clear h9 mq3 mr3
        go_wp2_with fail
        refine (at_narrow_ok2 h mq t1).mono ?_
        rintro e w5 ⟨⟨aq, cq, rfl, hcq, hlq⟩, h7, -⟩
        have h8 := h7.alloc' (.cells #[.bool (decide (dquo true z1 z2 < 0)), .slice aq (rep (dquo true z1 z2).natAbs).length cq] 24)
        go_wp2_with fail
        refine (at_narrow_ok2 h8 mr t2).mono ?_
        rintro e w6 ⟨⟨ar, cr, rfl, hcr, hlr⟩, h9, hb9⟩
        go_upto_region 14 with fail
        obtain ⟨qq, hqq⟩ : ∃ qq, qq = dquo true z1 z2 := ⟨_, rfl⟩
        obtain ⟨rr, hrr⟩ : ∃ rr, rr = drem true z1 z2 := ⟨_, rfl⟩
        obtain ⟨g2, hg2⟩ : ∃ g, g = w5.heap.size := ⟨_, rfl⟩
        obtain ⟨g3, hg3⟩ : ∃ g, g = w6.heap.size := ⟨_, rfl⟩
        obtain ⟨V, hV⟩ : ∃ V, V = w6.alloc (.cells #[.bool (decide (drem true z1 z2 < 0)), .slice ar (rep (drem true z1 z2).natAbs).length cr] 24) := ⟨_, rfl⟩
        have hV6 : Below w6.heap.size w6 V := by rw [hV]; exact (Below.refl _ _).alloc (Nat.le_refl _) _
        have R2 : Row V g2 24 [.bool (decide (dquo true z1 z2 < 0)), .slice aq (rep (dquo true z1 z2).natAbs).length cq] := by
          have := row2slice w5 24 #[.bool (decide (dquo true z1 z2 < 0)), .slice aq (rep (dquo true z1 z2).natAbs).length cq]
          rw [hg2]; exact (this.below hb9 this.lt).below hV6 (this.below hb9 this.lt).lt
        have R3 : Row V g3 24 [.bool (decide (drem true z1 z2 < 0)), .slice ar (rep (drem true z1 z2).natAbs).length cr] := by rw [hV, hg3]; exact row2slice _ _ _
        have hBV : Below w.heap.size w V := hB1.trans ((h9.below.trans (hV6.mono h9.below.size)).mono hB1.size)
        have hlqV : Lay .u32 V aq (rep (dquo true z1 z2).natAbs) := ((hlq.below ((Below.refl _ _).alloc (Nat.le_refl _) _)).below hb9).below hV6
        have hlrV : Lay .u32 V ar (rep (drem true z1 z2).natAbs) := hlr.below hV6
        obtain ⟨-, -, -, -, ra, rb⟩ := HK.out _ (h9.below.trans (hV6.mono h9.below.size))
        have hsz7 := h7.below.size
        have hsz9 := h9.below.size
        have u1 : g2 ≠ w.heap.size + 1 + 1 := by omega
        have u2 : g2 ≠ w.heap.size + 1 + 1 + 1 := by omega
        have u3 : g3 ≠ w.heap.size + 1 + 1 := by omega
        have u4 : g3 ≠ w.heap.size + 1 + 1 + 1 := by omega
        clear hsz7 hsz9
        rw [← hV, ← hg2, ← hg3]
        rw [← hqq] at R2 hlqV hcq ⊢
        rw [← hrr] at R3 hlrV hcr ⊢
        clear hg2 hg3 hV hV6 h9 h8 h7 hb9 h mq mr HW1 HW2 HK hlq hlr
        have HQ := Lib.hid hqq; clear hqq
        have HR := Lib.hid hrr; clear hrr
        have a0 := R2.cell_at 0
        have a1' := R2.cell_at 1
        have b0 := R3.cell_at 0
        have b1' := R3.cell_at 1
        have d0 := ra.cell_at 0
        have d1 := ra.cell_at 1
        have e0 := rb.cell_at 0
        have e1 := rb.cell_at 1
        have d2 := ra.free 0
        have d3 := ra.free 1
        have e2 := rb.free 0
        have e3 := rb.free 1
        simp only [List.getElem?_cons_zero, List.getElem?_cons_succ] at a0 a1' b0 b1' d0 d1 e0 e1
        have v1 := u1.symm
        have v2 := u2.symm
        have v3 := u3.symm
        have v4 := u4.symm
        have HU : ∃ U, U = (((V.setCell ⟨w.heap.size + 1 + 1, 0, none⟩ (.bool (decide (qq < 0)))).setCell ⟨w.heap.size + 1 + 1, 1, none⟩ (.slice aq (rep qq.natAbs).length cq)).setCell ⟨w.heap.size + 1 + 1 + 1, 0, none⟩ (.bool (decide (rr < 0)))).setCell ⟨w.heap.size + 1 + 1 + 1, 1, none⟩ (.slice ar (rep rr.natAbs).length cr) := ⟨_, rfl⟩
        obtain ⟨U, hU⟩ := HU
        have ga : Row U (w.heap.size + 1 + 1) 24 [.bool (decide (qq < 0)), .slice aq (rep qq.natAbs).length cq] := by rw [hU]; exact (((ra.store_any 0 (.bool (decide (qq < 0)))).store_any 1 (.slice aq (rep qq.natAbs).length cq)).other (by simp) _).other (by simp) _
        have hrb' : Row ((V.setCell ⟨w.heap.size + 1 + 1, 0, none⟩ (.bool (decide (qq < 0)))).setCell ⟨w.heap.size + 1 + 1, 1, none⟩ (.slice aq (rep qq.natAbs).length cq)) (w.heap.size + 1 + 1 + 1) 24 [.bool false, .slice none 0 0] := (rb.other (by simp) _).other (by simp) _
        have gb : Row U (w.heap.size + 1 + 1 + 1) 24 [.bool (decide (rr < 0)), .slice ar (rep rr.natAbs).length cr] := by rw [hU]; exact (hrb'.store_any 0 _).store_any 1 _
        have hfin : Below w.heap.size w U := by rw [hU]; exact below_store (below_store (below_store (below_store hBV (by omega) _) (by omega) _) (by omega) _) (by omega) _
        have hqU : Lay .u32 U aq (rep qq.natAbs) := by rw [hU]; exact (hlqV.pair ra _ _).pair hrb' _ _
        have hrU : Lay .u32 U ar (rep rr.natAbs) := by rw [hU]; exact (hlrV.pair ra _ _).pair hrb' _ _
        have f0 := ga.cell_at 0
        have f1 := ga.cell_at 1
        have f2 := gb.cell_at 0
        have f3 := gb.cell_at 1
        simp only [List.getElem?_cons_zero, List.getElem?_cons_succ] at f0 f1 f2 f3
        have HV := Lib.hid hU; clear hU hrb'
        go_region
        go_wp2
        (try simp only [Exit.inBlock, Exit.then])
        rw [← HV.out]
        refine bodyPost_ret (v := .tuple #[.agg #[.bool (decide (qq < 0)), .slice aq (rep qq.natAbs).length cq], .agg #[.bool (decide (rr < 0)), .slice ar (rep rr.natAbs).length cr], .int .i64 0]) (by simp [results, Tryz.results102, go_sem, f0, f1, f2, f3]) rfl ?_
        rw [← HQ.out, ← HR.out]
        exact ⟨by first | exact hfin | exact hfin.drew | exact hfin.drew.drew | exact hfin.drew.drew.drew | exact hfin.drew.drew.drew.drew, aq, cq, ar, cr, rfl, hcq, hcr, hqU, hrU⟩


end Go.Proofs.YtbffpkmfhkphdaaGreatDoor
