/- The walk of large.Gcd. The walk of the reference's Quo. -/
import Derived.Test.YtbffpkmfhkphdaaGreatDoorGX37
import Derived.Test.YtbffpkmfhkphdaaGreatDoorLSqrtC
import Derived.Test.YtbffpkmfhkphdaaGreatDoorGX27
import Derived.Deep.DeepCutAuto
import Derived.Test.YtbffpkmfhkphdaaGreatDoorGX31
import Derived.Test.YtbffpkmfhkphdaaGreatDoorDivideC
set_option linter.unusedVariables false
set_option linter.unusedSimpArgs false
namespace Go.Proofs.YtbffpkmfhkphdaaGreatDoor
open Go Go.RowKit Limb

/-- A variable of type big.Int is made. -/
theorem wpOp_alloc_big {ops : Array Oper} {Q : Exit → Act → World → Prop} {i : Nat} {o : Oper} {K : Act → World → Prop} {a : Act} {w : World} (hi : ops[i]? = some o) (hg : o.guard = none) (ho : o.op = .alloc 117)
    (h : ∀ X' g, IntAt X' g 0 → Below w.heap.size w X' → w.heap.size ≤ g → g < X'.heap.size → K (a.put o.dst (.pointer (some ⟨g, 0, none⟩))) X') : wpOp Tryz.prog ops Q i K a w := by
  refine wpOp_plain hi hg ?_
  have hfin := h (w.alloc (.cells #[.bool false, .slice none 0 0] 117)) w.heap.size (IntAt.new w) ((Below.refl _ _).alloc (Nat.le_refl _) _) (Nat.le_refl _) (by rw [World.size_alloc]; omega)
  obtain ⟨dst, op, type, pos, after, guard⟩ := o
  simp only at ho hg
  subst ho hg
  unfold Oper.wp
  go_simp
  exact hfin
theorem at_gcd {w1 X : World} {l : List (Nat × Int)} {p q r : Nat} {v x y : Int} (h : At w1 X l) (hp : (p, v) ∈ l) (hq : (q, x) ∈ l) (hr : (r, y) ∈ l) (hne : (l.map Prod.fst).Nodup → q ≠ p ∧ r ≠ p) (lx : (rep x.natAbs).length ≤ 1048576) (ly : (rep y.natAbs).length ≤ 1048576) :
    Calls Tryz.prog 84 #[.pointer (some ⟨p, 0, none⟩), .pointer none, .pointer none, .pointer (some ⟨q, 0, none⟩), .pointer (some ⟨r, 0, none⟩)] X fun e X' => e = .returned (.pointer (some ⟨p, 0, none⟩)) ∧ At w1 X' (upd l p (Nat.gcd x.natAbs y.natAbs : Nat)) := by
  refine (int_gcd X p q r v x y (h.ints _ hp).1 (h.ints _ hq).1 (h.ints _ hr).1 (hne h.nd).1 (hne h.nd).2 lx ly).mono ?_
  rintro e X' ⟨rfl, h1, h2⟩
  exact ⟨rfl, h.set hp h2 h1⟩

set_option maxHeartbeats 6400000 in
set_option maxRecDepth 1000000 in
theorem gcd_no (w : World) (n1 n2 : Bool) (a1 a2 : Option Addr) (l1 l2 : List Nat) (m1 m2 c1 c2 : Nat) (hy1 : Lay .u32 w a1 l1) (hy2 : Lay .u32 w a2 l2) (hl1 : Lim l1) (hl2 : Lim l2) (hm1 : m1 = l1.length) (hm2 : m2 = l2.length) (hb1 : m1 ≤ 9223372036854775807) (hb2 : m2 ≤ 9223372036854775807) (hok : (mayB n1 l1 && mayB n2 l2) = false) :
    Calls Tryz.prog 19 #[.agg #[.bool n1, .slice a1 m1 c1], .agg #[.bool n2, .slice a2 m2 c2]] w fun e w' => e = errRange ∧ Below w.heap.size w w' := by
  obtain ⟨r0, r1, r2, hW, hsz⟩ := rows3 w 24 (.bool n1) (.slice a1 m1 c1) (.bool n2) (.slice a2 m2 c2) (.bool false) (.slice none 0 0)
  obtain ⟨W, hWe⟩ : ∃ W, W = ((w.alloc (.cells #[.bool n1, .slice a1 m1 c1] 24)).alloc (.cells #[.bool n2, .slice a2 m2 c2] 24)).alloc (.cells #[.bool false, .slice none 0 0] 24) := ⟨_, rfl⟩
  rw [← hWe] at r0 r1 r2 hW hsz
  have HWe := Lib.hid hWe; clear hWe
  have hmay := fun h1 h2 h3 => large_may2 (W.alloc (.cells #[.bool n1, .slice a1 m1 c1, .bool n2, .slice a2 m2 c2] 24)) (w.heap.size + 1 + 1 + 1) n1 n2 a1 a2 l1 l2 m1 m2 c1 c2 h1 h2 h3 hl1 hl2 hm1 hm2 hb1 hb2
  have hmay' := hmay (by rw [← hsz]; exact row2slice _ _ _) ((hy1.below hW).below ((Below.refl _ _).alloc (Nat.le_refl _) _)) ((hy2.below hW).below ((Below.refl _ _).alloc (Nat.le_refl _) _))
  rw [hok] at hmay'
  have HM := Lib.hid hmay'; clear hmay hmay'
  have q0 := r0.cell_at 0
  have q1 := r0.cell_at 1
  have q2 := r1.cell_at 0
  have q3 := r1.cell_at 1
  simp only [List.getElem?_cons_zero, List.getElem?_cons_succ] at q0 q1 q2 q3
  clear hy1 hy2 hl1 hl2 hm1 hm2 hb1 hb2
  go_enter Tryz.func19, Tryz.ntmps19
  go_wp2_with fail
  rw [← HWe.out]
  refine HM.out.mono ?_
  rintro e w1 ⟨rfl, hbw⟩
  have hbw' := below_over hbw
  have hB1 : Below w.heap.size w w1 := hW.trans (hbw'.mono hW.size)
  have hR := r2.below hbw' r2.lt
  have hsz1 := hbw'.size
  have k0 := hR.cell_at 0
  have k1 := hR.cell_at 1
  have k2 := hR.free 0
  have k3 := hR.free 1
  simp only [List.getElem?_cons_zero, List.getElem?_cons_succ] at k0 k1
  have e0 : (w1.setCell ⟨w.heap.size + 1 + 1, 0, none⟩ (.bool false)).cell? ⟨w.heap.size + 1 + 1, 0, none⟩ = some (.bool false) := (hR.store_any 0 _).cell_at 0
  have e1 : ((w1.setCell ⟨w.heap.size + 1 + 1, 0, none⟩ (.bool false)).setCell ⟨w.heap.size + 1 + 1, 1, none⟩ (.slice none 0 0)).cell? ⟨w.heap.size + 1 + 1, 1, none⟩ = some (.slice none 0 0) := ((hR.store_any 0 _).store_any 1 _).cell_at 1
  have HF := Lib.hid (below_store (below_store hB1 (g := w.heap.size + 1 + 1) (i := 0) (by omega) (.bool false)) (g := w.heap.size + 1 + 1) (i := 1) (by omega) (.slice none 0 0))
  clear hR r0 r1 r2 hbw hbw' q0 q1 q2 q3
  go_wp2
  (try simp only [Exit.inBlock, Exit.then])
  refine bodyPost_ret (v := .tuple #[.agg #[.bool false, .slice none 0 0], .int .i64 1]) (by simp [results, Tryz.results19, go_sem, e0, e1]) rfl ?_
  exact ⟨rfl, HF.out⟩

set_option maxHeartbeats 6400000 in
set_option maxRecDepth 1000000 in
theorem gcd_yes (w : World) (n1 n2 : Bool) (a1 a2 : Option Addr) (l1 l2 : List Nat) (m1 m2 c1 c2 : Nat) (hy1 : Lay .u32 w a1 l1) (hy2 : Lay .u32 w a2 l2) (hl1 : Lim l1) (hl2 : Lim l2) (hm1 : m1 = l1.length) (hm2 : m2 = l2.length) (hb1 : m1 ≤ 9223372036854775807) (hb2 : m2 ≤ 9223372036854775807) (hok : (mayB n1 l1 && mayB n2 l2) = true) :
    Calls Tryz.prog 19 #[.agg #[.bool n1, .slice a1 m1 c1], .agg #[.bool n2, .slice a2 m2 c2]] w fun e w' => Answer true w w' e (Nat.gcd (val l1) (val l2) : Nat) := by
  obtain ⟨r0, r1, r2, hW, hsz⟩ := rows3 w 24 (.bool n1) (.slice a1 m1 c1) (.bool n2) (.slice a2 m2 c2) (.bool false) (.slice none 0 0)
  obtain ⟨W, hWe⟩ : ∃ W, W = ((w.alloc (.cells #[.bool n1, .slice a1 m1 c1] 24)).alloc (.cells #[.bool n2, .slice a2 m2 c2] 24)).alloc (.cells #[.bool false, .slice none 0 0] 24) := ⟨_, rfl⟩
  rw [← hWe] at r0 r1 r2 hW hsz
  have HWe := Lib.hid hWe; clear hWe
  have hmay := fun h1 h2 h3 => large_may2 (W.alloc (.cells #[.bool n1, .slice a1 m1 c1, .bool n2, .slice a2 m2 c2] 24)) (w.heap.size + 1 + 1 + 1) n1 n2 a1 a2 l1 l2 m1 m2 c1 c2 h1 h2 h3 hl1 hl2 hm1 hm2 hb1 hb2
  have hmay' := hmay (by rw [← hsz]; exact row2slice _ _ _) ((hy1.below hW).below ((Below.refl _ _).alloc (Nat.le_refl _) _)) ((hy2.below hW).below ((Below.refl _ _).alloc (Nat.le_refl _) _))
  rw [hok] at hmay'
  have HM := Lib.hid hmay'; clear hmay hmay'
  have q0 := r0.cell_at 0
  have q1 := r0.cell_at 1
  have q2 := r1.cell_at 0
  have q3 := r1.cell_at 1
  simp only [List.getElem?_cons_zero, List.getElem?_cons_succ] at q0 q1 q2 q3
  rw [Bool.and_eq_true] at hok
  have t1 : m1 ≤ 1024 := by rw [hm1]; exact (mayB_int hl1 hok.1).2.2
  have t2 : m2 ≤ 1024 := by rw [hm2]; exact (mayB_int hl2 hok.2).2.2
  have L1 := Lib.hid (show (rep ((val l1 : Nat) : Int).natAbs).length ≤ 1048576 by rw [Int.natAbs_natCast]; exact Nat.le_trans (rep_val_le hl1) (by omega))
  have L2 := Lib.hid (show (rep ((val l2 : Nat) : Int).natAbs).length ≤ 1048576 by rw [Int.natAbs_natCast]; exact Nat.le_trans (rep_val_le hl2) (by omega))
  obtain ⟨z, hz⟩ : ∃ z : Int, z = (Nat.gcd (val l1) (val l2) : Nat) := ⟨_, rfl⟩
  have LZ := Lib.hid (show (rep z.natAbs).length ≤ 68719476736 by
    rw [hz, Int.natAbs_natCast]
    rcases Nat.eq_zero_or_pos (val l1) with h | h
    · rw [h, Nat.gcd_zero_left]; exact Nat.le_trans (rep_val_le hl2) (by omega)
    · exact Nat.le_trans (rep_mono (Nat.gcd_le_left _ h)) (Nat.le_trans (rep_val_le hl1) (by omega)))
  rw [← hz]
  have HZ := Lib.hid hz
  have M1 := Lib.hid hm1
  have M2 := Lib.hid hm2
  have L1m := Lib.hid hl1
  have L2m := Lib.hid hl2
  have M1b := Lib.hid (show m1 ≤ 68719476736 by omega)
  have M2b := Lib.hid (show m2 ≤ 68719476736 by omega)
  clear hz hok t1 t2 hb1 hb2 hm1 hm2 hl1 hl2
  go_enter Tryz.func19, Tryz.ntmps19
  go_wp2_with fail
  rw [← HWe.out]
  refine HM.out.mono ?_
  rintro e w1 ⟨rfl, hbw⟩
  have hbw' := below_over hbw
  have hB1 : Below w.heap.size w w1 := hW.trans (hbw'.mono hW.size)
  have hR := r2.below hbw' r2.lt
  have hsz1 := hbw'.size
  have s0 := r0.below hbw' r0.lt
  have s1 := r1.below hbw' r1.lt
  have f0 := s0.free 0
  have f1 := s1.free 0
  have z0 := s0.cell_at 0
  have z1 := s1.cell_at 0
  simp only [List.getElem?_cons_zero, List.getElem?_cons_succ] at z0 z1
  have t0 := (s0.store_any 0 (.bool false)).other (a := ⟨w.heap.size + 1, 0, none⟩) (by simp <;> omega) (.bool false)
  have t1 := (s1.other (a := ⟨w.heap.size, 0, none⟩) (by simp <;> omega) (.bool false)).store_any 0 (.bool false)
  have r2V := (hR.other (a := ⟨w.heap.size, 0, none⟩) (by simp <;> omega) (.bool false)).other (a := ⟨w.heap.size + 1, 0, none⟩) (by simp <;> omega) (.bool false)
  have hBV := below_store (below_store hB1 (g := w.heap.size) (i := 0) (by omega) (.bool false)) (g := w.heap.size + 1) (i := 0) (by omega) (.bool false)
  have z1' := (s1.other (a := ⟨w.heap.size, 0, none⟩) (by simp <;> omega) (.bool false)).cell_at 0
  have f1' := (s1.other (a := ⟨w.heap.size, 0, none⟩) (by simp <;> omega) (.bool false)).free 0
  simp only [List.getElem?_cons_zero, List.getElem?_cons_succ] at z1'
  go_upto_region 4 with fail
  obtain ⟨V, hV⟩ : ∃ V, V = (w1.setCell ⟨w.heap.size, 0, none⟩ (.bool false)).setCell ⟨w.heap.size + 1, 0, none⟩ (.bool false) := ⟨_, rfl⟩
  rw [← hV] at t0 t1 r2V hBV ⊢
  have hVs : w.heap.size + 1 + 1 ≤ V.heap.size := Nat.le_of_lt r2V.lt
  have Y1 := Lib.hid (hy1.below hBV)
  have Y2 := Lib.hid (hy2.below hBV)
  have HR0 := Lib.hid (fun X (h : Below (w.heap.size + 1 + 1) V X) => (show X.cell? ⟨w.heap.size, 0, none⟩ = some (.bool false) ∧ X.cell? ⟨w.heap.size, 1, none⟩ = some (.slice a1 m1 c1) from ⟨(t0.below h (by omega)).cell_at 0, (t0.below h (by omega)).cell_at 1⟩))
  have HR1 := Lib.hid (fun X (h : Below (w.heap.size + 1 + 1) V X) => (show X.cell? ⟨w.heap.size + 1, 0, none⟩ = some (.bool false) ∧ X.cell? ⟨w.heap.size + 1, 1, none⟩ = some (.slice a2 m2 c2) from ⟨(t1.below h (by omega)).cell_at 0, (t1.below h (by omega)).cell_at 1⟩))
  clear hV t0 t1 f0 f1 z0 z1 s0 s1 z1' f1' hR hB1 hsz1 hbw hbw' q0 q1 q2 q3 r0 r1 r2 hy1 hy2 hW hsz HM HWe
  have hA : At V V.drew [] := (At.refl V).drew
  have hX := hA.below.mono hVs
  refine wp_region_held (S := fun X => Below (w.heap.size + 1 + 1) V X) (by kernel_rfl) ?_
  refine wpAnyH_take_at (i := 1) (v := .agg #[.bool false, .slice a1 m1 c1]) 15 rfl rfl (by kernel_rfl) (by kernel_rfl) (by kernel_rfl) (fun _ _ _ h => h) (.inl ⟨rfl, fun X hX => by obtain ⟨i0, i1⟩ := HR0.out X hX; go_simp⟩) hX ?_
  simp only [Act.put, List.setIfInBounds_toArray, List.set_cons_zero, List.set_cons_succ]
  refine wpAnyH_take_at (i := 3) (v := .agg #[.bool false, .slice a2 m2 c2]) 17 rfl rfl (by kernel_rfl) (by kernel_rfl) (by kernel_rfl) (fun _ _ _ h => h) (.inl ⟨rfl, fun X hX => by obtain ⟨i0, i1⟩ := HR1.out X hX; go_simp⟩) hX ?_
  simp only [Act.put, List.setIfInBounds_toArray, List.set_cons_zero, List.set_cons_succ]
  refine wpAnyH_all (rs := [0, 2]) (by kernel_rfl) (by decide) (fun i hi => ?_)
  simp only [List.mem_cons, List.not_mem_nil, or_false] at hi
  rcases hi with rfl | rfl
  · refine wpOp_alloc_big (o := _) rfl rfl rfl (fun X1 g0 rg0 hb hg0 hlt => ?_)
    clear hlt
    replace hA := hA.cons hb hg0 rg0
    clear rg0 hb hg0
    have hX := hA.below.mono hVs
    refine ⟨hX, ?_⟩
    simp only [Act.put, List.setIfInBounds_toArray, List.set_cons_zero, List.set_cons_succ]
    refine wpAnyH_all (rs := [2]) (by kernel_rfl) (by decide) (fun i hi => ?_)
    rw [List.mem_singleton] at hi
    subst hi
    unfold wpOp
    go_simp
    refine .inl ((at_wide hA false a1 l1 m1 c1 Y1.out L1m.out M1.out M1b.out).mono ?_)
    rintro e X2 ⟨p1, rfl, hA⟩
    have hX := hA.below.mono hVs
    rw [show signed false (val l1) = ((val l1 : Nat) : Int) from rfl] at hA
    refine ⟨hX, ?_⟩
    refine wpAnyH_all (rs := [4]) (by kernel_rfl) (by decide) (fun i hi => ?_)
    rw [List.mem_singleton] at hi
    subst hi
    unfold wpOp
    go_simp
    refine .inl ((at_wide hA false a2 l2 m2 c2 Y2.out L2m.out M2.out M2b.out).mono ?_)
    rintro e X3 ⟨p2, rfl, hA⟩
    have hX := hA.below.mono hVs
    rw [show signed false (val l2) = ((val l2 : Nat) : Int) from rfl] at hA
    refine ⟨hX, ?_⟩
    refine wpAnyH_all (rs := [5]) (by kernel_rfl) (by decide) (fun i hi => ?_)
    rw [List.mem_singleton] at hi
    subst hi
    unfold wpOp
    go_simp
    refine .inl ((at_gcd hA (.tail _ (.tail _ (.head _))) (.tail _ (.head _)) (.head _) (by intro hnd; simp at hnd; omega) L1.out L2.out).mono ?_)
    rintro e X4 ⟨rfl, hA⟩
    have hX := hA.below.mono hVs
    rw [Int.natAbs_natCast, Int.natAbs_natCast, ← HZ.out] at hA
    refine ⟨hX, ?_⟩
    refine wpAnyH_all (rs := [6]) (by kernel_rfl) (by decide) (fun i hi => ?_)
    rw [List.mem_singleton] at hi
    subst hi
    unfold wpOp
    go_simp
    refine .inl ((at_narrow_shape hA (mem_upd z (.tail _ (.tail _ (.head _)))) LZ.out).mono ?_)
    rintro e X5 ⟨⟨b', a', n', c', k', rfl, hnext⟩, hA⟩
    have hX := hA.below.mono hVs
    have HN := Lib.hid hnext
    clear hnext
    refine ⟨hX, ?_⟩
    refine wpAnyH_take_at (i := 7) (v := .agg #[.bool b', .slice a' n' c']) 21 rfl rfl (by kernel_rfl) (by kernel_rfl) (by kernel_rfl) (fun _ _ _ h => h) (.inl ⟨rfl, fun X hX => by go_simp⟩) hX ?_
    simp only [Act.put, List.setIfInBounds_toArray, List.set_cons_zero, List.set_cons_succ]
    refine wpAnyH_take_at (i := 8) (v := .int .i64 k') 22 rfl rfl (by kernel_rfl) (by kernel_rfl) (by kernel_rfl) (fun _ _ _ h => h) (.inl ⟨rfl, fun X hX => by go_simp⟩) hX ?_
    simp only [Act.put, List.setIfInBounds_toArray, List.set_cons_zero, List.set_cons_succ]
    refine wpAnyH_all (rs := [9]) (by kernel_rfl) (by decide) (fun i hi => ?_)
    rw [List.mem_singleton] at hi
    subst hi
    have hRV := r2V.below hA.below r2V.lt
    have hB5 := hBV.trans (hA.below.mono hBV.size)
    have k0 := hRV.cell_at 0
    have k1 := hRV.cell_at 1
    have k2 := hRV.free 0
    have k3 := hRV.free 1
    simp only [List.getElem?_cons_zero, List.getElem?_cons_succ] at k0 k1
    have e0 : (X5.setCell ⟨w.heap.size + 1 + 1, 0, none⟩ (.bool b')).cell? ⟨w.heap.size + 1 + 1, 0, none⟩ = some (.bool b') := (hRV.store_any 0 _).cell_at 0
    have e1 : ((X5.setCell ⟨w.heap.size + 1 + 1, 0, none⟩ (.bool b')).setCell ⟨w.heap.size + 1 + 1, 1, none⟩ (.slice a' n' c')).cell? ⟨w.heap.size + 1 + 1, 1, none⟩ = some (.slice a' n' c') := ((hRV.store_any 0 _).store_any 1 _).cell_at 1
    have HF := Lib.hid (below_store (below_store hB5 (g := w.heap.size + 1 + 1) (i := 0) (by omega) (.bool b')) (g := w.heap.size + 1 + 1) (i := 1) (by omega) (.slice a' n' c'))
    have HP := Lib.hid (fun l (hl : Lay .u32 X5 a' l) => hl.pair hRV (.bool b') (.slice a' n' c'))
    clear hRV hB5 hA r2V hBV
    unfold wpOp
    go_simp
    replace hX := below_store (below_store hX (g := w.heap.size + 1 + 1) (i := 0) (by omega) (.bool b')) (g := w.heap.size + 1 + 1) (i := 1) (by omega) (.slice a' n' c')
    refine .inl ⟨hX, ?_⟩
    refine wpAnyH_take_at (i := 10) (v := .int .i64 k') 5 rfl rfl (by kernel_rfl) (by kernel_rfl) (by kernel_rfl) (fun _ _ _ h => h) (.inl ⟨rfl, fun X hX => by go_simp⟩) hX ?_
    simp only [Act.put, List.setIfInBounds_toArray, List.set_cons_zero, List.set_cons_succ]
    refine wpAnyH_done (by kernel_rfl) ?_ _
    go_wp2
    (try simp only [Exit.inBlock, Exit.then])
    refine bodyPost_ret (v := .tuple #[.agg #[.bool b', .slice a' n' c'], .int .i64 k']) (by simp [results, Tryz.results19, go_sem, e0, e1]) rfl ?_
    exact HN.out _ _ HF.out HP.out
  · unfold wpOp
    go_simp
    refine .inl ((at_wide hA false a1 l1 m1 c1 Y1.out L1m.out M1.out M1b.out).mono ?_)
    rintro e X7 ⟨p1, rfl, hA⟩
    have hX := hA.below.mono hVs
    rw [show signed false (val l1) = ((val l1 : Nat) : Int) from rfl] at hA
    refine ⟨hX, ?_⟩
    refine wpAnyH_all (rs := [0, 4]) (by kernel_rfl) (by decide) (fun i hi => ?_)
    simp only [List.mem_cons, List.not_mem_nil, or_false] at hi
    rcases hi with rfl | rfl
    · refine wpOp_alloc_big (o := _) rfl rfl rfl (fun X8 g0 rg0 hb hg0 hlt => ?_)
      clear hlt
      replace hA := hA.cons hb hg0 rg0
      clear rg0 hb hg0
      have hX := hA.below.mono hVs
      refine ⟨hX, ?_⟩
      simp only [Act.put, List.setIfInBounds_toArray, List.set_cons_zero, List.set_cons_succ]
      refine wpAnyH_all (rs := [4]) (by kernel_rfl) (by decide) (fun i hi => ?_)
      rw [List.mem_singleton] at hi
      subst hi
      unfold wpOp
      go_simp
      refine .inl ((at_wide hA false a2 l2 m2 c2 Y2.out L2m.out M2.out M2b.out).mono ?_)
      rintro e X9 ⟨p2, rfl, hA⟩
      have hX := hA.below.mono hVs
      rw [show signed false (val l2) = ((val l2 : Nat) : Int) from rfl] at hA
      refine ⟨hX, ?_⟩
      refine wpAnyH_all (rs := [5]) (by kernel_rfl) (by decide) (fun i hi => ?_)
      rw [List.mem_singleton] at hi
      subst hi
      unfold wpOp
      go_simp
      refine .inl ((at_gcd hA (.tail _ (.head _)) (.tail _ (.tail _ (.head _))) (.head _) (by intro hnd; simp at hnd; omega) L1.out L2.out).mono ?_)
      rintro e X10 ⟨rfl, hA⟩
      have hX := hA.below.mono hVs
      rw [Int.natAbs_natCast, Int.natAbs_natCast, ← HZ.out] at hA
      refine ⟨hX, ?_⟩
      refine wpAnyH_all (rs := [6]) (by kernel_rfl) (by decide) (fun i hi => ?_)
      rw [List.mem_singleton] at hi
      subst hi
      unfold wpOp
      go_simp
      refine .inl ((at_narrow_shape hA (mem_upd z (.tail _ (.head _))) LZ.out).mono ?_)
      rintro e X11 ⟨⟨b', a', n', c', k', rfl, hnext⟩, hA⟩
      have hX := hA.below.mono hVs
      have HN := Lib.hid hnext
      clear hnext
      refine ⟨hX, ?_⟩
      refine wpAnyH_take_at (i := 7) (v := .agg #[.bool b', .slice a' n' c']) 21 rfl rfl (by kernel_rfl) (by kernel_rfl) (by kernel_rfl) (fun _ _ _ h => h) (.inl ⟨rfl, fun X hX => by go_simp⟩) hX ?_
      simp only [Act.put, List.setIfInBounds_toArray, List.set_cons_zero, List.set_cons_succ]
      refine wpAnyH_take_at (i := 8) (v := .int .i64 k') 22 rfl rfl (by kernel_rfl) (by kernel_rfl) (by kernel_rfl) (fun _ _ _ h => h) (.inl ⟨rfl, fun X hX => by go_simp⟩) hX ?_
      simp only [Act.put, List.setIfInBounds_toArray, List.set_cons_zero, List.set_cons_succ]
      refine wpAnyH_all (rs := [9]) (by kernel_rfl) (by decide) (fun i hi => ?_)
      rw [List.mem_singleton] at hi
      subst hi
      have hRV := r2V.below hA.below r2V.lt
      have hB5 := hBV.trans (hA.below.mono hBV.size)
      have k0 := hRV.cell_at 0
      have k1 := hRV.cell_at 1
      have k2 := hRV.free 0
      have k3 := hRV.free 1
      simp only [List.getElem?_cons_zero, List.getElem?_cons_succ] at k0 k1
      have e0 : (X11.setCell ⟨w.heap.size + 1 + 1, 0, none⟩ (.bool b')).cell? ⟨w.heap.size + 1 + 1, 0, none⟩ = some (.bool b') := (hRV.store_any 0 _).cell_at 0
      have e1 : ((X11.setCell ⟨w.heap.size + 1 + 1, 0, none⟩ (.bool b')).setCell ⟨w.heap.size + 1 + 1, 1, none⟩ (.slice a' n' c')).cell? ⟨w.heap.size + 1 + 1, 1, none⟩ = some (.slice a' n' c') := ((hRV.store_any 0 _).store_any 1 _).cell_at 1
      have HF := Lib.hid (below_store (below_store hB5 (g := w.heap.size + 1 + 1) (i := 0) (by omega) (.bool b')) (g := w.heap.size + 1 + 1) (i := 1) (by omega) (.slice a' n' c'))
      have HP := Lib.hid (fun l (hl : Lay .u32 X11 a' l) => hl.pair hRV (.bool b') (.slice a' n' c'))
      clear hRV hB5 hA r2V hBV
      unfold wpOp
      go_simp
      replace hX := below_store (below_store hX (g := w.heap.size + 1 + 1) (i := 0) (by omega) (.bool b')) (g := w.heap.size + 1 + 1) (i := 1) (by omega) (.slice a' n' c')
      refine .inl ⟨hX, ?_⟩
      refine wpAnyH_take_at (i := 10) (v := .int .i64 k') 5 rfl rfl (by kernel_rfl) (by kernel_rfl) (by kernel_rfl) (fun _ _ _ h => h) (.inl ⟨rfl, fun X hX => by go_simp⟩) hX ?_
      simp only [Act.put, List.setIfInBounds_toArray, List.set_cons_zero, List.set_cons_succ]
      refine wpAnyH_done (by kernel_rfl) ?_ _
      go_wp2
      (try simp only [Exit.inBlock, Exit.then])
      refine bodyPost_ret (v := .tuple #[.agg #[.bool b', .slice a' n' c'], .int .i64 k']) (by simp [results, Tryz.results19, go_sem, e0, e1]) rfl ?_
      exact HN.out _ _ HF.out HP.out
    · unfold wpOp
      go_simp
      refine .inl ((at_wide hA false a2 l2 m2 c2 Y2.out L2m.out M2.out M2b.out).mono ?_)
      rintro e X13 ⟨p2, rfl, hA⟩
      have hX := hA.below.mono hVs
      rw [show signed false (val l2) = ((val l2 : Nat) : Int) from rfl] at hA
      refine ⟨hX, ?_⟩
      refine wpAnyH_all (rs := [0]) (by kernel_rfl) (by decide) (fun i hi => ?_)
      rw [List.mem_singleton] at hi
      subst hi
      refine wpOp_alloc_big (o := _) rfl rfl rfl (fun X14 g0 rg0 hb hg0 hlt => ?_)
      clear hlt
      replace hA := hA.cons hb hg0 rg0
      clear rg0 hb hg0
      have hX := hA.below.mono hVs
      refine ⟨hX, ?_⟩
      simp only [Act.put, List.setIfInBounds_toArray, List.set_cons_zero, List.set_cons_succ]
      refine wpAnyH_all (rs := [5]) (by kernel_rfl) (by decide) (fun i hi => ?_)
      rw [List.mem_singleton] at hi
      subst hi
      unfold wpOp
      go_simp
      refine .inl ((at_gcd hA (.head _) (.tail _ (.tail _ (.head _))) (.tail _ (.head _)) (by intro hnd; simp at hnd; omega) L1.out L2.out).mono ?_)
      rintro e X15 ⟨rfl, hA⟩
      have hX := hA.below.mono hVs
      rw [Int.natAbs_natCast, Int.natAbs_natCast, ← HZ.out] at hA
      refine ⟨hX, ?_⟩
      refine wpAnyH_all (rs := [6]) (by kernel_rfl) (by decide) (fun i hi => ?_)
      rw [List.mem_singleton] at hi
      subst hi
      unfold wpOp
      go_simp
      refine .inl ((at_narrow_shape hA (mem_upd z (.head _)) LZ.out).mono ?_)
      rintro e X16 ⟨⟨b', a', n', c', k', rfl, hnext⟩, hA⟩
      have hX := hA.below.mono hVs
      have HN := Lib.hid hnext
      clear hnext
      refine ⟨hX, ?_⟩
      refine wpAnyH_take_at (i := 7) (v := .agg #[.bool b', .slice a' n' c']) 21 rfl rfl (by kernel_rfl) (by kernel_rfl) (by kernel_rfl) (fun _ _ _ h => h) (.inl ⟨rfl, fun X hX => by go_simp⟩) hX ?_
      simp only [Act.put, List.setIfInBounds_toArray, List.set_cons_zero, List.set_cons_succ]
      refine wpAnyH_take_at (i := 8) (v := .int .i64 k') 22 rfl rfl (by kernel_rfl) (by kernel_rfl) (by kernel_rfl) (fun _ _ _ h => h) (.inl ⟨rfl, fun X hX => by go_simp⟩) hX ?_
      simp only [Act.put, List.setIfInBounds_toArray, List.set_cons_zero, List.set_cons_succ]
      refine wpAnyH_all (rs := [9]) (by kernel_rfl) (by decide) (fun i hi => ?_)
      rw [List.mem_singleton] at hi
      subst hi
      have hRV := r2V.below hA.below r2V.lt
      have hB5 := hBV.trans (hA.below.mono hBV.size)
      have k0 := hRV.cell_at 0
      have k1 := hRV.cell_at 1
      have k2 := hRV.free 0
      have k3 := hRV.free 1
      simp only [List.getElem?_cons_zero, List.getElem?_cons_succ] at k0 k1
      have e0 : (X16.setCell ⟨w.heap.size + 1 + 1, 0, none⟩ (.bool b')).cell? ⟨w.heap.size + 1 + 1, 0, none⟩ = some (.bool b') := (hRV.store_any 0 _).cell_at 0
      have e1 : ((X16.setCell ⟨w.heap.size + 1 + 1, 0, none⟩ (.bool b')).setCell ⟨w.heap.size + 1 + 1, 1, none⟩ (.slice a' n' c')).cell? ⟨w.heap.size + 1 + 1, 1, none⟩ = some (.slice a' n' c') := ((hRV.store_any 0 _).store_any 1 _).cell_at 1
      have HF := Lib.hid (below_store (below_store hB5 (g := w.heap.size + 1 + 1) (i := 0) (by omega) (.bool b')) (g := w.heap.size + 1 + 1) (i := 1) (by omega) (.slice a' n' c'))
      have HP := Lib.hid (fun l (hl : Lay .u32 X16 a' l) => hl.pair hRV (.bool b') (.slice a' n' c'))
      clear hRV hB5 hA r2V hBV
      unfold wpOp
      go_simp
      replace hX := below_store (below_store hX (g := w.heap.size + 1 + 1) (i := 0) (by omega) (.bool b')) (g := w.heap.size + 1 + 1) (i := 1) (by omega) (.slice a' n' c')
      refine .inl ⟨hX, ?_⟩
      refine wpAnyH_take_at (i := 10) (v := .int .i64 k') 5 rfl rfl (by kernel_rfl) (by kernel_rfl) (by kernel_rfl) (fun _ _ _ h => h) (.inl ⟨rfl, fun X hX => by go_simp⟩) hX ?_
      simp only [Act.put, List.setIfInBounds_toArray, List.set_cons_zero, List.set_cons_succ]
      refine wpAnyH_done (by kernel_rfl) ?_ _
      go_wp2
      (try simp only [Exit.inBlock, Exit.then])
      refine bodyPost_ret (v := .tuple #[.agg #[.bool b', .slice a' n' c'], .int .i64 k']) (by simp [results, Tryz.results19, go_sem, e0, e1]) rfl ?_
      exact HN.out _ _ HF.out HP.out

end Go.Proofs.YtbffpkmfhkphdaaGreatDoor

namespace Go.Proofs.YtbffpkmfhkphdaaGreatDoor
open Go Go.RowKit Limb

theorem rows4_keep {V : World} {g : Nat} {t : TypeId} {a0 a1 b0 b1 : Value} (r0 : Row V g t [a0, a1]) (r1 : Row V (g + 1) t [b0, b1]) (hg : g + 1 + 1 ≤ V.heap.size) :
    (∀ X, Below V.heap.size V X → X.cell? ⟨g, 0, none⟩ = some a0 ∧ X.cell? ⟨g, 1, none⟩ = some a1 ∧ X.cell? ⟨g + 1, 0, none⟩ = some b0 ∧ X.cell? ⟨g + 1, 1, none⟩ = some b1) ∧
    (∀ X, Below (g + 1 + 1) V X → X.cell? ⟨g, 0, none⟩ = some a0 ∧ X.cell? ⟨g, 1, none⟩ = some a1 ∧ X.cell? ⟨g + 1, 0, none⟩ = some b0 ∧ X.cell? ⟨g + 1, 1, none⟩ = some b1) := by
  have key : ∀ X, Below (g + 1 + 1) V X → X.cell? ⟨g, 0, none⟩ = some a0 ∧ X.cell? ⟨g, 1, none⟩ = some a1 ∧ X.cell? ⟨g + 1, 0, none⟩ = some b0 ∧ X.cell? ⟨g + 1, 1, none⟩ = some b1 := fun X h => by
    have p0 := r0.below h (by omega)
    have p1 := r1.below h (by omega)
    exact ⟨p0.cell_at 0, p0.cell_at 1, p1.cell_at 0, p1.cell_at 1⟩
  exact ⟨fun X h => key X (h.mono hg), key⟩

/-- Two results stored. -/
theorem pair2 {w X : World} {g g' : Nat} (u0 u1 v0 v1 : Value) {b0 b0' : Bool} {a0 a0' : Option Addr} {n0 c0 n0' c0' : Nat} (ra : Row X g 24 [.bool b0, .slice a0 n0 c0]) (rb : Row X g' 24 [.bool b0', .slice a0' n0' c0']) (hne : g ≠ g') (hX : Below w.heap.size w X) (hg : w.heap.size ≤ g) (hg' : w.heap.size ≤ g') :
    ∃ U, U = (((X.setCell ⟨g, 0, none⟩ u0).setCell ⟨g, 1, none⟩ u1).setCell ⟨g', 0, none⟩ v0).setCell ⟨g', 1, none⟩ v1 ∧
      U.cell? ⟨g, 0, none⟩ = some u0 ∧ U.cell? ⟨g, 1, none⟩ = some u1 ∧ U.cell? ⟨g', 0, none⟩ = some v0 ∧ U.cell? ⟨g', 1, none⟩ = some v1 ∧ Below w.heap.size w U ∧ (∀ x l, Lay .u32 X x l → Lay .u32 U x l) := by
  have hrb : Row ((X.setCell ⟨g, 0, none⟩ u0).setCell ⟨g, 1, none⟩ u1) g' 24 [.bool b0', .slice a0' n0' c0'] := (rb.other (by simpa using Ne.symm hne) _).other (by simpa using Ne.symm hne) _
  refine ⟨_, rfl, ?_⟩
  have ga : Row ((((X.setCell ⟨g, 0, none⟩ u0).setCell ⟨g, 1, none⟩ u1).setCell ⟨g', 0, none⟩ v0).setCell ⟨g', 1, none⟩ v1) g 24 [u0, u1] := (((ra.store_any 0 u0).store_any 1 u1).other (by simpa using hne) _).other (by simpa using hne) _
  have gb : Row ((((X.setCell ⟨g, 0, none⟩ u0).setCell ⟨g, 1, none⟩ u1).setCell ⟨g', 0, none⟩ v0).setCell ⟨g', 1, none⟩ v1) g' 24 [v0, v1] := (hrb.store_any 0 _).store_any 1 _
  exact ⟨ga.cell_at 0, ga.cell_at 1, gb.cell_at 0, gb.cell_at 1, below_store (below_store (below_store (below_store hX hg _) hg _) hg' _) hg' _, fun x l hl => (hl.pair ra _ _).pair hrb _ _⟩
theorem ApiV.to {X U : World} {u : Value} {z : Int} (h : ApiV X u z) (hl : ∀ x l, Lay .u32 X x l → Lay .u32 U x l) : ApiV U u z := by
  obtain ⟨a, c, h1, h2, h3⟩ := h; exact ⟨a, c, h1, h2, hl _ _ h3⟩

/-- Two integers made, as an answer. -/
def QuoRes (w w' : World) (e : Ending) (q r : Int) : Prop :=
  ∃ b a n c b' a' n' c', e = .returned (.tuple #[.agg #[.bool b, .slice a n c], .agg #[.bool b', .slice a' n' c']]) ∧ ApiV w' (.agg #[.bool b, .slice a n c]) q ∧ ApiV w' (.agg #[.bool b', .slice a' n' c']) r ∧ Below w.heap.size w w'

/-- made, in a world since W: an integer. -/
theorem since_made2 {W X : World} {z : Int} {s : Bool} {a : Option Addr} {n c : Nat} (hs : (s = true → z ≤ 0) ∧ (s = false → 0 ≤ z)) (hr : Raw X a n c z.natAbs) (h : Below W.heap.size W X) :
    Calls Tryz.prog 79 #[.bool s, .slice a n c] X fun e X' => (∃ a3 c3, e = .returned (.agg #[.bool (decide (z < 0)), .slice a3 (rep z.natAbs).length c3]) ∧ Hid (ApiV X' (.agg #[.bool (decide (z < 0)), .slice a3 (rep z.natAbs).length c3]) z ∧ Below X.heap.size X X')) ∧ Below W.heap.size W X' := by
  obtain ⟨zs, h1, h2, h3, h4, h5, h6⟩ := hr
  refine (ref_made X s a zs n c z h6 h4 h1 h3 h2 h5 hs).mono ?_
  rintro e X' ⟨u, rfl, hu, hb⟩
  have hb' := h.trans (hb.mono h.size)
  obtain ⟨a3, c3, rfl, _⟩ := id hu
  exact ⟨⟨a3, c3, rfl, Lib.hid ⟨hu, hb⟩⟩, hb'⟩
theorem Raw.below {X X' : World} {a : Option Addr} {n c N : Nat} (h : Raw X a n c N) (hb : Below X.heap.size X X') : Raw X' a n c N := by
  obtain ⟨zs, h1, h2, h3, h4, h5, h6⟩ := h; exact ⟨zs, h1, h2, h3, h4, h5, h6.below hb⟩

theorem quo_sign {x y : Int} : ((decide (x < 0) != decide (y < 0)) = true → x.tdiv y ≤ 0) ∧ ((decide (x < 0) != decide (y < 0)) = false → 0 ≤ x.tdiv y) := by
  have hp : ∀ a b : Int, 0 ≤ a → 0 ≤ b → 0 ≤ a.tdiv b := fun a b ha hb => Int.tdiv_nonneg ha hb
  rcases Int.lt_or_le x 0 with hx | hx <;> rcases Int.lt_or_le y 0 with hy | hy
  · have := hp (-x) (-y) (by omega) (by omega)
    rw [Int.neg_tdiv, Int.tdiv_neg, Int.neg_neg] at this
    simp [hx, hy]; omega
  · have := hp (-x) y (by omega) hy
    rw [Int.neg_tdiv] at this
    have h2 : ¬ y < 0 := by omega
    simp [hx, h2]; omega
  · have := hp x (-y) hx (by omega)
    rw [Int.tdiv_neg] at this
    have h2 : ¬ x < 0 := by omega
    simp [hy, h2]; omega
  · have := hp x y hx hy
    have h2 : ¬ y < 0 := by omega
    have h3 : ¬ x < 0 := by omega
    simp [h2, h3]; omega
theorem rem_sign {x y : Int} : (decide (x < 0) = true → x.tmod y ≤ 0) ∧ (decide (x < 0) = false → 0 ≤ x.tmod y) := by
  constructor
  · intro h
    have h := of_decide_eq_true h
    have := Int.tmod_nonneg y (a := -x) (by omega)
    rw [Int.neg_tmod] at this; omega
  · intro h
    have h := of_decide_eq_false h
    exact Int.tmod_nonneg y (by omega)

set_option maxHeartbeats 1600000 in
set_option maxRecDepth 1000000 in
theorem ref_quo (w : World) (v1 v2 : Value) (x y : Int) (h1 : ApiV w v1 x) (h2 : ApiV w v2 y) (lx : (rep x.natAbs).length ≤ 1073741824) (ly : (rep y.natAbs).length ≤ 1073741824) (hy : y ≠ 0) :
    Calls Tryz.prog 156 #[v1, v2] w fun e w' => QuoRes w w' e (x.tdiv y) (x.tmod y) := by
  obtain ⟨a1, c1, rfl, hc1, hl1⟩ := h1
  obtain ⟨a2, c2, rfl, hc2, hl2⟩ := h2
  obtain ⟨n1, hn1⟩ : ∃ n, n = (rep x.natAbs).length := ⟨_, rfl⟩
  obtain ⟨n2, hn2⟩ : ∃ n, n = (rep y.natAbs).length := ⟨_, rfl⟩
  obtain ⟨s1, hs1⟩ : ∃ s, s = decide (x < 0) := ⟨_, rfl⟩
  obtain ⟨s2, hs2⟩ : ∃ s, s = decide (y < 0) := ⟨_, rfl⟩
  have hq := @quo_sign x y
  have hr := @rem_sign x y
  rw [← hs1, ← hs2] at hq
  rw [← hs1] at hr
  rw [← hn1] at lx
  rw [← hn2] at ly
  rw [← hs1, ← hs2, ← hn1, ← hn2]
  obtain ⟨W, hWe, r0, r1, r2, r3, hW, hsz⟩ := rows4 w 24 (.bool s1) (.slice a1 n1 c1) (.bool s2) (.slice a2 n2 c2) (.bool false) (.slice none 0 0) (.bool false) (.slice none 0 0)
  have HWe := Lib.hid hWe; clear hWe
  have hP := ref_parts W a1 a2 x.natAbs y.natAbs n1 n2 c1 c2 (hl1.below hW) (hl2.below hW) hn1 hn2 lx ly (by omega)
  rw [show x.natAbs / y.natAbs = (x.tdiv y).natAbs from (Int.natAbs_tdiv x y).symm, show x.natAbs % y.natAbs = (x.tmod y).natAbs from (Int.natAbs_tmod x y).symm] at hP
  have HP := Lib.hid hP; clear hP
  obtain ⟨q, hqv⟩ : ∃ q, q = x.tdiv y := ⟨_, rfl⟩
  obtain ⟨r, hrv⟩ : ∃ r, r = x.tmod y := ⟨_, rfl⟩
  have lq : (rep q.natAbs).length ≤ 1073741824 := by rw [hqv, Int.natAbs_tdiv]; exact Nat.le_trans (rep_mono (Nat.div_le_self _ _)) (by omega)
  have lr : (rep r.natAbs).length ≤ 1073741824 := by rw [hrv, Int.natAbs_tmod]; exact Nat.le_trans (rep_mono (Nat.mod_le _ _)) (by omega)
  rw [← hqv] at HP hq ⊢
  rw [← hrv] at HP hr ⊢
  have Hq := Lib.hid hq; clear hq
  have Hr := Lib.hid hr; clear hr
  have c0 := r0.cell_at 0
  have c01 := r0.cell_at 1
  have c10 := r1.cell_at 0
  have c11 := r1.cell_at 1
  simp only [List.getElem?_cons_zero, List.getElem?_cons_succ] at c0 c01 c10 c11
  clear hn1 hn2 hs1 hs2 hqv hrv hy
  go_enter Tryz.func156, Tryz.ntmps156
  go_wp2_with fail
  rw [← HWe.out]
  refine HP.out.mono ?_
  rintro e V ⟨aq, nq, cq, ar, nr, cr, rfl, hnq, hnr, hcq, hcr, hlq, hlr, hb⟩
  have rq : Raw V aq nq cq q.natAbs := ⟨rep q.natAbs, hnq, hcq, by omega, rep_lim _, val_rep _, hlq⟩
  have rr : Raw V ar nr cr r.natAbs := ⟨rep r.natAbs, hnr, hcr, by omega, rep_lim _, val_rep _, hlr⟩
  clear hnq hnr hlq hlr c0 c01 c10 c11
  have hWV : Below w.heap.size w V := hW.trans (hb.mono hW.size)
  have p0 := r0.below hb r0.lt
  have p1 := r1.below hb r1.lt
  have p2 := r2.below hb r2.lt
  have p3 := r3.below hb r3.lt
  have hszV := hb.size
  have c0 := p0.cell_at 0
  have c01 := p0.cell_at 1
  have c10 := p1.cell_at 0
  have c11 := p1.cell_at 1
  simp only [List.getElem?_cons_zero, List.getElem?_cons_succ] at c0 c01 c10 c11
  obtain ⟨hk, hs⟩ := rows4_keep p0 p1 (by omega)
  have HK := Lib.hid hk; clear hk
  have HS := Lib.hid hs; clear hs
  have hm : ∀ X z s a n c, ((a = aq ∧ n = nq ∧ c = cq ∧ z = q ∧ s = (s1 != s2)) ∨ (a = ar ∧ n = nr ∧ c = cr ∧ z = r ∧ s = s1)) → Below V.heap.size V X →
      Calls Tryz.prog 79 #[.bool s, .slice a n c] X fun e X' => (∃ a3 c3, e = .returned (.agg #[.bool (decide (z < 0)), .slice a3 (rep z.natAbs).length c3]) ∧ Hid (ApiV X' (.agg #[.bool (decide (z < 0)), .slice a3 (rep z.natAbs).length c3]) z ∧ Below X.heap.size X X')) ∧ Below V.heap.size V X' := by
    rintro X z s a n c (⟨rfl, rfl, rfl, rfl, rfl⟩ | ⟨rfl, rfl, rfl, rfl, rfl⟩) h
    · exact since_made2 Hq.out (rq.below h) h
    · exact since_made2 Hr.out (rr.below h) h
  have HM := Lib.hid hm; clear hm
  clear rq rr
  have hfin := fun X (h : Below V.heap.size V X) => show X.cell? ⟨w.heap.size + 1 + 1, 0, none⟩ = some (.bool false) ∧ X.cell? ⟨w.heap.size + 1 + 1, 1, none⟩ = some (.slice none 0 0) ∧ X.frozen? ⟨w.heap.size + 1 + 1, 0, none⟩ = false ∧ X.frozen? ⟨w.heap.size + 1 + 1, 1, none⟩ = false ∧
      X.cell? ⟨w.heap.size + 1 + 1 + 1, 0, none⟩ = some (.bool false) ∧ X.cell? ⟨w.heap.size + 1 + 1 + 1, 1, none⟩ = some (.slice none 0 0) ∧ X.frozen? ⟨w.heap.size + 1 + 1 + 1, 0, none⟩ = false ∧ X.frozen? ⟨w.heap.size + 1 + 1 + 1, 1, none⟩ = false from
    ⟨(p2.below h p2.lt).cell_at 0, (p2.below h p2.lt).cell_at 1, (p2.below h p2.lt).free 0, (p2.below h p2.lt).free 1, (p3.below h p3.lt).cell_at 0, (p3.below h p3.lt).cell_at 1, (p3.below h p3.lt).free 0, (p3.below h p3.lt).free 1⟩
  have HF := Lib.hid hfin; clear hfin
  have h := Below.refl V.heap.size V
  go_wp2_with fail
  go_region_held3 (fun X => (X.cell? ⟨w.heap.size, 0, none⟩ = some (.bool s1) ∧ X.cell? ⟨w.heap.size, 1, none⟩ = some (.slice a1 n1 c1) ∧ X.cell? ⟨w.heap.size + 1, 0, none⟩ = some (.bool s2) ∧ X.cell? ⟨w.heap.size + 1, 1, none⟩ = some (.slice a2 n2 c2)))
    (first | (apply HK.out; (repeat (first | exact h | apply Below.drew)); done) | (apply HS.out; (repeat (refine below_store ?_ (by omega) _)); apply Below.mono; (repeat (first | exact h | apply Below.drew)); omega))
    (first
      | (go_at_call 79; apply Calls.mono; apply HM.out; exact .inl ⟨rfl, rfl, rfl, rfl, rfl⟩; (repeat (first | exact h | apply Below.drew)); clear h; rintro e w' ⟨⟨a3, c3, rfl, hfq⟩, h⟩)
      | (go_at_call 79; apply Calls.mono; apply HM.out; exact .inr ⟨rfl, rfl, rfl, rfl, rfl⟩; (repeat (first | exact h | apply Below.drew)); clear h; rintro e w' ⟨⟨a4, c4, rfl, hfr⟩, h⟩; obtain ⟨m0, m1, m2, m3, m4, m5, m6, m7⟩ := HF.out _ h))
  have hXw := hWV.trans (h.mono hWV.size)
  obtain ⟨U, hU, f0, f1, f2, f3, hBU, hlay⟩ := pair2 (.bool (decide (q < 0))) (.slice a3 (rep q.natAbs).length c3) (.bool (decide (r < 0))) (.slice a4 (rep r.natAbs).length c4) (p2.below h p2.lt) (p3.below h p3.lt) (by omega) hXw (by omega) (by omega)
  have HU := Lib.hid hU; clear hU
  have HQ := Lib.hid (ApiV.to (hfq.out.1.below hfr.out.2) hlay)
  have HR := Lib.hid (ApiV.to hfr.out.1 hlay)
  clear hfq hfr hlay
  go_wp2
  (try simp only [Exit.inBlock, Exit.then])
  rw [← HU.out]
  refine bodyPost_ret (v := .tuple #[.agg #[.bool (decide (q < 0)), .slice a3 (rep q.natAbs).length c3], .agg #[.bool (decide (r < 0)), .slice a4 (rep r.natAbs).length c4]]) (by simp [results, Tryz.results156, go_sem, f0, f1, f2, f3]) rfl ?_
  exact ⟨_, _, _, _, _, _, _, _, rfl, HQ.out, HR.out, hBU⟩

end Go.Proofs.YtbffpkmfhkphdaaGreatDoor
