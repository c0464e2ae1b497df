/- The walk of large.Gcd. -/
import Derived.Test.YtbffpkmfhkphdaaGreatDoorGX36
import Derived.Test.YtbffpkmfhkphdaaGreatDoorGX35
import Derived.Test.YtbffpkmfhkphdaaGreatDoorGX27
import Derived.Deep.DeepCutAuto
set_option linter.unusedVariables false
set_option linter.unusedSimpArgs false
namespace Go.Proofs.YtbffpkmfhkphdaaGreatDoor
open Go Go.RowKit Limb

/-- A variable of type big.Int is made. -/
theorem wpOp_alloc_big {ops : Array Oper} {Q : Exit → Act → World → Prop} {i : Nat} {o : Oper} {K : Act → World → Prop} {a : Act} {w : World} (hi : ops[i]? = some o) (hg : o.guard = none) (ho : o.op = .alloc 117)
    (h : ∀ X' g, IntAt X' g 0 → Below w.heap.size w X' → w.heap.size ≤ g → g < X'.heap.size → K (a.put o.dst (.pointer (some ⟨g, 0, none⟩))) X') : wpOp Tryz.prog ops Q i K a w := by
  refine wpOp_plain hi hg ?_
  have hfin := h (w.alloc (.cells #[.bool false, .slice none 0 0] 117)) w.heap.size (IntAt.new w) ((Below.refl _ _).alloc (Nat.le_refl _) _) (Nat.le_refl _) (by rw [World.size_alloc]; omega)
  obtain ⟨dst, op, type, pos, after, guard⟩ := o
  simp only at ho hg
  subst ho hg
  unfold Oper.wp
  go_simp
  exact hfin
theorem at_gcd {w1 X : World} {l : List (Nat × Int)} {p q r : Nat} {v x y : Int} (h : At w1 X l) (hp : (p, v) ∈ l) (hq : (q, x) ∈ l) (hr : (r, y) ∈ l) (hne : (l.map Prod.fst).Nodup → q ≠ p ∧ r ≠ p) (lx : (rep x.natAbs).length ≤ 1048576) (ly : (rep y.natAbs).length ≤ 1048576) :
    Calls Tryz.prog 84 #[.pointer (some ⟨p, 0, none⟩), .pointer none, .pointer none, .pointer (some ⟨q, 0, none⟩), .pointer (some ⟨r, 0, none⟩)] X fun e X' => e = .returned (.pointer (some ⟨p, 0, none⟩)) ∧ At w1 X' (upd l p (Nat.gcd x.natAbs y.natAbs : Nat)) := by
  refine (int_gcd X p q r v x y (h.ints _ hp).1 (h.ints _ hq).1 (h.ints _ hr).1 (hne h.nd).1 (hne h.nd).2 lx ly).mono ?_
  rintro e X' ⟨rfl, h1, h2⟩
  exact ⟨rfl, h.set hp h2 h1⟩

set_option maxHeartbeats 6400000 in
set_option maxRecDepth 1000000 in
theorem gcd_no (w : World) (n1 n2 : Bool) (a1 a2 : Option Addr) (l1 l2 : List Nat) (m1 m2 c1 c2 : Nat) (hy1 : Lay .u32 w a1 l1) (hy2 : Lay .u32 w a2 l2) (hl1 : Lim l1) (hl2 : Lim l2) (hm1 : m1 = l1.length) (hm2 : m2 = l2.length) (hb1 : m1 ≤ 9223372036854775807) (hb2 : m2 ≤ 9223372036854775807) (hok : (mayB n1 l1 && mayB n2 l2) = false) :
    Calls Tryz.prog 19 #[.agg #[.bool n1, .slice a1 m1 c1], .agg #[.bool n2, .slice a2 m2 c2]] w fun e w' => e = errRange ∧ Below w.heap.size w w' := by
  obtain ⟨r0, r1, r2, hW, hsz⟩ := rows3 w 24 (.bool n1) (.slice a1 m1 c1) (.bool n2) (.slice a2 m2 c2) (.bool false) (.slice none 0 0)
  obtain ⟨W, hWe⟩ : ∃ W, W = ((w.alloc (.cells #[.bool n1, .slice a1 m1 c1] 24)).alloc (.cells #[.bool n2, .slice a2 m2 c2] 24)).alloc (.cells #[.bool false, .slice none 0 0] 24) := ⟨_, rfl⟩
  rw [← hWe] at r0 r1 r2 hW hsz
  have HWe := Lib.hid hWe; clear hWe
  have hmay := fun h1 h2 h3 => large_may2 (W.alloc (.cells #[.bool n1, .slice a1 m1 c1, .bool n2, .slice a2 m2 c2] 24)) (w.heap.size + 1 + 1 + 1) n1 n2 a1 a2 l1 l2 m1 m2 c1 c2 h1 h2 h3 hl1 hl2 hm1 hm2 hb1 hb2
  have hmay' := hmay (by rw [← hsz]; exact row2slice _ _ _) ((hy1.below hW).below ((Below.refl _ _).alloc (Nat.le_refl _) _)) ((hy2.below hW).below ((Below.refl _ _).alloc (Nat.le_refl _) _))
  rw [hok] at hmay'
  have HM := Lib.hid hmay'; clear hmay hmay'
  have q0 := r0.cell_at 0
  have q1 := r0.cell_at 1
  have q2 := r1.cell_at 0
  have q3 := r1.cell_at 1
  simp only [List.getElem?_cons_zero, List.getElem?_cons_succ] at q0 q1 q2 q3
  clear hy1 hy2 hl1 hl2 hm1 hm2 hb1 hb2
  go_enter Tryz.func19, Tryz.ntmps19
  go_wp2_with fail
  rw [← HWe.out]
  refine HM.out.mono ?_
  rintro e w1 ⟨rfl, hbw⟩
  have hbw' := below_over hbw
  have hB1 : Below w.heap.size w w1 := hW.trans (hbw'.mono hW.size)
  have hR := r2.below hbw' r2.lt
  have hsz1 := hbw'.size
  have k0 := hR.cell_at 0
  have k1 := hR.cell_at 1
  have k2 := hR.free 0
  have k3 := hR.free 1
  simp only [List.getElem?_cons_zero, List.getElem?_cons_succ] at k0 k1
  have e0 : (w1.setCell ⟨w.heap.size + 1 + 1, 0, none⟩ (.bool false)).cell? ⟨w.heap.size + 1 + 1, 0, none⟩ = some (.bool false) := (hR.store_any 0 _).cell_at 0
  have e1 : ((w1.setCell ⟨w.heap.size + 1 + 1, 0, none⟩ (.bool false)).setCell ⟨w.heap.size + 1 + 1, 1, none⟩ (.slice none 0 0)).cell? ⟨w.heap.size + 1 + 1, 1, none⟩ = some (.slice none 0 0) := ((hR.store_any 0 _).store_any 1 _).cell_at 1
  have HF := Lib.hid (below_store (below_store hB1 (g := w.heap.size + 1 + 1) (i := 0) (by omega) (.bool false)) (g := w.heap.size + 1 + 1) (i := 1) (by omega) (.slice none 0 0))
  clear hR r0 r1 r2 hbw hbw' q0 q1 q2 q3
  go_wp2
  (try simp only [Exit.inBlock, Exit.then])
  refine bodyPost_ret (v := .tuple #[.agg #[.bool false, .slice none 0 0], .int .i64 1]) (by simp [results, Tryz.results19, go_sem, e0, e1]) rfl ?_
  exact ⟨rfl, HF.out⟩

set_option maxHeartbeats 6400000 in
set_option maxRecDepth 1000000 in
theorem gcd_yes (w : World) (n1 n2 : Bool) (a1 a2 : Option Addr) (l1 l2 : List Nat) (m1 m2 c1 c2 : Nat) (hy1 : Lay .u32 w a1 l1) (hy2 : Lay .u32 w a2 l2) (hl1 : Lim l1) (hl2 : Lim l2) (hm1 : m1 = l1.length) (hm2 : m2 = l2.length) (hb1 : m1 ≤ 9223372036854775807) (hb2 : m2 ≤ 9223372036854775807) (hok : (mayB n1 l1 && mayB n2 l2) = true) :
    Calls Tryz.prog 19 #[.agg #[.bool n1, .slice a1 m1 c1], .agg #[.bool n2, .slice a2 m2 c2]] w fun e w' => Answer true w w' e (Nat.gcd (val l1) (val l2) : Nat) := by
  obtain ⟨r0, r1, r2, hW, hsz⟩ := rows3 w 24 (.bool n1) (.slice a1 m1 c1) (.bool n2) (.slice a2 m2 c2) (.bool false) (.slice none 0 0)
  obtain ⟨W, hWe⟩ : ∃ W, W = ((w.alloc (.cells #[.bool n1, .slice a1 m1 c1] 24)).alloc (.cells #[.bool n2, .slice a2 m2 c2] 24)).alloc (.cells #[.bool false, .slice none 0 0] 24) := ⟨_, rfl⟩
  rw [← hWe] at r0 r1 r2 hW hsz
  have HWe := Lib.hid hWe; clear hWe
  have hmay := fun h1 h2 h3 => large_may2 (W.alloc (.cells #[.bool n1, .slice a1 m1 c1, .bool n2, .slice a2 m2 c2] 24)) (w.heap.size + 1 + 1 + 1) n1 n2 a1 a2 l1 l2 m1 m2 c1 c2 h1 h2 h3 hl1 hl2 hm1 hm2 hb1 hb2
  have hmay' := hmay (by rw [← hsz]; exact row2slice _ _ _) ((hy1.below hW).below ((Below.refl _ _).alloc (Nat.le_refl _) _)) ((hy2.below hW).below ((Below.refl _ _).alloc (Nat.le_refl _) _))
  rw [hok] at hmay'
  have HM := Lib.hid hmay'; clear hmay hmay'
  have q0 := r0.cell_at 0
  have q1 := r0.cell_at 1
  have q2 := r1.cell_at 0
  have q3 := r1.cell_at 1
  simp only [List.getElem?_cons_zero, List.getElem?_cons_succ] at q0 q1 q2 q3
  rw [Bool.and_eq_true] at hok
  have t1 : m1 ≤ 1024 := by rw [hm1]; exact (mayB_int hl1 hok.1).2.2
  have t2 : m2 ≤ 1024 := by rw [hm2]; exact (mayB_int hl2 hok.2).2.2
  have L1 := Lib.hid (show (rep ((val l1 : Nat) : Int).natAbs).length ≤ 1048576 by rw [Int.natAbs_natCast]; exact Nat.le_trans (rep_val_le hl1) (by omega))
  have L2 := Lib.hid (show (rep ((val l2 : Nat) : Int).natAbs).length ≤ 1048576 by rw [Int.natAbs_natCast]; exact Nat.le_trans (rep_val_le hl2) (by omega))
  obtain ⟨z, hz⟩ : ∃ z : Int, z = (Nat.gcd (val l1) (val l2) : Nat) := ⟨_, rfl⟩
  have LZ := Lib.hid (show (rep z.natAbs).length ≤ 68719476736 by
    rw [hz, Int.natAbs_natCast]
    rcases Nat.eq_zero_or_pos (val l1) with h | h
    · rw [h, Nat.gcd_zero_left]; exact Nat.le_trans (rep_val_le hl2) (by omega)
    · exact Nat.le_trans (rep_mono (Nat.gcd_le_left _ h)) (Nat.le_trans (rep_val_le hl1) (by omega)))
  rw [← hz]
  have HZ := Lib.hid hz
  have M1 := Lib.hid hm1
  have M2 := Lib.hid hm2
  have L1m := Lib.hid hl1
  have L2m := Lib.hid hl2
  have M1b := Lib.hid (show m1 ≤ 68719476736 by omega)
  have M2b := Lib.hid (show m2 ≤ 68719476736 by omega)
  clear hz hok t1 t2 hb1 hb2 hm1 hm2 hl1 hl2
  go_enter Tryz.func19, Tryz.ntmps19
  go_wp2_with fail
  rw [← HWe.out]
  refine HM.out.mono ?_
  rintro e w1 ⟨rfl, hbw⟩
  have hbw' := below_over hbw
  have hB1 : Below w.heap.size w w1 := hW.trans (hbw'.mono hW.size)
  have hR := r2.below hbw' r2.lt
  have hsz1 := hbw'.size
  have s0 := r0.below hbw' r0.lt
  have s1 := r1.below hbw' r1.lt
  have f0 := s0.free 0
  have f1 := s1.free 0
  have z0 := s0.cell_at 0
  have z1 := s1.cell_at 0
  simp only [List.getElem?_cons_zero, List.getElem?_cons_succ] at z0 z1
  have t0 := (s0.store_any 0 (.bool false)).other (a := ⟨w.heap.size + 1, 0, none⟩) (by simp <;> omega) (.bool false)
  have t1 := (s1.other (a := ⟨w.heap.size, 0, none⟩) (by simp <;> omega) (.bool false)).store_any 0 (.bool false)
  have r2V := (hR.other (a := ⟨w.heap.size, 0, none⟩) (by simp <;> omega) (.bool false)).other (a := ⟨w.heap.size + 1, 0, none⟩) (by simp <;> omega) (.bool false)
  have hBV := below_store (below_store hB1 (g := w.heap.size) (i := 0) (by omega) (.bool false)) (g := w.heap.size + 1) (i := 0) (by omega) (.bool false)
  have z1' := (s1.other (a := ⟨w.heap.size, 0, none⟩) (by simp <;> omega) (.bool false)).cell_at 0
  have f1' := (s1.other (a := ⟨w.heap.size, 0, none⟩) (by simp <;> omega) (.bool false)).free 0
  simp only [List.getElem?_cons_zero, List.getElem?_cons_succ] at z1'
  go_upto_region 4 with fail
  obtain ⟨V, hV⟩ : ∃ V, V = (w1.setCell ⟨w.heap.size, 0, none⟩ (.bool false)).setCell ⟨w.heap.size + 1, 0, none⟩ (.bool false) := ⟨_, rfl⟩
  rw [← hV] at t0 t1 r2V hBV ⊢
  have hVs : w.heap.size + 1 + 1 ≤ V.heap.size := Nat.le_of_lt r2V.lt
  have Y1 := Lib.hid (hy1.below hBV)
  have Y2 := Lib.hid (hy2.below hBV)
  have HR0 := Lib.hid (fun X (h : Below (w.heap.size + 1 + 1) V X) => (show X.cell? ⟨w.heap.size, 0, none⟩ = some (.bool false) ∧ X.cell? ⟨w.heap.size, 1, none⟩ = some (.slice a1 m1 c1) from ⟨(t0.below h (by omega)).cell_at 0, (t0.below h (by omega)).cell_at 1⟩))
  have HR1 := Lib.hid (fun X (h : Below (w.heap.size + 1 + 1) V X) => (show X.cell? ⟨w.heap.size + 1, 0, none⟩ = some (.bool false) ∧ X.cell? ⟨w.heap.size + 1, 1, none⟩ = some (.slice a2 m2 c2) from ⟨(t1.below h (by omega)).cell_at 0, (t1.below h (by omega)).cell_at 1⟩))
  clear hV t0 t1 f0 f1 z0 z1 s0 s1 z1' f1' hR hB1 hsz1 hbw hbw' q0 q1 q2 q3 r0 r1 r2 hy1 hy2 hW hsz HM HWe
  have hA : At V V.drew [] := (At.refl V).drew
  have hX := hA.below.mono hVs
  refine wp_region_held (S := fun X => Below (w.heap.size + 1 + 1) V X) (by kernel_rfl) ?_
  refine wpAnyH_take_at (i := 1) (v := .agg #[.bool false, .slice a1 m1 c1]) 15 rfl rfl (by kernel_rfl) (by kernel_rfl) (by kernel_rfl) (fun _ _ _ h => h) (.inl ⟨rfl, fun X hX => by obtain ⟨i0, i1⟩ := HR0.out X hX; go_simp⟩) hX ?_
  simp only [Act.put, List.setIfInBounds_toArray, List.set_cons_zero, List.set_cons_succ]
  refine wpAnyH_take_at (i := 3) (v := .agg #[.bool false, .slice a2 m2 c2]) 17 rfl rfl (by kernel_rfl) (by kernel_rfl) (by kernel_rfl) (fun _ _ _ h => h) (.inl ⟨rfl, fun X hX => by obtain ⟨i0, i1⟩ := HR1.out X hX; go_simp⟩) hX ?_
  simp only [Act.put, List.setIfInBounds_toArray, List.set_cons_zero, List.set_cons_succ]
  refine wpAnyH_all (rs := [0, 2]) (by kernel_rfl) (by decide) (fun i hi => ?_)
  simp only [List.mem_cons, List.not_mem_nil, or_false] at hi
  rcases hi with rfl | rfl
  · refine wpOp_alloc_big (o := _) rfl rfl rfl (fun X1 g0 rg0 hb hg0 hlt => ?_)
    clear hlt
    replace hA := hA.cons hb hg0 rg0
    clear rg0 hb hg0
    have hX := hA.below.mono hVs
    refine ⟨hX, ?_⟩
    simp only [Act.put, List.setIfInBounds_toArray, List.set_cons_zero, List.set_cons_succ]
    refine wpAnyH_all (rs := [2]) (by kernel_rfl) (by decide) (fun i hi => ?_)
    rw [List.mem_singleton] at hi
    subst hi
    unfold wpOp
    go_simp
    refine .inl ((at_wide hA false a1 l1 m1 c1 Y1.out L1m.out M1.out M1b.out).mono ?_)
    rintro e X2 ⟨p1, rfl, hA⟩
    have hX := hA.below.mono hVs
    rw [show signed false (val l1) = ((val l1 : Nat) : Int) from rfl] at hA
    refine ⟨hX, ?_⟩
    refine wpAnyH_all (rs := [4]) (by kernel_rfl) (by decide) (fun i hi => ?_)
    rw [List.mem_singleton] at hi
    subst hi
    unfold wpOp
    go_simp
    refine .inl ((at_wide hA false a2 l2 m2 c2 Y2.out L2m.out M2.out M2b.out).mono ?_)
    rintro e X3 ⟨p2, rfl, hA⟩
    have hX := hA.below.mono hVs
    rw [show signed false (val l2) = ((val l2 : Nat) : Int) from rfl] at hA
    refine ⟨hX, ?_⟩
    refine wpAnyH_all (rs := [5]) (by kernel_rfl) (by decide) (fun i hi => ?_)
    rw [List.mem_singleton] at hi
    subst hi
    unfold wpOp
    go_simp
    refine .inl ((at_gcd hA (.tail _ (.tail _ (.head _))) (.tail _ (.head _)) (.head _) (by intro hnd; simp at hnd; omega) L1.out L2.out).mono ?_)
    rintro e X4 ⟨rfl, hA⟩
    have hX := hA.below.mono hVs
    rw [Int.natAbs_natCast, Int.natAbs_natCast, ← HZ.out] at hA
    refine ⟨hX, ?_⟩
    refine wpAnyH_all (rs := [6]) (by kernel_rfl) (by decide) (fun i hi => ?_)
    rw [List.mem_singleton] at hi
    subst hi
    unfold wpOp
    go_simp
    refine .inl ((at_narrow_shape hA (mem_upd z (.tail _ (.tail _ (.head _)))) LZ.out).mono ?_)
    rintro e X5 ⟨⟨b', a', n', c', k', rfl, hnext⟩, hA⟩
    have hX := hA.below.mono hVs
    have HN := Lib.hid hnext
    clear hnext
    refine ⟨hX, ?_⟩
    refine wpAnyH_take_at (i := 7) (v := .agg #[.bool b', .slice a' n' c']) 21 rfl rfl (by kernel_rfl) (by kernel_rfl) (by kernel_rfl) (fun _ _ _ h => h) (.inl ⟨rfl, fun X hX => by go_simp⟩) hX ?_
    simp only [Act.put, List.setIfInBounds_toArray, List.set_cons_zero, List.set_cons_succ]
    refine wpAnyH_take_at (i := 8) (v := .int .i64 k') 22 rfl rfl (by kernel_rfl) (by kernel_rfl) (by kernel_rfl) (fun _ _ _ h => h) (.inl ⟨rfl, fun X hX => by go_simp⟩) hX ?_
    simp only [Act.put, List.setIfInBounds_toArray, List.set_cons_zero, List.set_cons_succ]
    refine wpAnyH_all (rs := [9]) (by kernel_rfl) (by decide) (fun i hi => ?_)
    rw [List.mem_singleton] at hi
    subst hi
    have hRV := r2V.below hA.below r2V.lt
    have hB5 := hBV.trans (hA.below.mono hBV.size)
    have k0 := hRV.cell_at 0
    have k1 := hRV.cell_at 1
    have k2 := hRV.free 0
    have k3 := hRV.free 1
    simp only [List.getElem?_cons_zero, List.getElem?_cons_succ] at k0 k1
    have e0 : (X5.setCell ⟨w.heap.size + 1 + 1, 0, none⟩ (.bool b')).cell? ⟨w.heap.size + 1 + 1, 0, none⟩ = some (.bool b') := (hRV.store_any 0 _).cell_at 0
    have e1 : ((X5.setCell ⟨w.heap.size + 1 + 1, 0, none⟩ (.bool b')).setCell ⟨w.heap.size + 1 + 1, 1, none⟩ (.slice a' n' c')).cell? ⟨w.heap.size + 1 + 1, 1, none⟩ = some (.slice a' n' c') := ((hRV.store_any 0 _).store_any 1 _).cell_at 1
    have HF := Lib.hid (below_store (below_store hB5 (g := w.heap.size + 1 + 1) (i := 0) (by omega) (.bool b')) (g := w.heap.size + 1 + 1) (i := 1) (by omega) (.slice a' n' c'))
    have HP := Lib.hid (fun l (hl : Lay .u32 X5 a' l) => hl.pair hRV (.bool b') (.slice a' n' c'))
    clear hRV hB5 hA r2V hBV
    unfold wpOp
    go_simp
    replace hX := below_store (below_store hX (g := w.heap.size + 1 + 1) (i := 0) (by omega) (.bool b')) (g := w.heap.size + 1 + 1) (i := 1) (by omega) (.slice a' n' c')
    refine .inl ⟨hX, ?_⟩
    refine wpAnyH_take_at (i := 10) (v := .int .i64 k') 5 rfl rfl (by kernel_rfl) (by kernel_rfl) (by kernel_rfl) (fun _ _ _ h => h) (.inl ⟨rfl, fun X hX => by go_simp⟩) hX ?_
    simp only [Act.put, List.setIfInBounds_toArray, List.set_cons_zero, List.set_cons_succ]
    refine wpAnyH_done (by kernel_rfl) ?_ _
    go_wp2
    (try simp only [Exit.inBlock, Exit.then])
    refine bodyPost_ret (v := .tuple #[.agg #[.bool b', .slice a' n' c'], .int .i64 k']) (by simp [results, Tryz.results19, go_sem, e0, e1]) rfl ?_
    exact HN.out _ _ HF.out HP.out
  · unfold wpOp
    go_simp
    refine .inl ((at_wide hA false a1 l1 m1 c1 Y1.out L1m.out M1.out M1b.out).mono ?_)
    rintro e X7 ⟨p1, rfl, hA⟩
    have hX := hA.below.mono hVs
    rw [show signed false (val l1) = ((val l1 : Nat) : Int) from rfl] at hA
    refine ⟨hX, ?_⟩
    refine wpAnyH_all (rs := [0, 4]) (by kernel_rfl) (by decide) (fun i hi => ?_)
    simp only [List.mem_cons, List.not_mem_nil, or_false] at hi
    rcases hi with rfl | rfl
    · refine wpOp_alloc_big (o := _) rfl rfl rfl (fun X8 g0 rg0 hb hg0 hlt => ?_)
      clear hlt
      replace hA := hA.cons hb hg0 rg0
      clear rg0 hb hg0
      have hX := hA.below.mono hVs
      refine ⟨hX, ?_⟩
      simp only [Act.put, List.setIfInBounds_toArray, List.set_cons_zero, List.set_cons_succ]
      refine wpAnyH_all (rs := [4]) (by kernel_rfl) (by decide) (fun i hi => ?_)
      rw [List.mem_singleton] at hi
      subst hi
      unfold wpOp
      go_simp
      refine .inl ((at_wide hA false a2 l2 m2 c2 Y2.out L2m.out M2.out M2b.out).mono ?_)
      rintro e X9 ⟨p2, rfl, hA⟩
      have hX := hA.below.mono hVs
      rw [show signed false (val l2) = ((val l2 : Nat) : Int) from rfl] at hA
      refine ⟨hX, ?_⟩
      refine wpAnyH_all (rs := [5]) (by kernel_rfl) (by decide) (fun i hi => ?_)
      rw [List.mem_singleton] at hi
      subst hi
      unfold wpOp
      go_simp
      refine .inl ((at_gcd hA (.tail _ (.head _)) (.tail _ (.tail _ (.head _))) (.head _) (by intro hnd; simp at hnd; omega) L1.out L2.out).mono ?_)
      rintro e X10 ⟨rfl, hA⟩
      have hX := hA.below.mono hVs
      rw [Int.natAbs_natCast, Int.natAbs_natCast, ← HZ.out] at hA
      refine ⟨hX, ?_⟩
      refine wpAnyH_all (rs := [6]) (by kernel_rfl) (by decide) (fun i hi => ?_)
      rw [List.mem_singleton] at hi
      subst hi
      unfold wpOp
      go_simp
      refine .inl ((at_narrow_shape hA (mem_upd z (.tail _ (.head _))) LZ.out).mono ?_)
      rintro e X11 ⟨⟨b', a', n', c', k', rfl, hnext⟩, hA⟩
      have hX := hA.below.mono hVs
      have HN := Lib.hid hnext
      clear hnext
      refine ⟨hX, ?_⟩
      refine wpAnyH_take_at (i := 7) (v := .agg #[.bool b', .slice a' n' c']) 21 rfl rfl (by kernel_rfl) (by kernel_rfl) (by kernel_rfl) (fun _ _ _ h => h) (.inl ⟨rfl, fun X hX => by go_simp⟩) hX ?_
      simp only [Act.put, List.setIfInBounds_toArray, List.set_cons_zero, List.set_cons_succ]
      refine wpAnyH_take_at (i := 8) (v := .int .i64 k') 22 rfl rfl (by kernel_rfl) (by kernel_rfl) (by kernel_rfl) (fun _ _ _ h => h) (.inl ⟨rfl, fun X hX => by go_simp⟩) hX ?_
      simp only [Act.put, List.setIfInBounds_toArray, List.set_cons_zero, List.set_cons_succ]
      refine wpAnyH_all (rs := [9]) (by kernel_rfl) (by decide) (fun i hi => ?_)
      rw [List.mem_singleton] at hi
      subst hi
      have hRV := r2V.below hA.below r2V.lt
      have hB5 := hBV.trans (hA.below.mono hBV.size)
      have k0 := hRV.cell_at 0
      have k1 := hRV.cell_at 1
      have k2 := hRV.free 0
      have k3 := hRV.free 1
      simp only [List.getElem?_cons_zero, List.getElem?_cons_succ] at k0 k1
      have e0 : (X11.setCell ⟨w.heap.size + 1 + 1, 0, none⟩ (.bool b')).cell? ⟨w.heap.size + 1 + 1, 0, none⟩ = some (.bool b') := (hRV.store_any 0 _).cell_at 0
      have e1 : ((X11.setCell ⟨w.heap.size + 1 + 1, 0, none⟩ (.bool b')).setCell ⟨w.heap.size + 1 + 1, 1, none⟩ (.slice a' n' c')).cell? ⟨w.heap.size + 1 + 1, 1, none⟩ = some (.slice a' n' c') := ((hRV.store_any 0 _).store_any 1 _).cell_at 1
      have HF := Lib.hid (below_store (below_store hB5 (g := w.heap.size + 1 + 1) (i := 0) (by omega) (.bool b')) (g := w.heap.size + 1 + 1) (i := 1) (by omega) (.slice a' n' c'))
      have HP := Lib.hid (fun l (hl : Lay .u32 X11 a' l) => hl.pair hRV (.bool b') (.slice a' n' c'))
      clear hRV hB5 hA r2V hBV
      unfold wpOp
      go_simp
      replace hX := below_store (below_store hX (g := w.heap.size + 1 + 1) (i := 0) (by omega) (.bool b')) (g := w.heap.size + 1 + 1) (i := 1) (by omega) (.slice a' n' c')
      refine .inl ⟨hX, ?_⟩
      refine wpAnyH_take_at (i := 10) (v := .int .i64 k') 5 rfl rfl (by kernel_rfl) (by kernel_rfl) (by kernel_rfl) (fun _ _ _ h => h) (.inl ⟨rfl, fun X hX => by go_simp⟩) hX ?_
      simp only [Act.put, List.setIfInBounds_toArray, List.set_cons_zero, List.set_cons_succ]
      refine wpAnyH_done (by kernel_rfl) ?_ _
      go_wp2
      (try simp only [Exit.inBlock, Exit.then])
      refine bodyPost_ret (v := .tuple #[.agg #[.bool b', .slice a' n' c'], .int .i64 k']) (by simp [results, Tryz.results19, go_sem, e0, e1]) rfl ?_
      exact HN.out _ _ HF.out HP.out
    · unfold wpOp
      go_simp
      refine .inl ((at_wide hA false a2 l2 m2 c2 Y2.out L2m.out M2.out M2b.out).mono ?_)
      rintro e X13 ⟨p2, rfl, hA⟩
      have hX := hA.below.mono hVs
      rw [show signed false (val l2) = ((val l2 : Nat) : Int) from rfl] at hA
      refine ⟨hX, ?_⟩
      refine wpAnyH_all (rs := [0]) (by kernel_rfl) (by decide) (fun i hi => ?_)
      rw [List.mem_singleton] at hi
      subst hi
      refine wpOp_alloc_big (o := _) rfl rfl rfl (fun X14 g0 rg0 hb hg0 hlt => ?_)
      clear hlt
      replace hA := hA.cons hb hg0 rg0
      clear rg0 hb hg0
      have hX := hA.below.mono hVs
      refine ⟨hX, ?_⟩
      simp only [Act.put, List.setIfInBounds_toArray, List.set_cons_zero, List.set_cons_succ]
      refine wpAnyH_all (rs := [5]) (by kernel_rfl) (by decide) (fun i hi => ?_)
      rw [List.mem_singleton] at hi
      subst hi
      unfold wpOp
      go_simp
      refine .inl ((at_gcd hA (.head _) (.tail _ (.tail _ (.head _))) (.tail _ (.head _)) (by intro hnd; simp at hnd; omega) L1.out L2.out).mono ?_)
      rintro e X15 ⟨rfl, hA⟩
      have hX := hA.below.mono hVs
      rw [Int.natAbs_natCast, Int.natAbs_natCast, ← HZ.out] at hA
      refine ⟨hX, ?_⟩
      refine wpAnyH_all (rs := [6]) (by kernel_rfl) (by decide) (fun i hi => ?_)
      rw [List.mem_singleton] at hi
      subst hi
      unfold wpOp
      go_simp
      refine .inl ((at_narrow_shape hA (mem_upd z (.head _)) LZ.out).mono ?_)
      rintro e X16 ⟨⟨b', a', n', c', k', rfl, hnext⟩, hA⟩
      have hX := hA.below.mono hVs
      have HN := Lib.hid hnext
      clear hnext
      refine ⟨hX, ?_⟩
      refine wpAnyH_take_at (i := 7) (v := .agg #[.bool b', .slice a' n' c']) 21 rfl rfl (by kernel_rfl) (by kernel_rfl) (by kernel_rfl) (fun _ _ _ h => h) (.inl ⟨rfl, fun X hX => by go_simp⟩) hX ?_
      simp only [Act.put, List.setIfInBounds_toArray, List.set_cons_zero, List.set_cons_succ]
      refine wpAnyH_take_at (i := 8) (v := .int .i64 k') 22 rfl rfl (by kernel_rfl) (by kernel_rfl) (by kernel_rfl) (fun _ _ _ h => h) (.inl ⟨rfl, fun X hX => by go_simp⟩) hX ?_
      simp only [Act.put, List.setIfInBounds_toArray, List.set_cons_zero, List.set_cons_succ]
      refine wpAnyH_all (rs := [9]) (by kernel_rfl) (by decide) (fun i hi => ?_)
      rw [List.mem_singleton] at hi
      subst hi
      have hRV := r2V.below hA.below r2V.lt
      have hB5 := hBV.trans (hA.below.mono hBV.size)
      have k0 := hRV.cell_at 0
      have k1 := hRV.cell_at 1
      have k2 := hRV.free 0
      have k3 := hRV.free 1
      simp only [List.getElem?_cons_zero, List.getElem?_cons_succ] at k0 k1
      have e0 : (X16.setCell ⟨w.heap.size + 1 + 1, 0, none⟩ (.bool b')).cell? ⟨w.heap.size + 1 + 1, 0, none⟩ = some (.bool b') := (hRV.store_any 0 _).cell_at 0
      have e1 : ((X16.setCell ⟨w.heap.size + 1 + 1, 0, none⟩ (.bool b')).setCell ⟨w.heap.size + 1 + 1, 1, none⟩ (.slice a' n' c')).cell? ⟨w.heap.size + 1 + 1, 1, none⟩ = some (.slice a' n' c') := ((hRV.store_any 0 _).store_any 1 _).cell_at 1
      have HF := Lib.hid (below_store (below_store hB5 (g := w.heap.size + 1 + 1) (i := 0) (by omega) (.bool b')) (g := w.heap.size + 1 + 1) (i := 1) (by omega) (.slice a' n' c'))
      have HP := Lib.hid (fun l (hl : Lay .u32 X16 a' l) => hl.pair hRV (.bool b') (.slice a' n' c'))
      clear hRV hB5 hA r2V hBV
      unfold wpOp
      go_simp
      replace hX := below_store (below_store hX (g := w.heap.size + 1 + 1) (i := 0) (by omega) (.bool b')) (g := w.heap.size + 1 + 1) (i := 1) (by omega) (.slice a' n' c')
      refine .inl ⟨hX, ?_⟩
      refine wpAnyH_take_at (i := 10) (v := .int .i64 k') 5 rfl rfl (by kernel_rfl) (by kernel_rfl) (by kernel_rfl) (fun _ _ _ h => h) (.inl ⟨rfl, fun X hX => by go_simp⟩) hX ?_
      simp only [Act.put, List.setIfInBounds_toArray, List.set_cons_zero, List.set_cons_succ]
      refine wpAnyH_done (by kernel_rfl) ?_ _
      go_wp2
      (try simp only [Exit.inBlock, Exit.then])
      refine bodyPost_ret (v := .tuple #[.agg #[.bool b', .slice a' n' c'], .int .i64 k']) (by simp [results, Tryz.results19, go_sem, e0, e1]) rfl ?_
      exact HN.out _ _ HF.out HP.out

end Go.Proofs.YtbffpkmfhkphdaaGreatDoor
