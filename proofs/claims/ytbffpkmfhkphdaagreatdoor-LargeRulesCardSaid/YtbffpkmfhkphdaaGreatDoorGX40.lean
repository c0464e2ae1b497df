/- The walk of the reference's Div. The walk of the reference's complement. -/
import Derived.Test.YtbffpkmfhkphdaaGreatDoorGX38
import Derived.Test.YtbffpkmfhkphdaaGreatDoorGX00
import Derived.Test.YtbffpkmfhkphdaaGreatDoorGX03
import Derived.Test.YtbffpkmfhkphdaaGreatDoorGX17
import Derived.Test.YtbffpkmfhkphdaaGreatDoorRefPowerC
import Derived.Test.YtbffpkmfhkphdaaGreatDoorGX27
import Derived.Laws.CopyOwn
set_option linter.unusedVariables false
set_option linter.unusedSimpArgs false
namespace Go.Proofs.YtbffpkmfhkphdaaGreatDoor
open Go Go.RowKit Limb

theorem ApiV.parts {V : World} {b : Bool} {a : Option Addr} {n c : Nat} {z : Int} (h : ApiV V (.agg #[.bool b, .slice a n c]) z) : b = decide (z < 0) ∧ n = (rep z.natAbs).length ∧ n ≤ c ∧ Lay .u32 V a (rep z.natAbs) := by
  obtain ⟨a', c', e, h2, h3⟩ := h
  simp only [Value.agg.injEq, List.toArray_inj, List.cons.injEq, Array.mk.injEq, Value.bool.injEq, Value.slice.injEq, and_true] at e
  obtain ⟨rfl, rfl, rfl, rfl⟩ := e
  exact ⟨rfl, rfl, h2, h3⟩

theorem pair2_row {X U : World} {g g' h : Nat} {t : TypeId} {cs : List Value} {u0 u1 v0 v1 : Value} (hU : U = (((X.setCell ⟨g, 0, none⟩ u0).setCell ⟨g, 1, none⟩ u1).setCell ⟨g', 0, none⟩ v0).setCell ⟨g', 1, none⟩ v1) (hr : Row X h t cs) (h1 : h ≠ g) (h2 : h ≠ g') : Row U h t cs := by
  rw [hU]; exact (((hr.other (by exact h1) _).other (by exact h1) _).other (by exact h2) _).other (by exact h2) _

/-- Two pairs of cells and a third. -/
def Six (k g : Nat) (bq : Bool) (aq : Option Addr) (nq cq : Nat) (br : Bool) (ar : Option Addr) (nr cr : Nat) (s2 : Bool) (a2 : Option Addr) (n2 c2 : Nat) (X : World) : Prop :=
  X.cell? ⟨k, 0, none⟩ = some (.bool bq) ∧ X.cell? ⟨k, 1, none⟩ = some (.slice aq nq cq) ∧ X.cell? ⟨k + 1, 0, none⟩ = some (.bool br) ∧ X.cell? ⟨k + 1, 1, none⟩ = some (.slice ar nr cr) ∧ X.cell? ⟨g, 0, none⟩ = some (.bool s2) ∧ X.cell? ⟨g, 1, none⟩ = some (.slice a2 n2 c2)

set_option maxHeartbeats 1600000 in
set_option maxRecDepth 1000000 in
theorem ref_div (w : World) (v1 v2 : Value) (x y : Int) (h1 : ApiV w v1 x) (h2 : ApiV w v2 y) (lx : (rep x.natAbs).length ≤ 1048576) (ly : (rep y.natAbs).length ≤ 1048576) (hy : y ≠ 0) :
    Calls Tryz.prog 77 #[v1, v2] w fun e w' => QuoRes w w' e (x.fdiv y) (x.fmod y) := by
  have h1' := h1
  have h2' := h2
  obtain ⟨a1, c1, rfl, hc1, hl1⟩ := h1
  obtain ⟨a2, c2, rfl, hc2, hl2⟩ := h2
  obtain ⟨n1, hn1⟩ : ∃ n, n = (rep x.natAbs).length := ⟨_, rfl⟩
  obtain ⟨n2, hn2⟩ : ∃ n, n = (rep y.natAbs).length := ⟨_, rfl⟩
  obtain ⟨s1, hs1⟩ : ∃ s, s = decide (x < 0) := ⟨_, rfl⟩
  obtain ⟨s2, hs2⟩ : ∃ s, s = decide (y < 0) := ⟨_, rfl⟩
  rw [← hs1, ← hn1] at h1' ⊢
  rw [← hs2, ← hn2] at h2' ⊢
  obtain ⟨W, hWe, r0, r1, r2, r3, hW, hsz⟩ := rows4 w 24 (.bool s1) (.slice a1 n1 c1) (.bool s2) (.slice a2 n2 c2) (.bool false) (.slice none 0 0) (.bool false) (.slice none 0 0)
  have HWe := Lib.hid hWe; clear hWe
  have hQ := ref_quo W _ _ x y (h1'.below hW) (h2'.below hW) (by omega) (by omega) hy
  obtain ⟨q, hqv⟩ : ∃ q, q = x.tdiv y := ⟨_, rfl⟩
  obtain ⟨r, hrv⟩ : ∃ r, r = x.tmod y := ⟨_, rfl⟩
  have lq : (rep q.natAbs).length ≤ 1048576 := by rw [hqv, Int.natAbs_tdiv]; exact Nat.le_trans (rep_mono (Nat.div_le_self _ _)) (by omega)
  have lr : (rep r.natAbs).length ≤ 1048576 := by rw [hrv, Int.natAbs_tmod]; exact Nat.le_trans (rep_mono (Nat.mod_le _ _)) (by omega)
  rw [← hqv, ← hrv] at hQ
  have HQ := Lib.hid hQ; clear hQ
  have c0 := r0.cell_at 0
  have c01 := r0.cell_at 1
  have c10 := r1.cell_at 0
  have c11 := r1.cell_at 1
  simp only [List.getElem?_cons_zero, List.getElem?_cons_succ] at c0 c01 c10 c11
  have Hn1 := Lib.hid hn1; clear hn1
  have Hn2 := Lib.hid hn2; clear hn2
  have Hs1 := Lib.hid hs1; clear hs1
  have Hs2 := Lib.hid hs2; clear hs2
  have Hqv := Lib.hid hqv; clear hqv
  have Hrv := Lib.hid hrv; clear hrv
  go_enter Tryz.func77, Tryz.ntmps77
  go_wp2_with fail
  rw [← HWe.out]
  refine HQ.out.mono ?_
  rintro e V ⟨bq, aq, nq, cq, br, ar, nr, cr, rfl, huq, hur, hb⟩
  clear c0 c01 c10 c11
  have hWV : Below w.heap.size w V := hW.trans (hb.mono hW.size)
  have hszV := hb.size
  obtain ⟨eb1, en1, hcq, hlq⟩ := huq.parts
  obtain ⟨eb2, en2, hcr, hlr⟩ := hur.parts
  obtain ⟨k, hk⟩ : ∃ k, k = V.heap.size := ⟨_, rfl⟩
  obtain ⟨U, hU⟩ : ∃ U, U = (V.alloc (.cells #[.bool bq, .slice aq nq cq] 24)).alloc (.cells #[.bool br, .slice ar nr cr] 24) := ⟨_, rfl⟩
  have hVU : Below V.heap.size V U := by rw [hU]; exact ((Below.refl _ _).alloc (Nat.le_refl _) _).alloc (by rw [World.size_alloc]; omega) _
  have hWU : Below w.heap.size w U := hWV.trans (hVU.mono hWV.size)
  have hbU := hb.trans (hVU.mono hb.size)
  have u0 := r0.below hbU r0.lt
  have u1 := r1.below hbU r1.lt
  have u2 := r2.below hbU r2.lt
  have u3 := r3.below hbU r3.lt
  have u6 : Row U k 24 [.bool bq, .slice aq nq cq] := by rw [hU, hk]; apply Row.alloc; unfold Row; exact heap_alloc_new _ _
  have u7 : Row U (k + 1) 24 [.bool br, .slice ar nr cr] := by
    have h := heap_alloc_new (V.alloc (.cells #[.bool bq, .slice aq nq cq] 24)) (.cells #[.bool br, .slice ar nr cr] 24)
    rw [World.size_alloc, ← hk] at h
    rw [hU]; exact h
  have hk4 : w.heap.size + 1 + 1 + 1 < k := by omega
  have HU := Lib.hid hU; clear hU
  have Hk := Lib.hid hk; clear hk
  have k10 := u1.cell_at 0
  have k11 := u1.cell_at 1
  have k60 := u6.cell_at 0
  have k61 := u6.cell_at 1
  have k70 := u7.cell_at 0
  have k71 := u7.cell_at 1
  have k40 := u2.cell_at 0
  have k41 := u2.cell_at 1
  have k50 := u3.cell_at 0
  have k51 := u3.cell_at 1
  have f40 := u2.free 0
  have f41 := u2.free 1
  have f50 := u3.free 0
  have f51 := u3.free 1
  simp only [List.getElem?_cons_zero, List.getElem?_cons_succ] at k10 k11 k60 k61 k70 k71 k40 k41 k50 k51
  have k10' := k10
  rw [HU.out] at k10'
  have m46 : w.heap.size + 1 + 1 ≠ k := by omega
  have m47 : w.heap.size + 1 + 1 ≠ k + 1 := by omega
  have m56 : w.heap.size + 1 + 1 + 1 ≠ k := by omega
  have m57 : w.heap.size + 1 + 1 + 1 ≠ k + 1 := by omega
  have m64 : k ≠ w.heap.size + 1 + 1 := by omega
  have m74 : k + 1 ≠ w.heap.size + 1 + 1 := by omega
  have m65 : k ≠ w.heap.size + 1 + 1 + 1 := by omega
  have m75 : k + 1 ≠ w.heap.size + 1 + 1 + 1 := by omega
  obtain ⟨fix1, fix2⟩ := floor_fix (x := x) hy
  rw [← Hrv.out, ← Hqv.out] at fix1 fix2
  by_cases hfix : r ≠ 0 ∧ br ≠ s2
  · obtain ⟨hr0, hbr⟩ := hfix
    have hd : Hid (x.fdiv y = q - 1 ∧ x.fmod y = r + y) := Lib.hid (fix1 (by rw [Ne, sgnI_zero]; exact hr0) (by
      rw [Ne, sgnI_eq]
      rw [eb2, Hs2.out, Ne, decide_eq_decide] at hbr
      exact fun h => hbr h.1))
    have d1 : decide (0 < nr) = true := by rw [decide_eq_true_eq, en2]; have := rep_length_zero (n := r.natAbs); omega
    have hbs : (br != s2) = true := by rw [bne_iff_ne]; exact hbr
    have hbs2 : (br == s2) = false := by rw [beq_eq_false_iff_ne]; exact hbr
    have huqU := huq.below hVU
    have hurU := hur.below hVU
    have huyU := h2'.below hWU
    have HOf := Lib.hid (fun X (h : Below U.heap.size U X) => (ref_of X 1 (by decide) (by decide)).mono fun e X' he => show (∃ b a n c, e = .returned (.agg #[.bool b, .slice a n c]) ∧ ApiV X' (.agg #[.bool b, .slice a n c]) 1) ∧ Below U.heap.size U X' from by
      obtain ⟨u, rfl, hu, hb⟩ := he
      obtain ⟨a, c, rfl, _⟩ := id hu
      exact ⟨⟨_, _, _, _, rfl, hu⟩, h.trans (hb.mono h.size)⟩)
    have HSu := Lib.hid (fun X b a n c (hv : ApiV X (.agg #[.bool b, .slice a n c]) 1) (h : Below U.heap.size U X) => (ref_sub X _ _ q 1 (huqU.below h) hv (by omega) (by decide)).mono fun e X' he => show (∃ b a n c, e = .returned (.agg #[.bool b, .slice a n c]) ∧ ApiV X' (.agg #[.bool b, .slice a n c]) (q - 1)) ∧ Below U.heap.size U X' from by
      obtain ⟨u, rfl, hu, hb⟩ := he
      obtain ⟨a, c, rfl, _⟩ := id hu
      exact ⟨⟨_, _, _, _, rfl, hu⟩, h.trans (hb.mono h.size)⟩)
    have HAd := Lib.hid (fun X (h : Below U.heap.size U X) => (ref_add X _ _ r y (hurU.below h) (huyU.below h) (by omega) (by omega)).mono fun e X' he => show (∃ b a n c, e = .returned (.agg #[.bool b, .slice a n c]) ∧ Hid (ApiV X' (.agg #[.bool b, .slice a n c]) (r + y) ∧ Below X.heap.size X X')) ∧ Below U.heap.size U X' from by
      obtain ⟨u, rfl, hu, hb⟩ := he
      obtain ⟨a, c, rfl, _⟩ := id hu
      exact ⟨⟨_, _, _, _, rfl, Lib.hid ⟨hu, hb⟩⟩, h.trans (hb.mono h.size)⟩)
    have hsix := fun X (h : Below U.heap.size U X) => show Six k (w.heap.size + 1) bq aq nq cq br ar nr cr s2 a2 n2 c2 X from
      ⟨(u6.below h u6.lt).cell_at 0, (u6.below h u6.lt).cell_at 1, (u7.below h u7.lt).cell_at 0, (u7.below h u7.lt).cell_at 1, (u1.below h u1.lt).cell_at 0, (u1.below h u1.lt).cell_at 1⟩
    have H6 := Lib.hid hsix; clear hsix
    have h0 : Below U.heap.size U U.drew := (Below.refl _ _).drew
    have hS := H6.out _ h0
    clear fix1 fix2 huq hur eb1 en1 eb2 en2 hr0 hbr huqU hurU huyU
    go_wp2_with fail
    rw [← HU.out, ← Hk.out]
    refine wp_region_S (n := 6) (S := Six k (w.heap.size + 1) bq aq nq cq br ar nr cr s2 a2 n2 c2) (by kernel_rfl) (by decide) (fun inv => ?_)
    refine wpAnyS_take_at (i := 0) (v := .agg #[.bool bq, .slice aq nq cq]) 25 inv rfl rfl (by kernel_rfl) (by kernel_rfl) (by kernel_rfl) (by decide) (by decide) (by kernel_rfl) (by kernel_rfl) (fun _ _ _ h => h) (.inl ⟨rfl, fun w hS => by obtain ⟨h0, h1, h2, h3, h4, h5⟩ := hS; go_simp⟩) hS (fun inv => ?_)
    simp only [Act.put, List.setIfInBounds_toArray, List.set_cons_zero, List.set_cons_succ]
    refine wpAnyS_take_at (i := 3) (v := .agg #[.bool br, .slice ar nr cr]) 28 inv rfl rfl (by kernel_rfl) (by kernel_rfl) (by kernel_rfl) (by decide) (by decide) (by kernel_rfl) (by kernel_rfl) (fun _ _ _ h => h) (.inl ⟨rfl, fun w hS => by obtain ⟨h0, h1, h2, h3, h4, h5⟩ := hS; go_simp⟩) hS (fun inv => ?_)
    simp only [Act.put, List.setIfInBounds_toArray, List.set_cons_zero, List.set_cons_succ]
    refine wpAnyS_take_at (i := 4) (v := .agg #[.bool s2, .slice a2 n2 c2]) 29 inv rfl rfl (by kernel_rfl) (by kernel_rfl) (by kernel_rfl) (by decide) (by decide) (by kernel_rfl) (by kernel_rfl) (fun _ _ _ h => h) (.inl ⟨rfl, fun w hS => by obtain ⟨h0, h1, h2, h3, h4, h5⟩ := hS; go_simp⟩) hS (fun inv => ?_)
    simp only [Act.put, List.setIfInBounds_toArray, List.set_cons_zero, List.set_cons_succ]
    refine wpAnyS_one (i := 1) inv (by decide) (by kernel_rfl) (fun inv => ?_)
    unfold wpOp
    go_simp
    refine .inl ((HOf.out _ h0).mono ?_)
    rintro e X1 ⟨⟨b1, b2, b3, b4, rfl, hone⟩, hX1⟩
    refine ⟨H6.out _ hX1, ?_⟩
    refine wpAnyS_one (i := 2) inv (by decide) (by kernel_rfl) (fun inv => ?_)
    unfold wpOp
    go_simp
    refine .inl ((HSu.out _ _ _ _ _ hone hX1).mono ?_)
    rintro e X2 ⟨⟨q1, q2, q3, q4, rfl, hq⟩, hX2⟩
    clear hone
    refine ⟨H6.out _ hX2, ?_⟩
    refine wpAnyS_one (i := 5) inv (by decide) (by kernel_rfl) (fun inv => ?_)
    unfold wpOp
    go_simp
    refine .inl ((HAd.out _ hX2).mono ?_)
    rintro e X3 ⟨⟨t1, t2, t3, t4, rfl, ht⟩, hX3⟩
    refine ⟨H6.out _ hX3, ?_⟩
    refine wpAnyS_tail (by decide) ?_
    have hWX := hWU.trans (hX3.mono hWU.size)
    have x2 := u2.below hX3 u2.lt
    have x3 := u3.below hX3 u3.lt
    have x6 := u6.below hX3 u6.lt
    have x7 := u7.below hX3 u7.lt
    obtain ⟨Y, hY, y0, y1, y2, y3, hBY, hlY⟩ := pair2 (.bool q1) (.slice q2 q3 q4) (.bool t1) (.slice t2 t3 t4) x6 x7 (by omega) hWX (by omega) (by omega)
    have z2 := pair2_row hY x2 m46 m47
    have z3 := pair2_row hY x3 m56 m57
    obtain ⟨U', hU', f0, f1, f2, f3, hBU, hlay⟩ := pair2 (.bool q1) (.slice q2 q3 q4) (.bool t1) (.slice t2 t3 t4) z2 z3 (by omega) hBY (by omega) (by omega)
    have HU' := Lib.hid hU'; clear hU'
    have HQ1 := Lib.hid (ApiV.to (ApiV.to (hq.below ht.out.2) hlY) hlay)
    have HR1 := Lib.hid (ApiV.to (ApiV.to ht.out.1 hlY) hlay)
    have HY := Lib.hid hY; clear hY
    clear k10 k11 k60 k61 k70 k71 k40 k41 k50 k51 f40 f41 f50 f51 hlY hlay hq ht
    have k60 := x6.cell_at 0
    have k61 := x6.cell_at 1
    have k70 := x7.cell_at 0
    have k71 := x7.cell_at 1
    have f60 := x6.free 0
    have f61 := x6.free 1
    have f70 := x7.free 0
    have f71 := x7.free 1
    have k40 := z2.cell_at 0
    have k41 := z2.cell_at 1
    have k50 := z3.cell_at 0
    have k51 := z3.cell_at 1
    have f40 := z2.free 0
    have f41 := z2.free 1
    have f50 := z3.free 0
    have f51 := z3.free 1
    simp only [List.getElem?_cons_zero, List.getElem?_cons_succ] at k60 k61 k70 k71 k40 k41 k50 k51
    clear u0 u1 u2 u3 u6 u7 x2 x3 x6 x7 z2 z3
    refine wpAny_one (i := 6) (by kernel_rfl) ?_
    unfold wpOp
    go_simp
    refine .inl (wpAny_one (i := 7) (by kernel_rfl) ?_)
    unfold wpOp
    go_simp
    refine .inl (wpAny_done (by kernel_rfl) ?_ _)
    rw [← HY.out]
    clear k60 k61 k70 k71 f60 f61 f70 f71
    go_wp2_with fail
    go_region
    all_goals
      go_wp2
      (try simp only [Exit.inBlock, Exit.then])
      rw [← HU'.out]
      refine bodyPost_ret (v := .tuple #[.agg #[.bool q1, .slice q2 q3 q4], .agg #[.bool t1, .slice t2 t3 t4]]) (by simp [results, Tryz.results77, go_sem, f0, f1, f2, f3]) rfl ?_
      rw [hd.out.1, hd.out.2]
      exact ⟨_, _, _, _, _, _, _, _, rfl, HQ1.out, HR1.out, hBU.drew⟩
  · have hd : Hid (x.fdiv y = q ∧ x.fmod y = r) := Lib.hid (fix2 (by
      rw [sgnI_zero, sgnI_eq]
      by_cases hr0 : r = 0
      · exact .inl hr0
      · right
        have hbs : br = s2 := by
          refine Classical.byContradiction (fun h => hfix ⟨hr0, h⟩)
        rw [eb2, Hs2.out, decide_eq_decide] at hbs
        exact ⟨hbs, by omega⟩))
    obtain ⟨U', hU', f0, f1, f2, f3, hBU, hlay⟩ := pair2 (.bool bq) (.slice aq nq cq) (.bool br) (.slice ar nr cr) u2 u3 (by omega) hWU (by omega) (by omega)
    have HU' := Lib.hid hU'; clear hU'
    have HQ1 := Lib.hid (ApiV.to (huq.below hVU) hlay)
    have HR1 := Lib.hid (ApiV.to (hur.below hVU) hlay)
    by_cases hn0 : nr = 0
    · have d1 : decide (0 < nr) = false := by rw [decide_eq_false_iff_not]; omega
      clear fix1 fix2 hlay huq hur hn0 eb1 en1 eb2 en2 hfix u0 u1 u2 u3 u6 u7
      go_wp2_with fail
      rw [← HU.out, ← Hk.out]
      go_region
      all_goals
        go_wp2
        (try simp only [Exit.inBlock, Exit.then])
        rw [← HU'.out]
        refine bodyPost_ret (v := .tuple #[.agg #[.bool bq, .slice aq nq cq], .agg #[.bool br, .slice ar nr cr]]) (by simp [results, Tryz.results77, go_sem, f0, f1, f2, f3]) rfl ?_
        rw [hd.out.1, hd.out.2]
        exact ⟨_, _, _, _, _, _, _, _, rfl, HQ1.out, HR1.out, hBU.drew⟩
    · have d1 : decide (0 < nr) = true := by rw [decide_eq_true_eq]; omega
      have hbs : br = s2 := by
        refine Classical.byContradiction (fun h => hfix ⟨fun e => hn0 (by rw [en2, e]; rfl), h⟩)
      subst hbs
      clear fix1 fix2 hlay huq hur hn0 eb1 en1 eb2 en2 hfix u0 u1 u2 u3 u6 u7
      go_wp2_with fail
      rw [← HU.out, ← Hk.out]
      go_region
      all_goals
        go_wp2
        (try simp only [Exit.inBlock, Exit.then])
        rw [← HU'.out]
        refine bodyPost_ret (v := .tuple #[.agg #[.bool bq, .slice aq nq cq], .agg #[.bool br, .slice ar nr cr]]) (by simp [results, Tryz.results77, go_sem, f0, f1, f2, f3]) rfl ?_
        rw [hd.out.1, hd.out.2]
        exact ⟨_, _, _, _, _, _, _, _, rfl, HQ1.out, HR1.out, hBU.drew⟩

end Go.Proofs.YtbffpkmfhkphdaaGreatDoor

namespace Go.Proofs.YtbffpkmfhkphdaaGreatDoor
open Go Go.RowKit Limb

theorem splice_pad (n : Nat) (xs : List Nat) : splice (nums .u32 (List.replicate n 0)) 0 (nums .u32 xs) = nums .u32 (pad n xs) := by
  unfold splice pad
  rw [List.take_zero, List.nil_append, Nat.zero_add, nums_length, nums_append, nums_replicate, nums_replicate, List.drop_replicate]

theorem Lay.cells {K : IntKind} {w w' : World} {a : Option Addr} {l : List Nat} (h : Lay K w a l) (hb : Below w.heap.size w w') (hl : 0 < l.length) : ∃ ad, a = some ad ∧ ∀ (j : Nat) (v : Value), (nums K l)[j]? = some v → w'.cell? (ad.add j) = some v := by
  obtain ⟨b, off, h1, h2⟩ := h.below hb
  refine ⟨⟨b, off, none⟩, (h1 hl).1, fun j v hj => ?_⟩
  have hjl : j < l.length := by have := (List.getElem?_eq_some_iff.1 hj).1; rwa [nums_length] at this
  rw [nums_get hjl] at hj
  rw [Addr.add_lit, h2 j hjl]; exact hj
theorem nums_one' (K : IntKind) (l : List Nat) : ∀ v ∈ nums K l, v.oneCell' = true := by
  intro u hu; unfold nums at hu; obtain ⟨_, _, rfl⟩ := List.mem_map.1 hu; rfl

theorem info32s : (Tryz.prog.info? 60).map (·.size) = some 1 := by kernel_rfl

set_option maxHeartbeats 1600000 in
set_option maxRecDepth 100000 in
theorem ref_complement (w : World) (neg : Bool) (a : Option Addr) (xs : List Nat) (m cap n : Nat) (hlay : Lay .u32 w a xs) (hlim : Lim xs) (hm : m = xs.length) (hmn : m ≤ n) (hn : n ≤ 1073741824) (hp : neg = true → 0 < val xs) (z : Int) (hz : z = if neg then -(val xs : Int) else (val xs : Int)) :
    Calls Tryz.prog 78 #[.agg #[.bool neg, .slice a m cap], .int .i64 n] w fun e w' => ∃ a' c', e = .returned (.slice a' n c') ∧ n ≤ c' ∧ Lay .u32 w' a' (two n z) ∧ Below w.heap.size w w' := by
  obtain ⟨W, hWe, r0, hW, hsz⟩ := rows1 w 24 (.bool neg) (.slice a m cap)
  have HWe := Lib.hid hWe; clear hWe
  have k0 := r0.cell_at 0
  have k1 := r0.cell_at 1
  simp only [List.getElem?_cons_zero, List.getElem?_cons_succ] at k0 k1
  have hlayW := hlay.below hW
  have Hm := Lib.hid hm; clear hm
  have HL := Lib.hid (nums_length .u32 xs)
  cases neg with
  | false =>
    rw [if_neg (by decide)] at hz
    have hT := Lib.hid (comp_end (n := n) hlim (by rw [← Hm.out]; exact hmn))
    rw [← hz] at hT
    clear hz hp
    go_enter Tryz.func78, Tryz.ntmps78
    go_wp2_with (first
      | (at_make; rw [← HWe.out]; refine wpList_make_row rfl _ _ _ rfl 60 (.int .u32 0) 4 Tryz.underlying22 info32 rfl _ _ _ _ n n rfl rfl rfl rfl (by omega) (by omega) (by omega) ?_; intro w1 g hg1 hg2 hrow hbel; rw [← nums_replicate] at hrow; have r1 := r0.below hbel r0.lt; have k10 := r1.cell_at 0; have k11 := r1.cell_at 1; simp only [List.getElem?_cons_zero, List.getElem?_cons_succ] at k10 k11)
      | ((with_reducible show wpList _ _ _ (Oper.mk _ (.call { callee := .builtin .copy, args := _, argTypes := _ }) _ _ _ _ :: _) _ _); refine wpList_copy_splice rfl _ _ _ _ rfl 60 Tryz.underlying22 info32s _ _ _ _ _ _ rfl rfl g 0 _ 60 hrow (nums .u32 xs) (by rw [HL.out, ← Hm.out]; exact (Nat.min_eq_left hmn).symm) (fun hpos => ⟨rfl, hlayW.cells hbel (by rw [← nums_length .u32]; exact hpos)⟩) (by rw [HL.out, ← Hm.out, nums_length, List.length_replicate]; omega) (nums_one' _ _) W.heap.size W hbel hg1 ?_; intro w2 HG2 hB2; have r2 := r0.below hB2 r0.lt; have k20 := r2.cell_at 0; have k21 := r2.cell_at 1; simp only [List.getElem?_cons_zero, List.getElem?_cons_succ] at k20 k21))
    go_ret
    refine ⟨_, _, rfl, Nat.le_refl _, ?_, hW.trans (hB2.mono hW.size)⟩
    rw [hT.out]
    have h := HG2.out
    rw [splice_pad] at h
    exact Row.lay h
  | true =>
    rw [if_pos rfl] at hz
    have hp' := hp rfl
    obtain ⟨P, hP⟩ : ∃ P, P = pad n xs := ⟨_, rfl⟩
    have HPl := Lib.hid (pad_length (n := n) (l := xs) (by rw [← Hm.out]; exact hmn))
    have HPm := Lib.hid (pad_lim (n := n) hlim)
    have HE := Lib.hid (fun (zs : List Nat) h1 h2 h3 => inv_plus (n := n) (zs := zs) hlim (by rw [← Hm.out]; exact hmn) hp' h1 h2 h3)
    rw [← hP] at HPl HPm HE
    rw [← hz] at HE
    have hn1 : 1 ≤ n := by
      rcases Nat.eq_zero_or_pos n with h | h
      · have hl0 : xs = [] := List.eq_nil_of_length_eq_zero (by rw [← Hm.out]; omega)
        rw [hl0] at hp'; simp [val] at hp'
      · exact h
    have HP := Lib.hid hP
    clear hz hp hp' hP
    go_enter Tryz.func78, Tryz.ntmps78
    go_wp2_with (first
      | (at_make; rw [← HWe.out]; refine wpList_make_row rfl _ _ _ rfl 60 (.int .u32 0) 4 Tryz.underlying22 info32 rfl _ _ _ _ n n rfl rfl rfl rfl (by omega) (by omega) (by omega) ?_; intro w1 g hg1 hg2 hrow hbel; rw [← nums_replicate] at hrow; have r1 := r0.below hbel r0.lt; have k10 := r1.cell_at 0; have k11 := r1.cell_at 1; simp only [List.getElem?_cons_zero, List.getElem?_cons_succ] at k10 k11)
      | ((with_reducible show wpList _ _ _ (Oper.mk _ (.call { callee := .builtin .copy, args := _, argTypes := _ }) _ _ _ _ :: _) _ _); refine wpList_copy_splice rfl _ _ _ _ rfl 60 Tryz.underlying22 info32s _ _ _ _ _ _ rfl rfl g 0 _ 60 hrow (nums .u32 xs) (by rw [HL.out, ← Hm.out]; exact (Nat.min_eq_left hmn).symm) (fun hpos => ⟨rfl, hlayW.cells hbel (by rw [← nums_length .u32]; exact hpos)⟩) (by rw [HL.out, ← Hm.out, nums_length, List.length_replicate]; omega) (nums_one' _ _) W.heap.size W hbel hg1 ?_; intro w2 HG2 hB2; have r2 := r0.below hB2 r0.lt; have k20 := r2.cell_at 0; have k21 := r2.cell_at 1; simp only [List.getElem?_cons_zero, List.getElem?_cons_succ] at k20 k21))
    have hrow2 := HG2.out
    rw [splice_pad, ← HP.out] at hrow2
    clear HG2 r1 r2 k10 k11 k20 k21 hrow hbel
    go_loopw [19] (fun i wr => ∃ j : Nat, j ≤ n ∧ i = .int .i64 j ∧ Row wr g 60 (nums .u32 (invTo j P)) ∧ Below W.heap.size W wr) (fun i _ => n - (intOf i).toNat)
    case atStart => exact ⟨0, by omega, rfl, by rw [invTo_zero]; exact hrow2, hB2⟩
    case round =>
      obtain ⟨j, hj, rfl, hr, hB⟩ := hrel
      clear hrow2 hB2
      by_cases hlt : j < n
      · have hcell := hr.cell (i := j) (by rw [invTo_length, HPl.out]; exact hlt)
        rw [wd_invTo _ _ (by rw [HPl.out]; exact hlt), if_neg (Nat.lt_irrefl _)] at hcell
        have hset := Lib.hid (invTo_set (l := P) (j := j) (by rw [HPl.out]; exact hlt))
        have hfk := hr.free j
        have ig := row_index (P := Tryz.prog) Tryz.underlying22 size32 g n n .i64 (j : Int) j rfl hlt
        obtain ⟨x, hx⟩ : ∃ x, x = wd P j := ⟨_, rfl⟩
        have hxl : x < 4294967296 := by rw [hx]; exact HPm.out.wd j
        rw [← hx] at hcell hset
        have e3 := u32_inv hxl
        obtain ⟨y, hy⟩ : ∃ y, y = 4294967295 - x := ⟨_, rfl⟩
        rw [← hy] at e3 hset
        clear hx hxl hy
        go_wp2
        go_roundw
        case rel => exact ⟨j + 1, by omega, by go_num, by rw [← hset.out]; exact hr.store _ _ _ e3, below_store hB hg1 _⟩
        case measure => simp [intOf]; omega
      · obtain rfl : j = n := by omega
        rw [invTo_all (by rw [HPl.out]; exact Nat.le_refl _)] at hr
        have hIl : Hid (j = (inv P).length) := Lib.hid (by rw [inv_length, HPl.out])
        have hb1 : Below wr.heap.size wr (wr.alloc (.cells #[.int .u32 1] 60)) := (Below.refl _ _).alloc (Nat.le_refl _) _
        have h1 := row_one wr 60 .u32 1 1 rfl
        have hB3 := hW.trans (hB.mono hW.size)
        go_wp2_with fail
        refine (ref_plus_k _ (some ⟨g, 0, none⟩) (some ⟨wr.heap.size, 0, none⟩) (inv P) [1] j 1 j 1 j (hr.lay.below hb1) h1 (inv_lim _) (Lim.cons (by decide) Lim.nil) hIl.out rfl (Nat.le_refl _) hn1 (by omega)).mono ?_
        rintro e w3 ⟨a3, n3, c3, zs3, rfl, hn3, hc3, hm3, hl3, hv3, hla3, hb3, hf3, hk3⟩
        have HT := Lib.hid (HE.out zs3 hl3 (by omega) (by rw [hv3]; rfl))
        have hfin := hB3.trans ((hb1.trans (hb3.mono hb1.size)).mono hB3.size)
        have hln := hla3.take j
        rw [HT.out] at hln
        clear hv3 hn3 hl3 hla3 hf3
        go_wp2
        go_ret
        exact ⟨_, _, rfl, by omega, hln, hfin⟩

end Go.Proofs.YtbffpkmfhkphdaaGreatDoor
