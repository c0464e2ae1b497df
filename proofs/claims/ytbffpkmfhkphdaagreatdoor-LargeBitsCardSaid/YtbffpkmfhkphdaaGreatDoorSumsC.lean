/- large.Add, Sub, Mul: a call of join each. -/
import Derived.Test.YtbffpkmfhkphdaaGreatDoorJoinC
namespace Go.Proofs.YtbffpkmfhkphdaaGreatDoor
open Go Go.RowKit Limb

/-- What every answer looks like, and that it may be read at a later world. -/
theorem Answer.shape {ok : Bool} {w w' : World} {e : Ending} {z : Int} (h : Answer ok w w' e z) : ∃ b a n c k, e = .returned (.tuple #[.agg #[.bool b, .slice a n c], .int .i64 k]) ∧ Below w.heap.size w w' ∧
    (∀ w0 w2, Below w0.heap.size w0 w2 → (∀ l, Lay .u32 w' a l → Lay .u32 w2 a l) → Answer ok w0 w2 e z) := by
  unfold Answer at h
  split at h
  · rename_i hok
    obtain ⟨hb, ⟨h1, h2⟩ | ⟨h1, v, h2, a, n, cap, h3, h4, h5, h6⟩⟩ := h
    · exact ⟨_, _, _, _, _, h2, hb, fun w0 w2 hb2 _ => by unfold Answer; rw [if_pos hok]; exact ⟨hb2, .inl ⟨h1, h2⟩⟩⟩
    · subst h3
      exact ⟨_, _, _, _, _, h2, hb, fun w0 w2 hb2 hl => by unfold Answer; rw [if_pos hok]; exact ⟨hb2, .inr ⟨h1, _, h2, a, n, cap, rfl, h4, h5, hl _ h6⟩⟩⟩
  · rename_i hok
    obtain ⟨h1, hb⟩ := h
    exact ⟨_, _, _, _, _, h1, hb, fun w0 w2 hb2 _ => by unfold Answer; rw [if_neg hok]; exact ⟨h1, hb2⟩⟩

set_option maxHeartbeats 800000 in
set_option maxRecDepth 100000 in
theorem large_add (w : World) (n1 n2 : Bool) (a1 a2 : Option Addr) (l1 l2 : List Nat) (m1 m2 c1 c2 : Nat) (hy1 : Lay .u32 w a1 l1) (hy2 : Lay .u32 w a2 l2) (hl1 : Lim l1) (hl2 : Lim l2) (hm1 : m1 = l1.length) (hm2 : m2 = l2.length) (hb1 : m1 ≤ 9223372036854775807) (hb2 : m2 ≤ 9223372036854775807) :
    Calls Tryz.prog 37 #[.agg #[.bool n1, .slice a1 m1 c1], .agg #[.bool n2, .slice a2 m2 c2]] w fun e w' =>
      Answer (mayB n1 l1 && mayB n2 l2) w w' e (signed n1 (val l1) + signed n2 (val l2)) := by
  obtain ⟨r0, r1, r2, hW, hsz⟩ := rows3 w 24 (.bool n1) (.slice a1 m1 c1) (.bool n2) (.slice a2 m2 c2) (.bool false) (.slice none 0 0)
  obtain ⟨W, hWe⟩ : ∃ W, W = ((w.alloc (.cells #[.bool n1, .slice a1 m1 c1] 24)).alloc (.cells #[.bool n2, .slice a2 m2 c2] 24)).alloc (.cells #[.bool false, .slice none 0 0] 24) := ⟨_, rfl⟩
  rw [← hWe] at r0 r1 r2 hW hsz
  have HWe := Lib.hid hWe; clear hWe
  have HJ := Lib.hid (join_add W n1 n2 a1 a2 l1 l2 m1 m2 c1 c2 (hy1.below hW) (hy2.below hW) hl1 hl2 hm1 hm2 hb1 hb2)
  clear hm1 hm2
  go_enter Tryz.func37, Tryz.ntmps37
  go_wp2_with fail
  rw [← HWe.out]
  refine HJ.out.mono ?_
  rintro e w1 hans
  obtain ⟨b, a, n, c, k, rfl, hb, hnext⟩ := hans.shape
  have HN := Lib.hid hnext; clear hnext hans
  have hB1 : Below w.heap.size w w1 := hW.trans (hb.mono hW.size)
  have hR := r2.below hb r2.lt
  have k0 := hR.cell_at 0
  have k1 := hR.cell_at 1
  have k2 := hR.free 0
  have k3 := hR.free 1
  simp only [List.getElem?_cons_zero, List.getElem?_cons_succ] at k0 k1
  have e0 : (w1.setCell ⟨w.heap.size + 1 + 1, 0, none⟩ (.bool b)).cell? ⟨w.heap.size + 1 + 1, 0, none⟩ = some (.bool b) := (hR.store_any 0 _).cell_at 0
  have e1 : ((w1.setCell ⟨w.heap.size + 1 + 1, 0, none⟩ (.bool b)).setCell ⟨w.heap.size + 1 + 1, 1, none⟩ (.slice a n c)).cell? ⟨w.heap.size + 1 + 1, 1, none⟩ = some (.slice a n c) := ((hR.store_any 0 _).store_any 1 _).cell_at 1
  have HF := Lib.hid (below_store (below_store hB1 (g := w.heap.size + 1 + 1) (i := 0) (by omega) (.bool b)) (g := w.heap.size + 1 + 1) (i := 1) (by omega) (.slice a n c))
  go_wp2
  (try simp only [Exit.inBlock, Exit.then])
  refine bodyPost_ret (v := .tuple #[.agg #[.bool b, .slice a n c], .int .i64 k]) (by simp [results, Tryz.results37, go_sem, e0, e1]) rfl ?_
  exact HN.out _ _ HF.out (fun l hl => hl.pair hR _ _)

set_option maxHeartbeats 800000 in
set_option maxRecDepth 100000 in
theorem large_sub (w : World) (n1 n2 : Bool) (a1 a2 : Option Addr) (l1 l2 : List Nat) (m1 m2 c1 c2 : Nat) (hy1 : Lay .u32 w a1 l1) (hy2 : Lay .u32 w a2 l2) (hl1 : Lim l1) (hl2 : Lim l2) (hm1 : m1 = l1.length) (hm2 : m2 = l2.length) (hb1 : m1 ≤ 9223372036854775807) (hb2 : m2 ≤ 9223372036854775807) :
    Calls Tryz.prog 40 #[.agg #[.bool n1, .slice a1 m1 c1], .agg #[.bool n2, .slice a2 m2 c2]] w fun e w' =>
      Answer (mayB n1 l1 && mayB n2 l2) w w' e (signed n1 (val l1) - signed n2 (val l2)) := by
  obtain ⟨r0, r1, r2, hW, hsz⟩ := rows3 w 24 (.bool n1) (.slice a1 m1 c1) (.bool n2) (.slice a2 m2 c2) (.bool false) (.slice none 0 0)
  obtain ⟨W, hWe⟩ : ∃ W, W = ((w.alloc (.cells #[.bool n1, .slice a1 m1 c1] 24)).alloc (.cells #[.bool n2, .slice a2 m2 c2] 24)).alloc (.cells #[.bool false, .slice none 0 0] 24) := ⟨_, rfl⟩
  rw [← hWe] at r0 r1 r2 hW hsz
  have HWe := Lib.hid hWe; clear hWe
  have HJ := Lib.hid (join_sub W n1 n2 a1 a2 l1 l2 m1 m2 c1 c2 (hy1.below hW) (hy2.below hW) hl1 hl2 hm1 hm2 hb1 hb2)
  clear hm1 hm2
  go_enter Tryz.func40, Tryz.ntmps40
  go_wp2_with fail
  rw [← HWe.out]
  refine HJ.out.mono ?_
  rintro e w1 hans
  obtain ⟨b, a, n, c, k, rfl, hb, hnext⟩ := hans.shape
  have HN := Lib.hid hnext; clear hnext hans
  have hB1 : Below w.heap.size w w1 := hW.trans (hb.mono hW.size)
  have hR := r2.below hb r2.lt
  have k0 := hR.cell_at 0
  have k1 := hR.cell_at 1
  have k2 := hR.free 0
  have k3 := hR.free 1
  simp only [List.getElem?_cons_zero, List.getElem?_cons_succ] at k0 k1
  have e0 : (w1.setCell ⟨w.heap.size + 1 + 1, 0, none⟩ (.bool b)).cell? ⟨w.heap.size + 1 + 1, 0, none⟩ = some (.bool b) := (hR.store_any 0 _).cell_at 0
  have e1 : ((w1.setCell ⟨w.heap.size + 1 + 1, 0, none⟩ (.bool b)).setCell ⟨w.heap.size + 1 + 1, 1, none⟩ (.slice a n c)).cell? ⟨w.heap.size + 1 + 1, 1, none⟩ = some (.slice a n c) := ((hR.store_any 0 _).store_any 1 _).cell_at 1
  have HF := Lib.hid (below_store (below_store hB1 (g := w.heap.size + 1 + 1) (i := 0) (by omega) (.bool b)) (g := w.heap.size + 1 + 1) (i := 1) (by omega) (.slice a n c))
  go_wp2
  (try simp only [Exit.inBlock, Exit.then])
  refine bodyPost_ret (v := .tuple #[.agg #[.bool b, .slice a n c], .int .i64 k]) (by simp [results, Tryz.results40, go_sem, e0, e1]) rfl ?_
  exact HN.out _ _ HF.out (fun l hl => hl.pair hR _ _)

set_option maxHeartbeats 800000 in
set_option maxRecDepth 100000 in
theorem large_mul (w : World) (n1 n2 : Bool) (a1 a2 : Option Addr) (l1 l2 : List Nat) (m1 m2 c1 c2 : Nat) (hy1 : Lay .u32 w a1 l1) (hy2 : Lay .u32 w a2 l2) (hl1 : Lim l1) (hl2 : Lim l2) (hm1 : m1 = l1.length) (hm2 : m2 = l2.length) (hb1 : m1 ≤ 9223372036854775807) (hb2 : m2 ≤ 9223372036854775807) :
    Calls Tryz.prog 38 #[.agg #[.bool n1, .slice a1 m1 c1], .agg #[.bool n2, .slice a2 m2 c2]] w fun e w' =>
      Answer (mayB n1 l1 && mayB n2 l2) w w' e (signed n1 (val l1) * signed n2 (val l2)) := by
  obtain ⟨r0, r1, r2, hW, hsz⟩ := rows3 w 24 (.bool n1) (.slice a1 m1 c1) (.bool n2) (.slice a2 m2 c2) (.bool false) (.slice none 0 0)
  obtain ⟨W, hWe⟩ : ∃ W, W = ((w.alloc (.cells #[.bool n1, .slice a1 m1 c1] 24)).alloc (.cells #[.bool n2, .slice a2 m2 c2] 24)).alloc (.cells #[.bool false, .slice none 0 0] 24) := ⟨_, rfl⟩
  rw [← hWe] at r0 r1 r2 hW hsz
  have HWe := Lib.hid hWe; clear hWe
  have HJ := Lib.hid (join_mul W n1 n2 a1 a2 l1 l2 m1 m2 c1 c2 (hy1.below hW) (hy2.below hW) hl1 hl2 hm1 hm2 hb1 hb2)
  clear hm1 hm2
  go_enter Tryz.func38, Tryz.ntmps38
  go_wp2_with fail
  rw [← HWe.out]
  refine HJ.out.mono ?_
  rintro e w1 hans
  obtain ⟨b, a, n, c, k, rfl, hb, hnext⟩ := hans.shape
  have HN := Lib.hid hnext; clear hnext hans
  have hB1 : Below w.heap.size w w1 := hW.trans (hb.mono hW.size)
  have hR := r2.below hb r2.lt
  have k0 := hR.cell_at 0
  have k1 := hR.cell_at 1
  have k2 := hR.free 0
  have k3 := hR.free 1
  simp only [List.getElem?_cons_zero, List.getElem?_cons_succ] at k0 k1
  have e0 : (w1.setCell ⟨w.heap.size + 1 + 1, 0, none⟩ (.bool b)).cell? ⟨w.heap.size + 1 + 1, 0, none⟩ = some (.bool b) := (hR.store_any 0 _).cell_at 0
  have e1 : ((w1.setCell ⟨w.heap.size + 1 + 1, 0, none⟩ (.bool b)).setCell ⟨w.heap.size + 1 + 1, 1, none⟩ (.slice a n c)).cell? ⟨w.heap.size + 1 + 1, 1, none⟩ = some (.slice a n c) := ((hR.store_any 0 _).store_any 1 _).cell_at 1
  have HF := Lib.hid (below_store (below_store hB1 (g := w.heap.size + 1 + 1) (i := 0) (by omega) (.bool b)) (g := w.heap.size + 1 + 1) (i := 1) (by omega) (.slice a n c))
  go_wp2
  (try simp only [Exit.inBlock, Exit.then])
  refine bodyPost_ret (v := .tuple #[.agg #[.bool b, .slice a n c], .int .i64 k]) (by simp [results, Tryz.results38, go_sem, e0, e1]) rfl ?_
  exact HN.out _ _ HF.out (fun l hl => hl.pair hR _ _)

end Go.Proofs.YtbffpkmfhkphdaaGreatDoor
