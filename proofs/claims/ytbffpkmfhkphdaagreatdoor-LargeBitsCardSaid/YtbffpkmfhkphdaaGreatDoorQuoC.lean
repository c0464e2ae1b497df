/- large.Quo and large.Div: a call of divide each. -/
import Derived.Test.YtbffpkmfhkphdaaGreatDoorGDiv
namespace Go.Proofs.YtbffpkmfhkphdaaGreatDoor
open Go Go.RowKit Limb

/-- What a division answers. -/
def DivAnswer (ok fl : Bool) (w w' : World) (e : Ending) (z1 z2 : Int) : Prop :=
  if ok = false then DivNone w w' e 1 else if z2 = 0 then DivNone w w' e 90 else DivRes w w' e (dquo fl z1 z2) (drem fl z1 z2)

theorem DivAnswer.shape {ok fl : Bool} {w w' : World} {e : Ending} {z1 z2 : Int} (h : DivAnswer ok fl w w' e z1 z2) : ∃ b a n c b' a' n' c' k,
    e = .returned (.tuple #[.agg #[.bool b, .slice a n c], .agg #[.bool b', .slice a' n' c'], .int .i64 k]) ∧ Below w.heap.size w w' ∧
    (∀ w0 w2, Below w0.heap.size w0 w2 → (∀ x l, Lay .u32 w' x l → Lay .u32 w2 x l) → DivAnswer ok fl w0 w2 e z1 z2) := by
  unfold DivAnswer at h
  split at h
  · rename_i h0
    obtain ⟨hb, rfl⟩ := h
    exact ⟨_, _, _, _, _, _, _, _, _, rfl, hb, fun w0 w2 hb2 _ => by unfold DivAnswer; rw [if_pos h0]; exact ⟨hb2, rfl⟩⟩
  · rename_i h0
    split at h
    · rename_i h1
      obtain ⟨hb, rfl⟩ := h
      exact ⟨_, _, _, _, _, _, _, _, _, rfl, hb, fun w0 w2 hb2 _ => by unfold DivAnswer; rw [if_neg h0, if_pos h1]; exact ⟨hb2, rfl⟩⟩
    · rename_i h1
      obtain ⟨hb, aq, cq, ar, cr, rfl, g1, g2, g3, g4⟩ := h
      exact ⟨_, _, _, _, _, _, _, _, _, rfl, hb, fun w0 w2 hb2 hl => by unfold DivAnswer; rw [if_neg h0, if_neg h1]; exact ⟨hb2, aq, cq, ar, cr, rfl, g1, g2, hl _ _ g3, hl _ _ g4⟩⟩

theorem divide_ans (w : World) (n1 n2 fl : Bool) (a1 a2 : Option Addr) (l1 l2 : List Nat) (m1 m2 c1 c2 : Nat) (hy1 : Lay .u32 w a1 l1) (hy2 : Lay .u32 w a2 l2) (hl1 : Lim l1) (hl2 : Lim l2) (hm1 : m1 = l1.length) (hm2 : m2 = l2.length) (hb1 : m1 ≤ 9223372036854775807) (hb2 : m2 ≤ 9223372036854775807) :
    Calls Tryz.prog 102 #[.agg #[.bool n1, .slice a1 m1 c1], .agg #[.bool n2, .slice a2 m2 c2], .bool fl] w fun e w' => DivAnswer (mayB n1 l1 && mayB n2 l2) fl w w' e (signed n1 (val l1)) (signed n2 (val l2)) := by
  cases hok : (mayB n1 l1 && mayB n2 l2) with
  | false =>
    refine (divide_no w n1 n2 fl a1 a2 l1 l2 m1 m2 c1 c2 hy1 hy2 hl1 hl2 hm1 hm2 hb1 hb2 hok).mono ?_
    intro e w' h; unfold DivAnswer; rw [if_pos rfl]; exact h
  | true =>
    by_cases hz : signed n2 (val l2) = 0
    · have h0 : l2.length = 0 := by
        have hok' := hok
        simp only [Bool.and_eq_true] at hok'
        obtain ⟨y1, _, _⟩ := mayB_int hl2 hok'.2
        rw [y1, hz]; exact (rep_length_zero).mpr rfl
      refine (divide_zero w n1 n2 fl a1 a2 l1 l2 m1 m2 c1 c2 hy1 hy2 hl1 hl2 hm1 hm2 hb1 hb2 hok h0).mono ?_
      intro e w' h; unfold DivAnswer; rw [if_neg (by decide), if_pos hz]; exact h
    · refine (divide_ok w n1 n2 fl a1 a2 l1 l2 m1 m2 c1 c2 hy1 hy2 hl1 hl2 hm1 hm2 hb1 hb2 hok hz).mono ?_
      intro e w' h; unfold DivAnswer; rw [if_neg (by decide), if_neg hz]; exact h

set_option maxHeartbeats 800000 in
set_option maxRecDepth 100000 in
theorem large_quo (w : World) (n1 n2 : Bool) (a1 a2 : Option Addr) (l1 l2 : List Nat) (m1 m2 c1 c2 : Nat) (hy1 : Lay .u32 w a1 l1) (hy2 : Lay .u32 w a2 l2) (hl1 : Lim l1) (hl2 : Lim l2) (hm1 : m1 = l1.length) (hm2 : m2 = l2.length) (hb1 : m1 ≤ 9223372036854775807) (hb2 : m2 ≤ 9223372036854775807) :
    Calls Tryz.prog 36 #[.agg #[.bool n1, .slice a1 m1 c1], .agg #[.bool n2, .slice a2 m2 c2]] w fun e w' => DivAnswer (mayB n1 l1 && mayB n2 l2) false w w' e (signed n1 (val l1)) (signed n2 (val l2)) := by
  obtain ⟨W, hWe, r0, r1, r2, r3, hW, hsz⟩ := rows4 w 24 (.bool n1) (.slice a1 m1 c1) (.bool n2) (.slice a2 m2 c2) (.bool false) (.slice none 0 0) (.bool false) (.slice none 0 0)
  have HWe := Lib.hid hWe; clear hWe
  have HJ := Lib.hid (divide_ans W n1 n2 false a1 a2 l1 l2 m1 m2 c1 c2 (hy1.below hW) (hy2.below hW) hl1 hl2 hm1 hm2 hb1 hb2)
  clear hm1 hm2
  go_enter Tryz.func36, Tryz.ntmps36
  go_wp2_with fail
  rw [← HWe.out]
  refine HJ.out.mono ?_
  rintro e w1 hans
  obtain ⟨b, a, n, c, b', a', n', c', k, rfl, hb, hnext⟩ := hans.shape
  have HN := Lib.hid hnext; clear hnext hans
  have hBV : Below w.heap.size w w1 := hW.trans (hb.mono hW.size)
  have ra := r2.below hb r2.lt
  have rb := r3.below hb r3.lt
  have d0 := ra.cell_at 0
  have d1 := ra.cell_at 1
  have e0 := rb.cell_at 0
  have e1 := rb.cell_at 1
  have d2 := ra.free 0
  have d3 := ra.free 1
  have e2 := rb.free 0
  have e3 := rb.free 1
  simp only [List.getElem?_cons_zero, List.getElem?_cons_succ] at d0 d1 e0 e1
  have hrb : Row ((w1.setCell ⟨w.heap.size + 1 + 1, 0, none⟩ (.bool b)).setCell ⟨w.heap.size + 1 + 1, 1, none⟩ (.slice a n c)) (w.heap.size + 1 + 1 + 1) 24 [.bool false, .slice none 0 0] := (rb.other (by simp) _).other (by simp) _
  obtain ⟨U, hU⟩ : ∃ U, U = (((w1.setCell ⟨w.heap.size + 1 + 1, 0, none⟩ (.bool b)).setCell ⟨w.heap.size + 1 + 1, 1, none⟩ (.slice a n c)).setCell ⟨w.heap.size + 1 + 1 + 1, 0, none⟩ (.bool b')).setCell ⟨w.heap.size + 1 + 1 + 1, 1, none⟩ (.slice a' n' c') := ⟨_, rfl⟩
  have ga : Row U (w.heap.size + 1 + 1) 24 [.bool b, .slice a n c] := by rw [hU]; exact (((ra.store_any 0 (.bool b)).store_any 1 (.slice a n c)).other (by simp) _).other (by simp) _
  have gb : Row U (w.heap.size + 1 + 1 + 1) 24 [.bool b', .slice a' n' c'] := by rw [hU]; exact (hrb.store_any 0 _).store_any 1 _
  have hfin : Below w.heap.size w U := by rw [hU]; exact below_store (below_store (below_store (below_store hBV (by omega) _) (by omega) _) (by omega) _) (by omega) _
  have hlay : ∀ x l, Lay .u32 w1 x l → Lay .u32 U x l := fun x l hl => by rw [hU]; exact (hl.pair ra _ _).pair hrb _ _
  have f0 := ga.cell_at 0
  have f1 := ga.cell_at 1
  have f2 := gb.cell_at 0
  have f3 := gb.cell_at 1
  simp only [List.getElem?_cons_zero, List.getElem?_cons_succ] at f0 f1 f2 f3
  have HV := Lib.hid hU; clear hU hrb
  have HL := Lib.hid hlay; clear hlay
  go_wp2
  (try simp only [Exit.inBlock, Exit.then])
  rw [← HV.out]
  refine bodyPost_ret (v := .tuple #[.agg #[.bool b, .slice a n c], .agg #[.bool b', .slice a' n' c'], .int .i64 k]) (by simp [results, Tryz.results36, go_sem, f0, f1, f2, f3]) rfl ?_
  exact HN.out _ _ hfin HL.out

set_option maxHeartbeats 800000 in
set_option maxRecDepth 100000 in
theorem large_div (w : World) (n1 n2 : Bool) (a1 a2 : Option Addr) (l1 l2 : List Nat) (m1 m2 c1 c2 : Nat) (hy1 : Lay .u32 w a1 l1) (hy2 : Lay .u32 w a2 l2) (hl1 : Lim l1) (hl2 : Lim l2) (hm1 : m1 = l1.length) (hm2 : m2 = l2.length) (hb1 : m1 ≤ 9223372036854775807) (hb2 : m2 ≤ 9223372036854775807) :
    Calls Tryz.prog 75 #[.agg #[.bool n1, .slice a1 m1 c1], .agg #[.bool n2, .slice a2 m2 c2]] w fun e w' => DivAnswer (mayB n1 l1 && mayB n2 l2) true w w' e (signed n1 (val l1)) (signed n2 (val l2)) := by
  obtain ⟨W, hWe, r0, r1, r2, r3, hW, hsz⟩ := rows4 w 24 (.bool n1) (.slice a1 m1 c1) (.bool n2) (.slice a2 m2 c2) (.bool false) (.slice none 0 0) (.bool false) (.slice none 0 0)
  have HWe := Lib.hid hWe; clear hWe
  have HJ := Lib.hid (divide_ans W n1 n2 true a1 a2 l1 l2 m1 m2 c1 c2 (hy1.below hW) (hy2.below hW) hl1 hl2 hm1 hm2 hb1 hb2)
  clear hm1 hm2
  go_enter Tryz.func75, Tryz.ntmps75
  go_wp2_with fail
  rw [← HWe.out]
  refine HJ.out.mono ?_
  rintro e w1 hans
  obtain ⟨b, a, n, c, b', a', n', c', k, rfl, hb, hnext⟩ := hans.shape
  have HN := Lib.hid hnext; clear hnext hans
  have hBV : Below w.heap.size w w1 := hW.trans (hb.mono hW.size)
  have ra := r2.below hb r2.lt
  have rb := r3.below hb r3.lt
  have d0 := ra.cell_at 0
  have d1 := ra.cell_at 1
  have e0 := rb.cell_at 0
  have e1 := rb.cell_at 1
  have d2 := ra.free 0
  have d3 := ra.free 1
  have e2 := rb.free 0
  have e3 := rb.free 1
  simp only [List.getElem?_cons_zero, List.getElem?_cons_succ] at d0 d1 e0 e1
  have hrb : Row ((w1.setCell ⟨w.heap.size + 1 + 1, 0, none⟩ (.bool b)).setCell ⟨w.heap.size + 1 + 1, 1, none⟩ (.slice a n c)) (w.heap.size + 1 + 1 + 1) 24 [.bool false, .slice none 0 0] := (rb.other (by simp) _).other (by simp) _
  obtain ⟨U, hU⟩ : ∃ U, U = (((w1.setCell ⟨w.heap.size + 1 + 1, 0, none⟩ (.bool b)).setCell ⟨w.heap.size + 1 + 1, 1, none⟩ (.slice a n c)).setCell ⟨w.heap.size + 1 + 1 + 1, 0, none⟩ (.bool b')).setCell ⟨w.heap.size + 1 + 1 + 1, 1, none⟩ (.slice a' n' c') := ⟨_, rfl⟩
  have ga : Row U (w.heap.size + 1 + 1) 24 [.bool b, .slice a n c] := by rw [hU]; exact (((ra.store_any 0 (.bool b)).store_any 1 (.slice a n c)).other (by simp) _).other (by simp) _
  have gb : Row U (w.heap.size + 1 + 1 + 1) 24 [.bool b', .slice a' n' c'] := by rw [hU]; exact (hrb.store_any 0 _).store_any 1 _
  have hfin : Below w.heap.size w U := by rw [hU]; exact below_store (below_store (below_store (below_store hBV (by omega) _) (by omega) _) (by omega) _) (by omega) _
  have hlay : ∀ x l, Lay .u32 w1 x l → Lay .u32 U x l := fun x l hl => by rw [hU]; exact (hl.pair ra _ _).pair hrb _ _
  have f0 := ga.cell_at 0
  have f1 := ga.cell_at 1
  have f2 := gb.cell_at 0
  have f3 := gb.cell_at 1
  simp only [List.getElem?_cons_zero, List.getElem?_cons_succ] at f0 f1 f2 f3
  have HV := Lib.hid hU; clear hU hrb
  have HL := Lib.hid hlay; clear hlay
  go_wp2
  (try simp only [Exit.inBlock, Exit.then])
  rw [← HV.out]
  refine bodyPost_ret (v := .tuple #[.agg #[.bool b, .slice a n c], .agg #[.bool b', .slice a' n' c'], .int .i64 k]) (by simp [results, Tryz.results75, go_sem, f0, f1, f2, f3]) rfl ?_
  exact HN.out _ _ hfin HL.out

end Go.Proofs.YtbffpkmfhkphdaaGreatDoor
