/- large.Compare and large.Of. large.Quo and large.Div: a call of divide each. -/
import Derived.Test.YtbffpkmfhkphdaaGreatDoorGX23
import Derived.Test.YtbffpkmfhkphdaaGreatDoorGX25
import Derived.Test.YtbffpkmfhkphdaaGreatDoorGX15
import Derived.Test.YtbffpkmfhkphdaaGreatDoorDivideC
set_option linter.unusedVariables false
set_option linter.unusedSimpArgs false
namespace Go.Proofs.YtbffpkmfhkphdaaGreatDoor
open Go Go.RowKit Limb

theorem rows2 (w : World) (t : TypeId) (a0 a1 b0 b1 : Value) : ∃ W, W = (w.alloc (.cells #[a0, a1] t)).alloc (.cells #[b0, b1] t) ∧
    Row W w.heap.size t [a0, a1] ∧ Row W (w.heap.size + 1) t [b0, b1] ∧ Below w.heap.size w W ∧ W.heap.size = w.heap.size + 1 + 1 := by
  have s1 := World.size_alloc w (.cells #[a0, a1] t)
  refine ⟨_, rfl, ?_, ?_, ((Below.refl _ _).alloc (Nat.le_refl _) _).alloc (by omega) _, by rw [World.size_alloc, s1]⟩
  · refine Row.alloc ?_ _; unfold Row; exact heap_alloc_new _ _
  · unfold Row; have := heap_alloc_new (w.alloc (.cells #[a0, a1] t)) (.cells #[b0, b1] t); rw [s1] at this; exact this

theorem at_cmp {w1 X : World} {l : List (Nat × Int)} {p q : Nat} {x y : Int} (h : At w1 X l) (hp : (p, x) ∈ l) (hq : (q, y) ∈ l) (hs : (rep x.natAbs).length ≤ 68719476736) (ht : (rep y.natAbs).length ≤ 68719476736) :
    Calls Tryz.prog 105 #[.pointer (some ⟨p, 0, none⟩), .pointer (some ⟨q, 0, none⟩)] X fun e X' => e = .returned (.int .i64 (cmpZ x y)) ∧ At w1 X' l := by
  refine (int_cmp X p q x y (h.ints _ hp).1 (h.ints _ hq).1 hs ht).mono ?_
  rintro e X' ⟨rfl, n, rfl⟩
  exact ⟨rfl, h.drewN n⟩

set_option maxHeartbeats 1600000 in
set_option maxRecDepth 100000 in
theorem large_compare (w : World) (n1 n2 : Bool) (a1 a2 : Option Addr) (l1 l2 : List Nat) (m1 m2 c1 c2 : Nat) (hy1 : Lay .u32 w a1 l1) (hy2 : Lay .u32 w a2 l2) (hl1 : Lim l1) (hl2 : Lim l2) (hm1 : m1 = l1.length) (hm2 : m2 = l2.length) (hb1 : m1 ≤ 9223372036854775807) (hb2 : m2 ≤ 9223372036854775807) :
    Calls Tryz.prog 39 #[.agg #[.bool n1, .slice a1 m1 c1], .agg #[.bool n2, .slice a2 m2 c2]] w fun e w' =>
      e = .returned (.tuple #[.int .i64 (if (mayB n1 l1 && mayB n2 l2) = true then cmpZ (signed n1 (val l1)) (signed n2 (val l2)) else 0), .int .i64 (if (mayB n1 l1 && mayB n2 l2) = true then 0 else 1)]) ∧ Below w.heap.size w w' := by
  obtain ⟨W, hWe, r0, r1, hW, hsz⟩ := rows2 w 24 (.bool n1) (.slice a1 m1 c1) (.bool n2) (.slice a2 m2 c2)
  have HWe := Lib.hid hWe; clear hWe
  have hmay := fun g h1 h2 h3 => large_may2 (W.alloc (.cells #[.bool n1, .slice a1 m1 c1, .bool n2, .slice a2 m2 c2] 24)) g n1 n2 a1 a2 l1 l2 m1 m2 c1 c2 h1 h2 h3 hl1 hl2 hm1 hm2 hb1 hb2
  have Hm1 := Lib.hid hm1; clear hm1
  have Hm2 := Lib.hid hm2; clear hm2
  have hmay' := hmay (w.heap.size + 1 + 1) (by rw [← hsz]; exact row2slice _ _ _) ((hy1.below hW).below ((Below.refl _ _).alloc (Nat.le_refl _) _)) ((hy2.below hW).below ((Below.refl _ _).alloc (Nat.le_refl _) _))
  have HM := Lib.hid hmay'; clear hmay hmay'
  cases hb : (mayB n1 l1 && mayB n2 l2) with
  | false =>
    rw [hb] at HM
    clear hb
    go_enter Tryz.func39, Tryz.ntmps39
    go_wp2_with fail
    rw [← HWe.out]
    refine HM.out.mono ?_
    rintro e w1 ⟨rfl, hbw⟩
    have hB1 : Below w.heap.size w w1 := hW.trans ((below_over hbw).mono hW.size)
    go_wp2
    (try simp only [Exit.inBlock, Exit.then])
    refine bodyPost_ret (v := .tuple #[.int .i64 0, .int .i64 1]) (by simp [results, Tryz.results39, go_sem]) rfl ?_
    exact ⟨rfl, hB1⟩
  | true =>
    rw [hb] at HM
    simp only [Bool.and_eq_true] at hb
    obtain ⟨x1, x2, x3⟩ := mayB_int hl1 hb.1
    obtain ⟨y1, y2, y3⟩ := mayB_int hl2 hb.2
    have s1 : (rep (signed n1 (val l1)).natAbs).length ≤ 68719476736 := by rw [← x1]; omega
    have s2 : (rep (signed n2 (val l2)).natAbs).length ≤ 68719476736 := by rw [← y1]; omega
    have ls1 : m1 ≤ 1024 := by rw [Hm1.out]; exact x3
    have ls2 : m2 ≤ 1024 := by rw [Hm2.out]; exact y3
    clear hb x1 x2 y1 y2
    rw [if_pos rfl, if_pos rfl]
    obtain ⟨z1, hz1⟩ : ∃ z, z = signed n1 (val l1) := ⟨_, rfl⟩
    obtain ⟨z2, hz2⟩ : ∃ z, z = signed n2 (val l2) := ⟨_, rfl⟩
    rw [← hz1] at s1 ⊢
    rw [← hz2] at s2 ⊢
    go_enter Tryz.func39, Tryz.ntmps39
    go_wp2_with fail
    rw [← HWe.out]
    refine HM.out.mono ?_
    rintro e w1 ⟨rfl, hbw⟩
    have hbw' := below_over hbw
    have hB1 : Below w.heap.size w w1 := hW.trans (hbw'.mono hW.size)
    have q0 := r0.below hbw' r0.lt
    have q1 := r1.below hbw' r1.lt
    have l1' := hy1.below hB1
    have l2' := hy2.below hB1
    have hsz1 : w.heap.size + 2 ≤ w1.heap.size := by have := hbw'.size; omega
    have hw : ∀ X ls v z, (v = .agg #[.bool n1, .slice a1 m1 c1] ∧ z = z1) ∨ (v = .agg #[.bool n2, .slice a2 m2 c2] ∧ z = z2) → At w1 X ls → Calls Tryz.prog 60 #[v] X fun e X' => ∃ p, e = .returned (.pointer (some ⟨p, 0, none⟩)) ∧ At w1 X' ((p, z) :: ls) := by
      rintro X ls v z (⟨rfl, rfl⟩ | ⟨rfl, rfl⟩) h
      · rw [hz1]; exact at_wide h n1 a1 l1 m1 c1 l1' hl1 Hm1.out (by omega)
      · rw [hz2]; exact at_wide h n2 a2 l2 m2 c2 l2' hl2 Hm2.out (by omega)
    have HW := Lib.hid hw; clear hw hz1 hz2
    have hk : ∀ X, Below w1.heap.size w1 X → (X.cell? ⟨w.heap.size, 0, none⟩ = some (.bool n1) ∧ X.cell? ⟨w.heap.size, 1, none⟩ = some (.slice a1 m1 c1) ∧ X.cell? ⟨w.heap.size + 1, 0, none⟩ = some (.bool n2) ∧ X.cell? ⟨w.heap.size + 1, 1, none⟩ = some (.slice a2 m2 c2)) := by
      intro X hX
      have p0 := q0.below hX (by omega)
      have p1 := q1.below hX (by omega)
      exact ⟨p0.cell_at 0, p0.cell_at 1, p1.cell_at 0, p1.cell_at 1⟩
    have HK := Lib.hid hk; clear hk
    have h := At.refl w1
    clear q0 q1 l1' l2' hbw' hbw
    go_wp2_with fail
    go_region_held3 (fun X => (X.cell? ⟨w.heap.size, 0, none⟩ = some (.bool n1) ∧ X.cell? ⟨w.heap.size, 1, none⟩ = some (.slice a1 m1 c1) ∧ X.cell? ⟨w.heap.size + 1, 0, none⟩ = some (.bool n2) ∧ X.cell? ⟨w.heap.size + 1, 1, none⟩ = some (.slice a2 m2 c2)))
      (first | (apply HK.out; apply At.below; (repeat (first | exact h | apply At.drew | apply At.drewN | apply At.new)); done) | fail)
      (first
        | (go_at_call 60; apply Calls.mono; apply HW.out; (first | exact .inl ⟨rfl, rfl⟩ | exact .inr ⟨rfl, rfl⟩); (repeat (first | exact h | apply At.drew | apply At.drewN | apply At.new)); clear h; rintro e w' ⟨p, rfl, h⟩)
        | (go_at_call 105; apply Calls.mono; apply at_cmp (w1 := w1) (hs := s1) (ht := s2); (repeat (first | exact h | apply At.drew | apply At.drewN | apply At.new)); (first | exact .head _ | exact .tail _ (.head _) | exact .tail _ (.tail _ (.head _)) | exact .tail _ (.tail _ (.tail _ (.head _))) | exact .tail _ (.tail _ (.tail _ (.tail _ (.head _))))); (first | exact .head _ | exact .tail _ (.head _) | exact .tail _ (.tail _ (.head _)) | exact .tail _ (.tail _ (.tail _ (.head _))) | exact .tail _ (.tail _ (.tail _ (.tail _ (.head _))))); clear h; rintro e w' ⟨rfl, h⟩))
    all_goals
      have hfin := hB1.trans (h.below.mono hB1.size)
      go_wp2
      (try simp only [Exit.inBlock, Exit.then])
      refine bodyPost_ret (v := .tuple #[.int .i64 (cmpZ z1 z2), .int .i64 0]) (by simp [results, Tryz.results39, go_sem]) rfl ?_
      exact ⟨rfl, hfin⟩

/-- The value of an integer of package api. -/
def ApiV (w : World) (v : Value) (z : Int) : Prop := ∃ a cap, v = .agg #[.bool (decide (z < 0)), .slice a (rep z.natAbs).length cap] ∧ (rep z.natAbs).length ≤ cap ∧ Lay .u32 w a (rep z.natAbs)

theorem len_i64 {v : Int} (h1 : -9223372036854775808 ≤ v) (h2 : v ≤ 9223372036854775807) : (rep v.natAbs).length ≤ 2 := by
  rw [rep_length_le, show Limb.W 2 = 18446744073709551616 from by decide]; omega

set_option maxHeartbeats 800000 in
set_option maxRecDepth 100000 in
theorem large_of (w : World) (v : Int) (h1 : -9223372036854775808 ≤ v) (h2 : v ≤ 9223372036854775807) :
    Calls Tryz.prog 32 #[.int .i64 v] w fun e w' => ∃ u, e = .returned u ∧ ApiV w' u v ∧ Below w.heap.size w w' := by
  have hlen := Nat.le_trans (len_i64 h1 h2) (by decide : 2 ≤ 1024)
  obtain ⟨W, hWe⟩ : ∃ W, W = w.alloc (.cells #[.bool false, .slice none 0 0] 24) := ⟨_, rfl⟩
  have r0 : Row W w.heap.size 24 [.bool false, .slice none 0 0] := by rw [hWe]; exact row2slice _ _ _
  have hW : Below w.heap.size w W := by rw [hWe]; exact (Below.refl _ _).alloc (Nat.le_refl _) _
  have hsz : W.heap.size = w.heap.size + 1 := by rw [hWe, World.size_alloc]
  have HWe := Lib.hid hWe; clear hWe
  go_enter Tryz.func32, Tryz.ntmps32
  go_wp2_with fail
  rw [← HWe.out]
  refine (at_newint (At.refl W) v h1 h2).mono ?_
  rintro e w1 ⟨p, rfl, h3⟩
  go_wp2_with fail
  refine (at_narrow_ok h3 (List.Mem.head _) hlen).mono ?_
  rintro e w2 ⟨⟨a, c, rfl, g1, g2⟩, h4⟩
  have g3 := g2.below ((Below.refl _ _).alloc (Nat.le_refl _) (.cells #[.bool (decide (v < 0)), .slice a (rep v.natAbs).length c] 24))
  have h5 := h4.alloc' (.cells #[.bool (decide (v < 0)), .slice a (rep v.natAbs).length c] 24)
  have r1 := r0.below h5.below r0.lt
  have k0 := r1.cell_at 0
  have k1 := r1.cell_at 1
  have k2 := r1.free 0
  have k3 := r1.free 1
  simp only [List.getElem?_cons_zero, List.getElem?_cons_succ] at k0 k1
  have hR := row2slice w2 24 #[.bool (decide (v < 0)), .slice a (rep v.natAbs).length c]
  have j0 := hR.cell_at 0
  have j1 := hR.cell_at 1
  simp only [List.getElem?_cons_zero, List.getElem?_cons_succ, List.getElem?_toArray, List.getElem?_eq_getElem] at j0 j1
  have hne : w2.heap.size ≠ w.heap.size := by have := h4.below.size; omega
  have hfin := hW.trans (h5.below.mono hW.size)
  obtain ⟨V, hV⟩ : ∃ V, V = w2.alloc (.cells #[.bool (decide (v < 0)), .slice a (rep v.natAbs).length c] 24) := ⟨_, rfl⟩
  rw [← hV] at g3 r1 hfin
  obtain ⟨U, hU⟩ : ∃ U, U = (V.setCell ⟨w.heap.size, 0, none⟩ (.bool (decide (v < 0)))).setCell ⟨w.heap.size, 1, none⟩ (.slice a (rep v.natAbs).length c) := ⟨_, rfl⟩
  have ra : Row U w.heap.size 24 [.bool (decide (v < 0)), .slice a (rep v.natAbs).length c] := by rw [hU]; exact (r1.store_any 0 _).store_any 1 _
  have hBU : Below w.heap.size w U := by rw [hU]; exact below_store (below_store hfin (Nat.le_refl _) _) (Nat.le_refl _) _
  have hlU : Lay .u32 U a (rep v.natAbs) := by rw [hU]; exact g3.pair r1 _ _
  have f0 := ra.cell_at 0
  have f1 := ra.cell_at 1
  simp only [List.getElem?_cons_zero, List.getElem?_cons_succ] at f0 f1
  rw [hV] at hU
  have HU := Lib.hid hU; clear hU
  go_wp2
  (try simp only [Exit.inBlock, Exit.then])
  rw [← HU.out]
  refine bodyPost_ret (v := .agg #[.bool (decide (v < 0)), .slice a (rep v.natAbs).length c]) (by simp [results, Tryz.results32, go_sem, f0, f1]) rfl ?_
  exact ⟨_, rfl, ⟨a, c, rfl, g1, hlU⟩, hBU⟩

end Go.Proofs.YtbffpkmfhkphdaaGreatDoor

namespace Go.Proofs.YtbffpkmfhkphdaaGreatDoor
open Go Go.RowKit Limb

/-- What a division answers. -/
def DivAnswer (ok fl : Bool) (w w' : World) (e : Ending) (z1 z2 : Int) : Prop :=
  if ok = false then DivNone w w' e 1 else if z2 = 0 then DivNone w w' e 90 else DivRes w w' e (dquo fl z1 z2) (drem fl z1 z2)

theorem DivAnswer.shape {ok fl : Bool} {w w' : World} {e : Ending} {z1 z2 : Int} (h : DivAnswer ok fl w w' e z1 z2) : ∃ b a n c b' a' n' c' k,
    e = .returned (.tuple #[.agg #[.bool b, .slice a n c], .agg #[.bool b', .slice a' n' c'], .int .i64 k]) ∧ Below w.heap.size w w' ∧
    (∀ w0 w2, Below w0.heap.size w0 w2 → (∀ x l, Lay .u32 w' x l → Lay .u32 w2 x l) → DivAnswer ok fl w0 w2 e z1 z2) := by
  unfold DivAnswer at h
  split at h
  · rename_i h0
    obtain ⟨hb, rfl⟩ := h
    exact ⟨_, _, _, _, _, _, _, _, _, rfl, hb, fun w0 w2 hb2 _ => by unfold DivAnswer; rw [if_pos h0]; exact ⟨hb2, rfl⟩⟩
  · rename_i h0
    split at h
    · rename_i h1
      obtain ⟨hb, rfl⟩ := h
      exact ⟨_, _, _, _, _, _, _, _, _, rfl, hb, fun w0 w2 hb2 _ => by unfold DivAnswer; rw [if_neg h0, if_pos h1]; exact ⟨hb2, rfl⟩⟩
    · rename_i h1
      obtain ⟨hb, aq, cq, ar, cr, rfl, g1, g2, g3, g4⟩ := h
      exact ⟨_, _, _, _, _, _, _, _, _, rfl, hb, fun w0 w2 hb2 hl => by unfold DivAnswer; rw [if_neg h0, if_neg h1]; exact ⟨hb2, aq, cq, ar, cr, rfl, g1, g2, hl _ _ g3, hl _ _ g4⟩⟩

theorem divide_ans (w : World) (n1 n2 fl : Bool) (a1 a2 : Option Addr) (l1 l2 : List Nat) (m1 m2 c1 c2 : Nat) (hy1 : Lay .u32 w a1 l1) (hy2 : Lay .u32 w a2 l2) (hl1 : Lim l1) (hl2 : Lim l2) (hm1 : m1 = l1.length) (hm2 : m2 = l2.length) (hb1 : m1 ≤ 9223372036854775807) (hb2 : m2 ≤ 9223372036854775807) :
    Calls Tryz.prog 102 #[.agg #[.bool n1, .slice a1 m1 c1], .agg #[.bool n2, .slice a2 m2 c2], .bool fl] w fun e w' => DivAnswer (mayB n1 l1 && mayB n2 l2) fl w w' e (signed n1 (val l1)) (signed n2 (val l2)) := by
  cases hok : (mayB n1 l1 && mayB n2 l2) with
  | false =>
    refine (divide_no w n1 n2 fl a1 a2 l1 l2 m1 m2 c1 c2 hy1 hy2 hl1 hl2 hm1 hm2 hb1 hb2 hok).mono ?_
    intro e w' h; unfold DivAnswer; rw [if_pos rfl]; exact h
  | true =>
    by_cases hz : signed n2 (val l2) = 0
    · have h0 : l2.length = 0 := by
        have hok' := hok
        simp only [Bool.and_eq_true] at hok'
        obtain ⟨y1, _, _⟩ := mayB_int hl2 hok'.2
        rw [y1, hz]; exact (rep_length_zero).mpr rfl
      refine (divide_zero w n1 n2 fl a1 a2 l1 l2 m1 m2 c1 c2 hy1 hy2 hl1 hl2 hm1 hm2 hb1 hb2 hok h0).mono ?_
      intro e w' h; unfold DivAnswer; rw [if_neg (by decide), if_pos hz]; exact h
    · refine (divide_ok w n1 n2 fl a1 a2 l1 l2 m1 m2 c1 c2 hy1 hy2 hl1 hl2 hm1 hm2 hb1 hb2 hok hz).mono ?_
      intro e w' h; unfold DivAnswer; rw [if_neg (by decide), if_neg hz]; exact h

set_option maxHeartbeats 800000 in
set_option maxRecDepth 100000 in
theorem large_quo (w : World) (n1 n2 : Bool) (a1 a2 : Option Addr) (l1 l2 : List Nat) (m1 m2 c1 c2 : Nat) (hy1 : Lay .u32 w a1 l1) (hy2 : Lay .u32 w a2 l2) (hl1 : Lim l1) (hl2 : Lim l2) (hm1 : m1 = l1.length) (hm2 : m2 = l2.length) (hb1 : m1 ≤ 9223372036854775807) (hb2 : m2 ≤ 9223372036854775807) :
    Calls Tryz.prog 36 #[.agg #[.bool n1, .slice a1 m1 c1], .agg #[.bool n2, .slice a2 m2 c2]] w fun e w' => DivAnswer (mayB n1 l1 && mayB n2 l2) false w w' e (signed n1 (val l1)) (signed n2 (val l2)) := by
  obtain ⟨W, hWe, r0, r1, r2, r3, hW, hsz⟩ := rows4 w 24 (.bool n1) (.slice a1 m1 c1) (.bool n2) (.slice a2 m2 c2) (.bool false) (.slice none 0 0) (.bool false) (.slice none 0 0)
  have HWe := Lib.hid hWe; clear hWe
  have HJ := Lib.hid (divide_ans W n1 n2 false a1 a2 l1 l2 m1 m2 c1 c2 (hy1.below hW) (hy2.below hW) hl1 hl2 hm1 hm2 hb1 hb2)
  clear hm1 hm2
  go_enter Tryz.func36, Tryz.ntmps36
  go_wp2_with fail
  rw [← HWe.out]
  refine HJ.out.mono ?_
  rintro e w1 hans
  obtain ⟨b, a, n, c, b', a', n', c', k, rfl, hb, hnext⟩ := hans.shape
  have HN := Lib.hid hnext; clear hnext hans
  have hBV : Below w.heap.size w w1 := hW.trans (hb.mono hW.size)
  have ra := r2.below hb r2.lt
  have rb := r3.below hb r3.lt
  have d0 := ra.cell_at 0
  have d1 := ra.cell_at 1
  have e0 := rb.cell_at 0
  have e1 := rb.cell_at 1
  have d2 := ra.free 0
  have d3 := ra.free 1
  have e2 := rb.free 0
  have e3 := rb.free 1
  simp only [List.getElem?_cons_zero, List.getElem?_cons_succ] at d0 d1 e0 e1
  have hrb : Row ((w1.setCell ⟨w.heap.size + 1 + 1, 0, none⟩ (.bool b)).setCell ⟨w.heap.size + 1 + 1, 1, none⟩ (.slice a n c)) (w.heap.size + 1 + 1 + 1) 24 [.bool false, .slice none 0 0] := (rb.other (by simp) _).other (by simp) _
  obtain ⟨U, hU⟩ : ∃ U, U = (((w1.setCell ⟨w.heap.size + 1 + 1, 0, none⟩ (.bool b)).setCell ⟨w.heap.size + 1 + 1, 1, none⟩ (.slice a n c)).setCell ⟨w.heap.size + 1 + 1 + 1, 0, none⟩ (.bool b')).setCell ⟨w.heap.size + 1 + 1 + 1, 1, none⟩ (.slice a' n' c') := ⟨_, rfl⟩
  have ga : Row U (w.heap.size + 1 + 1) 24 [.bool b, .slice a n c] := by rw [hU]; exact (((ra.store_any 0 (.bool b)).store_any 1 (.slice a n c)).other (by simp) _).other (by simp) _
  have gb : Row U (w.heap.size + 1 + 1 + 1) 24 [.bool b', .slice a' n' c'] := by rw [hU]; exact (hrb.store_any 0 _).store_any 1 _
  have hfin : Below w.heap.size w U := by rw [hU]; exact below_store (below_store (below_store (below_store hBV (by omega) _) (by omega) _) (by omega) _) (by omega) _
  have hlay : ∀ x l, Lay .u32 w1 x l → Lay .u32 U x l := fun x l hl => by rw [hU]; exact (hl.pair ra _ _).pair hrb _ _
  have f0 := ga.cell_at 0
  have f1 := ga.cell_at 1
  have f2 := gb.cell_at 0
  have f3 := gb.cell_at 1
  simp only [List.getElem?_cons_zero, List.getElem?_cons_succ] at f0 f1 f2 f3
  have HV := Lib.hid hU; clear hU hrb
  have HL := Lib.hid hlay; clear hlay
  go_wp2
  (try simp only [Exit.inBlock, Exit.then])
  rw [← HV.out]
  refine bodyPost_ret (v := .tuple #[.agg #[.bool b, .slice a n c], .agg #[.bool b', .slice a' n' c'], .int .i64 k]) (by simp [results, Tryz.results36, go_sem, f0, f1, f2, f3]) rfl ?_
  exact HN.out _ _ hfin HL.out

set_option maxHeartbeats 800000 in
set_option maxRecDepth 100000 in
theorem large_div (w : World) (n1 n2 : Bool) (a1 a2 : Option Addr) (l1 l2 : List Nat) (m1 m2 c1 c2 : Nat) (hy1 : Lay .u32 w a1 l1) (hy2 : Lay .u32 w a2 l2) (hl1 : Lim l1) (hl2 : Lim l2) (hm1 : m1 = l1.length) (hm2 : m2 = l2.length) (hb1 : m1 ≤ 9223372036854775807) (hb2 : m2 ≤ 9223372036854775807) :
    Calls Tryz.prog 75 #[.agg #[.bool n1, .slice a1 m1 c1], .agg #[.bool n2, .slice a2 m2 c2]] w fun e w' => DivAnswer (mayB n1 l1 && mayB n2 l2) true w w' e (signed n1 (val l1)) (signed n2 (val l2)) := by
  obtain ⟨W, hWe, r0, r1, r2, r3, hW, hsz⟩ := rows4 w 24 (.bool n1) (.slice a1 m1 c1) (.bool n2) (.slice a2 m2 c2) (.bool false) (.slice none 0 0) (.bool false) (.slice none 0 0)
  have HWe := Lib.hid hWe; clear hWe
  have HJ := Lib.hid (divide_ans W n1 n2 true a1 a2 l1 l2 m1 m2 c1 c2 (hy1.below hW) (hy2.below hW) hl1 hl2 hm1 hm2 hb1 hb2)
  clear hm1 hm2
  go_enter Tryz.func75, Tryz.ntmps75
  go_wp2_with fail
  rw [← HWe.out]
  refine HJ.out.mono ?_
  rintro e w1 hans
  obtain ⟨b, a, n, c, b', a', n', c', k, rfl, hb, hnext⟩ := hans.shape
  have HN := Lib.hid hnext; clear hnext hans
  have hBV : Below w.heap.size w w1 := hW.trans (hb.mono hW.size)
  have ra := r2.below hb r2.lt
  have rb := r3.below hb r3.lt
  have d0 := ra.cell_at 0
  have d1 := ra.cell_at 1
  have e0 := rb.cell_at 0
  have e1 := rb.cell_at 1
  have d2 := ra.free 0
  have d3 := ra.free 1
  have e2 := rb.free 0
  have e3 := rb.free 1
  simp only [List.getElem?_cons_zero, List.getElem?_cons_succ] at d0 d1 e0 e1
  have hrb : Row ((w1.setCell ⟨w.heap.size + 1 + 1, 0, none⟩ (.bool b)).setCell ⟨w.heap.size + 1 + 1, 1, none⟩ (.slice a n c)) (w.heap.size + 1 + 1 + 1) 24 [.bool false, .slice none 0 0] := (rb.other (by simp) _).other (by simp) _
  obtain ⟨U, hU⟩ : ∃ U, U = (((w1.setCell ⟨w.heap.size + 1 + 1, 0, none⟩ (.bool b)).setCell ⟨w.heap.size + 1 + 1, 1, none⟩ (.slice a n c)).setCell ⟨w.heap.size + 1 + 1 + 1, 0, none⟩ (.bool b')).setCell ⟨w.heap.size + 1 + 1 + 1, 1, none⟩ (.slice a' n' c') := ⟨_, rfl⟩
  have ga : Row U (w.heap.size + 1 + 1) 24 [.bool b, .slice a n c] := by rw [hU]; exact (((ra.store_any 0 (.bool b)).store_any 1 (.slice a n c)).other (by simp) _).other (by simp) _
  have gb : Row U (w.heap.size + 1 + 1 + 1) 24 [.bool b', .slice a' n' c'] := by rw [hU]; exact (hrb.store_any 0 _).store_any 1 _
  have hfin : Below w.heap.size w U := by rw [hU]; exact below_store (below_store (below_store (below_store hBV (by omega) _) (by omega) _) (by omega) _) (by omega) _
  have hlay : ∀ x l, Lay .u32 w1 x l → Lay .u32 U x l := fun x l hl => by rw [hU]; exact (hl.pair ra _ _).pair hrb _ _
  have f0 := ga.cell_at 0
  have f1 := ga.cell_at 1
  have f2 := gb.cell_at 0
  have f3 := gb.cell_at 1
  simp only [List.getElem?_cons_zero, List.getElem?_cons_succ] at f0 f1 f2 f3
  have HV := Lib.hid hU; clear hU hrb
  have HL := Lib.hid hlay; clear hlay
  go_wp2
  (try simp only [Exit.inBlock, Exit.then])
  rw [← HV.out]
  refine bodyPost_ret (v := .tuple #[.agg #[.bool b, .slice a n c], .agg #[.bool b', .slice a' n' c'], .int .i64 k]) (by simp [results, Tryz.results75, go_sem, f0, f1, f2, f3]) rfl ?_
  exact HN.out _ _ hfin HL.out

end Go.Proofs.YtbffpkmfhkphdaaGreatDoor
