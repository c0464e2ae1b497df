/- large.Compare and large.Of. The walk of (*Int).Exp of package big with no modulus. -/
import Derived.Test.YtbffpkmfhkphdaaGreatDoorGX21
import Derived.Test.YtbffpkmfhkphdaaGreatDoorGX24
import Derived.Test.YtbffpkmfhkphdaaGreatDoorGX13
import Derived.Test.YtbffpkmfhkphdaaGreatDoorGX00
set_option linter.unusedVariables false
set_option linter.unusedSimpArgs false
namespace Go.Proofs.YtbffpkmfhkphdaaGreatDoor
open Go Go.RowKit Limb

theorem rows2 (w : World) (t : TypeId) (a0 a1 b0 b1 : Value) : ∃ W, W = (w.alloc (.cells #[a0, a1] t)).alloc (.cells #[b0, b1] t) ∧
    Row W w.heap.size t [a0, a1] ∧ Row W (w.heap.size + 1) t [b0, b1] ∧ Below w.heap.size w W ∧ W.heap.size = w.heap.size + 1 + 1 := by
  have s1 := World.size_alloc w (.cells #[a0, a1] t)
  refine ⟨_, rfl, ?_, ?_, ((Below.refl _ _).alloc (Nat.le_refl _) _).alloc (by omega) _, by rw [World.size_alloc, s1]⟩
  · refine Row.alloc ?_ _; unfold Row; exact heap_alloc_new _ _
  · unfold Row; have := heap_alloc_new (w.alloc (.cells #[a0, a1] t)) (.cells #[b0, b1] t); rw [s1] at this; exact this

theorem at_cmp {w1 X : World} {l : List (Nat × Int)} {p q : Nat} {x y : Int} (h : At w1 X l) (hp : (p, x) ∈ l) (hq : (q, y) ∈ l) (hs : (rep x.natAbs).length ≤ 68719476736) (ht : (rep y.natAbs).length ≤ 68719476736) :
    Calls Tryz.prog 105 #[.pointer (some ⟨p, 0, none⟩), .pointer (some ⟨q, 0, none⟩)] X fun e X' => e = .returned (.int .i64 (cmpZ x y)) ∧ At w1 X' l := by
  refine (int_cmp X p q x y (h.ints _ hp).1 (h.ints _ hq).1 hs ht).mono ?_
  rintro e X' ⟨rfl, n, rfl⟩
  exact ⟨rfl, h.drewN n⟩

set_option maxHeartbeats 1600000 in
set_option maxRecDepth 100000 in
theorem large_compare (w : World) (n1 n2 : Bool) (a1 a2 : Option Addr) (l1 l2 : List Nat) (m1 m2 c1 c2 : Nat) (hy1 : Lay .u32 w a1 l1) (hy2 : Lay .u32 w a2 l2) (hl1 : Lim l1) (hl2 : Lim l2) (hm1 : m1 = l1.length) (hm2 : m2 = l2.length) (hb1 : m1 ≤ 9223372036854775807) (hb2 : m2 ≤ 9223372036854775807) :
    Calls Tryz.prog 39 #[.agg #[.bool n1, .slice a1 m1 c1], .agg #[.bool n2, .slice a2 m2 c2]] w fun e w' =>
      e = .returned (.tuple #[.int .i64 (if (mayB n1 l1 && mayB n2 l2) = true then cmpZ (signed n1 (val l1)) (signed n2 (val l2)) else 0), .int .i64 (if (mayB n1 l1 && mayB n2 l2) = true then 0 else 1)]) ∧ Below w.heap.size w w' := by
  obtain ⟨W, hWe, r0, r1, hW, hsz⟩ := rows2 w 24 (.bool n1) (.slice a1 m1 c1) (.bool n2) (.slice a2 m2 c2)
  have HWe := Lib.hid hWe; clear hWe
  have hmay := fun g h1 h2 h3 => large_may2 (W.alloc (.cells #[.bool n1, .slice a1 m1 c1, .bool n2, .slice a2 m2 c2] 24)) g n1 n2 a1 a2 l1 l2 m1 m2 c1 c2 h1 h2 h3 hl1 hl2 hm1 hm2 hb1 hb2
  have Hm1 := Lib.hid hm1; clear hm1
  have Hm2 := Lib.hid hm2; clear hm2
  have hmay' := hmay (w.heap.size + 1 + 1) (by rw [← hsz]; exact row2slice _ _ _) ((hy1.below hW).below ((Below.refl _ _).alloc (Nat.le_refl _) _)) ((hy2.below hW).below ((Below.refl _ _).alloc (Nat.le_refl _) _))
  have HM := Lib.hid hmay'; clear hmay hmay'
  cases hb : (mayB n1 l1 && mayB n2 l2) with
  | false =>
    rw [hb] at HM
    clear hb
    go_enter Tryz.func39, Tryz.ntmps39
    go_wp2_with fail
    rw [← HWe.out]
    refine HM.out.mono ?_
    rintro e w1 ⟨rfl, hbw⟩
    have hB1 : Below w.heap.size w w1 := hW.trans ((below_over hbw).mono hW.size)
    go_wp2
    (try simp only [Exit.inBlock, Exit.then])
    refine bodyPost_ret (v := .tuple #[.int .i64 0, .int .i64 1]) (by simp [results, Tryz.results39, go_sem]) rfl ?_
    exact ⟨rfl, hB1⟩
  | true =>
    rw [hb] at HM
    simp only [Bool.and_eq_true] at hb
    obtain ⟨x1, x2, x3⟩ := mayB_int hl1 hb.1
    obtain ⟨y1, y2, y3⟩ := mayB_int hl2 hb.2
    have s1 : (rep (signed n1 (val l1)).natAbs).length ≤ 68719476736 := by rw [← x1]; omega
    have s2 : (rep (signed n2 (val l2)).natAbs).length ≤ 68719476736 := by rw [← y1]; omega
    have ls1 : m1 ≤ 1024 := by rw [Hm1.out]; exact x3
    have ls2 : m2 ≤ 1024 := by rw [Hm2.out]; exact y3
    clear hb x1 x2 y1 y2
    rw [if_pos rfl, if_pos rfl]
    obtain ⟨z1, hz1⟩ : ∃ z, z = signed n1 (val l1) := ⟨_, rfl⟩
    obtain ⟨z2, hz2⟩ : ∃ z, z = signed n2 (val l2) := ⟨_, rfl⟩
    rw [← hz1] at s1 ⊢
    rw [← hz2] at s2 ⊢
    go_enter Tryz.func39, Tryz.ntmps39
    go_wp2_with fail
    rw [← HWe.out]
    refine HM.out.mono ?_
    rintro e w1 ⟨rfl, hbw⟩
    have hbw' := below_over hbw
    have hB1 : Below w.heap.size w w1 := hW.trans (hbw'.mono hW.size)
    have q0 := r0.below hbw' r0.lt
    have q1 := r1.below hbw' r1.lt
    have l1' := hy1.below hB1
    have l2' := hy2.below hB1
    have hsz1 : w.heap.size + 2 ≤ w1.heap.size := by have := hbw'.size; omega
    have hw : ∀ X ls v z, (v = .agg #[.bool n1, .slice a1 m1 c1] ∧ z = z1) ∨ (v = .agg #[.bool n2, .slice a2 m2 c2] ∧ z = z2) → At w1 X ls → Calls Tryz.prog 60 #[v] X fun e X' => ∃ p, e = .returned (.pointer (some ⟨p, 0, none⟩)) ∧ At w1 X' ((p, z) :: ls) := by
      rintro X ls v z (⟨rfl, rfl⟩ | ⟨rfl, rfl⟩) h
      · rw [hz1]; exact at_wide h n1 a1 l1 m1 c1 l1' hl1 Hm1.out (by omega)
      · rw [hz2]; exact at_wide h n2 a2 l2 m2 c2 l2' hl2 Hm2.out (by omega)
    have HW := Lib.hid hw; clear hw hz1 hz2
    have hk : ∀ X, Below w1.heap.size w1 X → (X.cell? ⟨w.heap.size, 0, none⟩ = some (.bool n1) ∧ X.cell? ⟨w.heap.size, 1, none⟩ = some (.slice a1 m1 c1) ∧ X.cell? ⟨w.heap.size + 1, 0, none⟩ = some (.bool n2) ∧ X.cell? ⟨w.heap.size + 1, 1, none⟩ = some (.slice a2 m2 c2)) := by
      intro X hX
      have p0 := q0.below hX (by omega)
      have p1 := q1.below hX (by omega)
      exact ⟨p0.cell_at 0, p0.cell_at 1, p1.cell_at 0, p1.cell_at 1⟩
    have HK := Lib.hid hk; clear hk
    have h := At.refl w1
    clear q0 q1 l1' l2' hbw' hbw
    go_wp2_with fail
    go_region_held3 (fun X => (X.cell? ⟨w.heap.size, 0, none⟩ = some (.bool n1) ∧ X.cell? ⟨w.heap.size, 1, none⟩ = some (.slice a1 m1 c1) ∧ X.cell? ⟨w.heap.size + 1, 0, none⟩ = some (.bool n2) ∧ X.cell? ⟨w.heap.size + 1, 1, none⟩ = some (.slice a2 m2 c2)))
      (first | (apply HK.out; apply At.below; (repeat (first | exact h | apply At.drew | apply At.drewN | apply At.new)); done) | fail)
      (first
        | (go_at_call 60; apply Calls.mono; apply HW.out; (first | exact .inl ⟨rfl, rfl⟩ | exact .inr ⟨rfl, rfl⟩); (repeat (first | exact h | apply At.drew | apply At.drewN | apply At.new)); clear h; rintro e w' ⟨p, rfl, h⟩)
        | (go_at_call 105; apply Calls.mono; apply at_cmp (w1 := w1) (hs := s1) (ht := s2); (repeat (first | exact h | apply At.drew | apply At.drewN | apply At.new)); (first | exact .head _ | exact .tail _ (.head _) | exact .tail _ (.tail _ (.head _)) | exact .tail _ (.tail _ (.tail _ (.head _))) | exact .tail _ (.tail _ (.tail _ (.tail _ (.head _))))); (first | exact .head _ | exact .tail _ (.head _) | exact .tail _ (.tail _ (.head _)) | exact .tail _ (.tail _ (.tail _ (.head _))) | exact .tail _ (.tail _ (.tail _ (.tail _ (.head _))))); clear h; rintro e w' ⟨rfl, h⟩))
    all_goals
      have hfin := hB1.trans (h.below.mono hB1.size)
      go_wp2
      (try simp only [Exit.inBlock, Exit.then])
      refine bodyPost_ret (v := .tuple #[.int .i64 (cmpZ z1 z2), .int .i64 0]) (by simp [results, Tryz.results39, go_sem]) rfl ?_
      exact ⟨rfl, hfin⟩

/-- The value of an integer of package api. -/
def ApiV (w : World) (v : Value) (z : Int) : Prop := ∃ a cap, v = .agg #[.bool (decide (z < 0)), .slice a (rep z.natAbs).length cap] ∧ (rep z.natAbs).length ≤ cap ∧ Lay .u32 w a (rep z.natAbs)

theorem len_i64 {v : Int} (h1 : -9223372036854775808 ≤ v) (h2 : v ≤ 9223372036854775807) : (rep v.natAbs).length ≤ 2 := by
  rw [rep_length_le, show Limb.W 2 = 18446744073709551616 from by decide]; omega

set_option maxHeartbeats 800000 in
set_option maxRecDepth 100000 in
theorem large_of (w : World) (v : Int) (h1 : -9223372036854775808 ≤ v) (h2 : v ≤ 9223372036854775807) :
    Calls Tryz.prog 32 #[.int .i64 v] w fun e w' => ∃ u, e = .returned u ∧ ApiV w' u v ∧ Below w.heap.size w w' := by
  have hlen := Nat.le_trans (len_i64 h1 h2) (by decide : 2 ≤ 1024)
  obtain ⟨W, hWe⟩ : ∃ W, W = w.alloc (.cells #[.bool false, .slice none 0 0] 24) := ⟨_, rfl⟩
  have r0 : Row W w.heap.size 24 [.bool false, .slice none 0 0] := by rw [hWe]; exact row2slice _ _ _
  have hW : Below w.heap.size w W := by rw [hWe]; exact (Below.refl _ _).alloc (Nat.le_refl _) _
  have hsz : W.heap.size = w.heap.size + 1 := by rw [hWe, World.size_alloc]
  have HWe := Lib.hid hWe; clear hWe
  go_enter Tryz.func32, Tryz.ntmps32
  go_wp2_with fail
  rw [← HWe.out]
  refine (at_newint (At.refl W) v h1 h2).mono ?_
  rintro e w1 ⟨p, rfl, h3⟩
  go_wp2_with fail
  refine (at_narrow_ok h3 (List.Mem.head _) hlen).mono ?_
  rintro e w2 ⟨⟨a, c, rfl, g1, g2⟩, h4⟩
  have g3 := g2.below ((Below.refl _ _).alloc (Nat.le_refl _) (.cells #[.bool (decide (v < 0)), .slice a (rep v.natAbs).length c] 24))
  have h5 := h4.alloc' (.cells #[.bool (decide (v < 0)), .slice a (rep v.natAbs).length c] 24)
  have r1 := r0.below h5.below r0.lt
  have k0 := r1.cell_at 0
  have k1 := r1.cell_at 1
  have k2 := r1.free 0
  have k3 := r1.free 1
  simp only [List.getElem?_cons_zero, List.getElem?_cons_succ] at k0 k1
  have hR := row2slice w2 24 #[.bool (decide (v < 0)), .slice a (rep v.natAbs).length c]
  have j0 := hR.cell_at 0
  have j1 := hR.cell_at 1
  simp only [List.getElem?_cons_zero, List.getElem?_cons_succ, List.getElem?_toArray, List.getElem?_eq_getElem] at j0 j1
  have hne : w2.heap.size ≠ w.heap.size := by have := h4.below.size; omega
  have hfin := hW.trans (h5.below.mono hW.size)
  obtain ⟨V, hV⟩ : ∃ V, V = w2.alloc (.cells #[.bool (decide (v < 0)), .slice a (rep v.natAbs).length c] 24) := ⟨_, rfl⟩
  rw [← hV] at g3 r1 hfin
  obtain ⟨U, hU⟩ : ∃ U, U = (V.setCell ⟨w.heap.size, 0, none⟩ (.bool (decide (v < 0)))).setCell ⟨w.heap.size, 1, none⟩ (.slice a (rep v.natAbs).length c) := ⟨_, rfl⟩
  have ra : Row U w.heap.size 24 [.bool (decide (v < 0)), .slice a (rep v.natAbs).length c] := by rw [hU]; exact (r1.store_any 0 _).store_any 1 _
  have hBU : Below w.heap.size w U := by rw [hU]; exact below_store (below_store hfin (Nat.le_refl _) _) (Nat.le_refl _) _
  have hlU : Lay .u32 U a (rep v.natAbs) := by rw [hU]; exact g3.pair r1 _ _
  have f0 := ra.cell_at 0
  have f1 := ra.cell_at 1
  simp only [List.getElem?_cons_zero, List.getElem?_cons_succ] at f0 f1
  rw [hV] at hU
  have HU := Lib.hid hU; clear hU
  go_wp2
  (try simp only [Exit.inBlock, Exit.then])
  rw [← HU.out]
  refine bodyPost_ret (v := .agg #[.bool (decide (v < 0)), .slice a (rep v.natAbs).length c]) (by simp [results, Tryz.results32, go_sem, f0, f1]) rfl ?_
  exact ⟨_, rfl, ⟨a, c, rfl, g1, hlU⟩, hBU⟩

end Go.Proofs.YtbffpkmfhkphdaaGreatDoor

namespace Go.Proofs.YtbffpkmfhkphdaaGreatDoor
open Go Go.RowKit Limb

theorem pow_even {x : Int} {k : Nat} (h : k % 2 = 0) : 0 ≤ x ^ k := by
  rw [show k = 2 * (k / 2) from by omega, Int.pow_mul]
  exact Int.pow_nonneg (by rw [Int.pow_succ, Int.pow_succ, Int.pow_zero, Int.one_mul]; rcases Int.le_total 0 x with h | h; exact Int.mul_nonneg h h; exact Int.mul_nonneg_of_nonpos_of_nonpos h h)
theorem pow_neg_odd {x : Int} {k : Nat} (hx : x < 0) (h : k % 2 = 1) : x ^ k ≤ 0 := by
  rw [show k = (k - 1) + 1 from by omega, Int.pow_succ]
  exact Int.mul_nonpos_of_nonneg_of_nonpos (pow_even (by omega)) (by omega)

set_option maxHeartbeats 4000000 in
set_option maxRecDepth 100000 in
theorem int_expnil (w : World) (p q r : Nat) (v x : Int) (k : Nat) (hp : IntAt w p v) (hq : IntAt w q x) (hr : IntAt w r (k : Int)) (hx : x ≠ 0) (hk : k < 18446744073709551616) (lx : (rep x.natAbs).length ≤ 68719476736) (lT : (rep (x ^ k).natAbs).length ≤ 68719476736) :
    Calls Tryz.prog 82 #[.pointer (some ⟨p, 0, none⟩), .pointer (some ⟨q, 0, none⟩), .pointer (some ⟨r, 0, none⟩), .pointer none] w fun e w' => IntRes w w' e p (x ^ k) := by
  obtain ⟨b1, a1, n1, cap1, Hb1, Hn1, hc1, hl1, hcells1⟩ := hq.use
  obtain ⟨b2, a2, n2, cap2, Hb2, Hn2, hc2, hl2, hcells2⟩ := hr.use
  have epow : (x ^ k).natAbs = x.natAbs ^ k := Int.natAbs_pow x k
  have hB : ∀ X, Below w.heap.size w X → X.cell? ⟨q, 0, none⟩ = some (.bool b1) ∧ X.cell? ⟨q, 1, none⟩ = some (.slice a1 n1 cap1) ∧ X.cell? ⟨r, 1, none⟩ = some (.slice a2 n2 cap2) := fun X h =>
    ⟨(hcells1 X (Only.of_below h)).1, (hcells1 X (Only.of_below h)).2, (hcells2 X (Only.of_below h)).2⟩
  have HB := Lib.hid hB; clear hB hcells1 hcells2
  have l2 : n2 ≤ 9223372036854775807 := by
    rw [Hn2.out]; refine Nat.le_trans (rep_length_le.mpr ?_) (by decide : 2 ≤ 9223372036854775807)
    rw [show Limb.W 2 = 18446744073709551616 from by decide]; omega
  have hlow := fun X h => big_low X a2 (rep (k : Int).natAbs) n2 cap2 h (rep_lim _) Hn2.out l2
  rw [val_rep, show (k : Int).natAbs % 18446744073709551616 = k from by omega] at hlow
  have HL := Lib.hid hlow; clear hlow
  have hpow := fun X h => big_power X a1 n1 cap1 x.natAbs k h Hn1.out hc1 (by omega) hk (by rw [← epow]; exact lT) lx
  rw [← epow] at hpow
  have HP := Lib.hid hpow; clear hpow
  obtain ⟨T, hT⟩ : ∃ T, T = x ^ k := ⟨_, rfl⟩
  rw [← hT] at HP ⊢
  clear epow lT
  have h := Below.refl w.heap.size w
  obtain ⟨k0, k1, k2⟩ := HB.out w h
  by_cases hneg : x < 0
  · have hb : b1 = true := by rw [Hb1.out]; simpa using hneg
    subst hb
    have hbit := int_bit w.drew r 0 (k : Int) (hr.drewN 1) (by omega)
    rw [show (k : Int).natAbs / 2 ^ 0 % 2 = k % 2 from by rw [Nat.pow_zero, Nat.div_one]; omega] at hbit
    by_cases hpar : k % 2 = 1
    · have hT0 : T ≤ 0 := by rw [hT]; exact pow_neg_odd hneg hpar
      rw [hpar] at hbit
      have HBit := Lib.hid hbit; clear hbit
      clear hT Hb1 hneg hpar
      have hS : (w.drew.cell? ⟨q, 0, none⟩ = some (.bool true) ∧ w.drew.cell? ⟨q, 1, none⟩ = some (.slice a1 n1 cap1) ∧ w.drew.cell? ⟨r, 1, none⟩ = some (.slice a2 n2 cap2)) := HB.out _ h.drew
      go_enter Tryz.func82, Tryz.ntmps82
      go_wp2_with fail
      refine wp_region_S (n := 20) (S := fun X => X.cell? ⟨q, 0, none⟩ = some (.bool true) ∧ X.cell? ⟨q, 1, none⟩ = some (.slice a1 n1 cap1) ∧ X.cell? ⟨r, 1, none⟩ = some (.slice a2 n2 cap2)) (by kernel_rfl) (by decide) (fun inv => ?_)
      refine wpAnyS_take_at (i := 0) (v := .pointer (some ⟨p, 0, none⟩)) 16 inv rfl rfl (by kernel_rfl) (by kernel_rfl) (by kernel_rfl) (by decide) (by decide) (by kernel_rfl) (by kernel_rfl) (fun _ _ _ h => h) (.inl ⟨rfl, fun w hS => rfl⟩) hS (fun inv => ?_)
      simp only [Act.put, List.setIfInBounds_toArray, List.set_cons_zero, List.set_cons_succ]
      refine wpAnyS_take_at (i := 1) (v := .pointer (some ⟨q, 0, none⟩)) 17 inv rfl rfl (by kernel_rfl) (by kernel_rfl) (by kernel_rfl) (by decide) (by decide) (by kernel_rfl) (by kernel_rfl) (fun _ _ _ h => h) (.inl ⟨rfl, fun w hS => rfl⟩) hS (fun inv => ?_)
      simp only [Act.put, List.setIfInBounds_toArray, List.set_cons_zero, List.set_cons_succ]
      refine wpAnyS_take_at (i := 2) (v := .pointer (some ⟨q, 0, none⟩)) 18 inv rfl rfl (by kernel_rfl) (by kernel_rfl) (by kernel_rfl) (by decide) (by decide) (by kernel_rfl) (by kernel_rfl) (fun _ _ _ h => h) (.inl ⟨rfl, fun w hS => rfl⟩) hS (fun inv => ?_)
      simp only [Act.put, List.setIfInBounds_toArray, List.set_cons_zero, List.set_cons_succ]
      refine wpAnyS_take_at (i := 3) (v := .pointer (some ⟨q, 0, none⟩)) 19 inv rfl rfl (by kernel_rfl) (by kernel_rfl) (by kernel_rfl) (by decide) (by decide) (by kernel_rfl) (by kernel_rfl) (fun _ _ _ h => h) (.inl ⟨rfl, fun w hS => rfl⟩) hS (fun inv => ?_)
      simp only [Act.put, List.setIfInBounds_toArray, List.set_cons_zero, List.set_cons_succ]
      refine wpAnyS_take_at (i := 4) (v := .bool true) 20 inv rfl rfl (by kernel_rfl) (by kernel_rfl) (by kernel_rfl) (by decide) (by decide) (by kernel_rfl) (by kernel_rfl) (fun _ _ _ h => h) (.inl ⟨rfl, fun w hS => by obtain ⟨h0, h1, h2⟩ := hS; go_simp⟩) hS (fun inv => ?_)
      simp only [Act.put, List.setIfInBounds_toArray, List.set_cons_zero, List.set_cons_succ]
      refine wpAnyS_take_at (i := 5) (v := .bool true) 21 inv rfl rfl (by kernel_rfl) (by kernel_rfl) (by kernel_rfl) (by decide) (by decide) (by kernel_rfl) (by kernel_rfl) (fun _ _ _ h => h) (.inl ⟨rfl, fun w hS => rfl⟩) hS (fun inv => ?_)
      simp only [Act.put, List.setIfInBounds_toArray, List.set_cons_zero, List.set_cons_succ]
      refine wpAnyS_take_at (i := 10) (v := .pointer (some ⟨q, 0, none⟩)) 26 inv rfl rfl (by kernel_rfl) (by kernel_rfl) (by kernel_rfl) (by decide) (by decide) (by kernel_rfl) (by kernel_rfl) (fun _ _ _ h => h) (.inl ⟨rfl, fun w hS => rfl⟩) hS (fun inv => ?_)
      simp only [Act.put, List.setIfInBounds_toArray, List.set_cons_zero, List.set_cons_succ]
      refine wpAnyS_take_at (i := 11) (v := .pointer (some ⟨q, 0, none⟩)) 27 inv rfl rfl (by kernel_rfl) (by kernel_rfl) (by kernel_rfl) (by decide) (by decide) (by kernel_rfl) (by kernel_rfl) (fun _ _ _ h => h) (.inl ⟨rfl, fun w hS => rfl⟩) hS (fun inv => ?_)
      simp only [Act.put, List.setIfInBounds_toArray, List.set_cons_zero, List.set_cons_succ]
      refine wpAnyS_take_at (i := 12) (v := .pointer (some ⟨q, 1, none⟩)) 28 inv rfl rfl (by kernel_rfl) (by kernel_rfl) (by kernel_rfl) (by decide) (by decide) (by kernel_rfl) (by kernel_rfl) (fun _ _ _ h => h) (.inl ⟨rfl, fun w hS => rfl⟩) hS (fun inv => ?_)
      simp only [Act.put, List.setIfInBounds_toArray, List.set_cons_zero, List.set_cons_succ]
      refine wpAnyS_take_at (i := 13) (v := .slice a1 n1 cap1) 29 inv rfl rfl (by kernel_rfl) (by kernel_rfl) (by kernel_rfl) (by decide) (by decide) (by kernel_rfl) (by kernel_rfl) (fun _ _ _ h => h) (.inl ⟨rfl, fun w hS => by obtain ⟨h0, h1, h2⟩ := hS; go_simp⟩) hS (fun inv => ?_)
      simp only [Act.put, List.setIfInBounds_toArray, List.set_cons_zero, List.set_cons_succ]
      refine wpAnyS_take_at (i := 14) (v := .pointer (some ⟨r, 0, none⟩)) 30 inv rfl rfl (by kernel_rfl) (by kernel_rfl) (by kernel_rfl) (by decide) (by decide) (by kernel_rfl) (by kernel_rfl) (fun _ _ _ h => h) (.inl ⟨rfl, fun w hS => rfl⟩) hS (fun inv => ?_)
      simp only [Act.put, List.setIfInBounds_toArray, List.set_cons_zero, List.set_cons_succ]
      refine wpAnyS_take_at (i := 15) (v := .pointer (some ⟨r, 0, none⟩)) 31 inv rfl rfl (by kernel_rfl) (by kernel_rfl) (by kernel_rfl) (by decide) (by decide) (by kernel_rfl) (by kernel_rfl) (fun _ _ _ h => h) (.inl ⟨rfl, fun w hS => rfl⟩) hS (fun inv => ?_)
      simp only [Act.put, List.setIfInBounds_toArray, List.set_cons_zero, List.set_cons_succ]
      refine wpAnyS_take_at (i := 16) (v := .pointer (some ⟨r, 1, none⟩)) 32 inv rfl rfl (by kernel_rfl) (by kernel_rfl) (by kernel_rfl) (by decide) (by decide) (by kernel_rfl) (by kernel_rfl) (fun _ _ _ h => h) (.inl ⟨rfl, fun w hS => rfl⟩) hS (fun inv => ?_)
      simp only [Act.put, List.setIfInBounds_toArray, List.set_cons_zero, List.set_cons_succ]
      refine wpAnyS_take_at (i := 17) (v := .slice a2 n2 cap2) 33 inv rfl rfl (by kernel_rfl) (by kernel_rfl) (by kernel_rfl) (by decide) (by decide) (by kernel_rfl) (by kernel_rfl) (fun _ _ _ h => h) (.inl ⟨rfl, fun w hS => by obtain ⟨h0, h1, h2⟩ := hS; go_simp⟩) hS (fun inv => ?_)
      simp only [Act.put, List.setIfInBounds_toArray, List.set_cons_zero, List.set_cons_succ]
      refine wpAnyS_take_at (i := 6) (v := .pointer (some ⟨r, 0, none⟩)) 22 inv rfl rfl (by kernel_rfl) (by kernel_rfl) (by kernel_rfl) (by decide) (by decide) (by kernel_rfl) (by kernel_rfl) (fun _ _ _ h => h) (.inl ⟨rfl, fun w hS => rfl⟩) hS (fun inv => ?_)
      simp only [Act.put, List.setIfInBounds_toArray, List.set_cons_zero, List.set_cons_succ]
      refine wpAnyS_one (i := 7) inv (by decide) (by kernel_rfl) (fun inv => ?_)
      unfold wpOp
      go_simp
      refine .inl (HBit.out.mono ?_)
      rintro e w1 ⟨rfl, rfl⟩
      refine ⟨hS, ?_⟩
      refine wpAnyS_take_at (i := 8) (v := .bool true) 24 inv rfl rfl (by kernel_rfl) (by kernel_rfl) (by kernel_rfl) (by decide) (by decide) (by kernel_rfl) (by kernel_rfl) (fun _ _ _ h => h) (.inl ⟨rfl, fun w hS => by go_simp⟩) hS (fun inv => ?_)
      simp only [Act.put, List.setIfInBounds_toArray, List.set_cons_zero, List.set_cons_succ]
      refine wpAnyS_take_at (i := 9) (v := .bool true) 25 inv rfl rfl (by kernel_rfl) (by kernel_rfl) (by kernel_rfl) (by decide) (by decide) (by kernel_rfl) (by kernel_rfl) (fun _ _ _ h => h) (.inl ⟨rfl, fun w hS => rfl⟩) hS (fun inv => ?_)
      simp only [Act.put, List.setIfInBounds_toArray, List.set_cons_zero, List.set_cons_succ]
      refine wpAnyS_one (i := 18) inv (by decide) (by kernel_rfl) (fun inv => ?_)
      unfold wpOp
      go_simp
      refine .inl ((HL.out w.drew hl2).mono ?_)
      rintro e w1 ⟨rfl, rfl⟩
      refine ⟨hS, ?_⟩
      refine wpAnyS_one (i := 19) inv (by decide) (by kernel_rfl) (fun inv => ?_)
      unfold wpOp
      go_simp
      refine .inl ((HP.out w.drew hl1).mono ?_)
      rintro e w1 ⟨a3, c3, s3, rfl, g1, g2, g3, g4⟩
      have G1 := Lib.hid g1; clear g1
      have hb4 : Below w.heap.size w w1 := h.drew.trans g4
      refine ⟨HB.out _ hb4, ?_⟩
      refine wpAnyS_tail (by decide) ?_
      refine wpAny_one (i := 20) (by kernel_rfl) ?_
      unfold wpOp
      go_simp
      refine .inl ((big_made _ p v T true a3 s3 c3 (hp.below hb4) g3 G1.out g2 ⟨fun _ => hT0, (fun h => by (cases h))⟩).mono ?_)
      rintro e w2 ⟨rfl, m1, m2⟩
      refine wpAny_one (i := 21) (by kernel_rfl) ?_
      unfold wpOp
      go_simp
      refine .inl (wpAny_done (by kernel_rfl) ?_ _)
      go_wp2
      go_ret
      exact ⟨rfl, m1, (Only.of_below hb4).trans m2 (by simp)⟩
    · have hpar0 : k % 2 = 0 := by omega
      have hT0 : 0 ≤ T := by rw [hT]; exact pow_even hpar0
      rw [hpar0] at hbit
      have HBit := Lib.hid hbit; clear hbit
      clear hT Hb1 hneg hpar hpar0
      have hS : (w.drew.cell? ⟨q, 0, none⟩ = some (.bool true) ∧ w.drew.cell? ⟨q, 1, none⟩ = some (.slice a1 n1 cap1) ∧ w.drew.cell? ⟨r, 1, none⟩ = some (.slice a2 n2 cap2)) := HB.out _ h.drew
      go_enter Tryz.func82, Tryz.ntmps82
      go_wp2_with fail
      refine wp_region_S (n := 20) (S := fun X => X.cell? ⟨q, 0, none⟩ = some (.bool true) ∧ X.cell? ⟨q, 1, none⟩ = some (.slice a1 n1 cap1) ∧ X.cell? ⟨r, 1, none⟩ = some (.slice a2 n2 cap2)) (by kernel_rfl) (by decide) (fun inv => ?_)
      refine wpAnyS_take_at (i := 0) (v := .pointer (some ⟨p, 0, none⟩)) 16 inv rfl rfl (by kernel_rfl) (by kernel_rfl) (by kernel_rfl) (by decide) (by decide) (by kernel_rfl) (by kernel_rfl) (fun _ _ _ h => h) (.inl ⟨rfl, fun w hS => rfl⟩) hS (fun inv => ?_)
      simp only [Act.put, List.setIfInBounds_toArray, List.set_cons_zero, List.set_cons_succ]
      refine wpAnyS_take_at (i := 1) (v := .pointer (some ⟨q, 0, none⟩)) 17 inv rfl rfl (by kernel_rfl) (by kernel_rfl) (by kernel_rfl) (by decide) (by decide) (by kernel_rfl) (by kernel_rfl) (fun _ _ _ h => h) (.inl ⟨rfl, fun w hS => rfl⟩) hS (fun inv => ?_)
      simp only [Act.put, List.setIfInBounds_toArray, List.set_cons_zero, List.set_cons_succ]
      refine wpAnyS_take_at (i := 2) (v := .pointer (some ⟨q, 0, none⟩)) 18 inv rfl rfl (by kernel_rfl) (by kernel_rfl) (by kernel_rfl) (by decide) (by decide) (by kernel_rfl) (by kernel_rfl) (fun _ _ _ h => h) (.inl ⟨rfl, fun w hS => rfl⟩) hS (fun inv => ?_)
      simp only [Act.put, List.setIfInBounds_toArray, List.set_cons_zero, List.set_cons_succ]
      refine wpAnyS_take_at (i := 3) (v := .pointer (some ⟨q, 0, none⟩)) 19 inv rfl rfl (by kernel_rfl) (by kernel_rfl) (by kernel_rfl) (by decide) (by decide) (by kernel_rfl) (by kernel_rfl) (fun _ _ _ h => h) (.inl ⟨rfl, fun w hS => rfl⟩) hS (fun inv => ?_)
      simp only [Act.put, List.setIfInBounds_toArray, List.set_cons_zero, List.set_cons_succ]
      refine wpAnyS_take_at (i := 4) (v := .bool true) 20 inv rfl rfl (by kernel_rfl) (by kernel_rfl) (by kernel_rfl) (by decide) (by decide) (by kernel_rfl) (by kernel_rfl) (fun _ _ _ h => h) (.inl ⟨rfl, fun w hS => by obtain ⟨h0, h1, h2⟩ := hS; go_simp⟩) hS (fun inv => ?_)
      simp only [Act.put, List.setIfInBounds_toArray, List.set_cons_zero, List.set_cons_succ]
      refine wpAnyS_take_at (i := 5) (v := .bool true) 21 inv rfl rfl (by kernel_rfl) (by kernel_rfl) (by kernel_rfl) (by decide) (by decide) (by kernel_rfl) (by kernel_rfl) (fun _ _ _ h => h) (.inl ⟨rfl, fun w hS => rfl⟩) hS (fun inv => ?_)
      simp only [Act.put, List.setIfInBounds_toArray, List.set_cons_zero, List.set_cons_succ]
      refine wpAnyS_take_at (i := 10) (v := .pointer (some ⟨q, 0, none⟩)) 26 inv rfl rfl (by kernel_rfl) (by kernel_rfl) (by kernel_rfl) (by decide) (by decide) (by kernel_rfl) (by kernel_rfl) (fun _ _ _ h => h) (.inl ⟨rfl, fun w hS => rfl⟩) hS (fun inv => ?_)
      simp only [Act.put, List.setIfInBounds_toArray, List.set_cons_zero, List.set_cons_succ]
      refine wpAnyS_take_at (i := 11) (v := .pointer (some ⟨q, 0, none⟩)) 27 inv rfl rfl (by kernel_rfl) (by kernel_rfl) (by kernel_rfl) (by decide) (by decide) (by kernel_rfl) (by kernel_rfl) (fun _ _ _ h => h) (.inl ⟨rfl, fun w hS => rfl⟩) hS (fun inv => ?_)
      simp only [Act.put, List.setIfInBounds_toArray, List.set_cons_zero, List.set_cons_succ]
      refine wpAnyS_take_at (i := 12) (v := .pointer (some ⟨q, 1, none⟩)) 28 inv rfl rfl (by kernel_rfl) (by kernel_rfl) (by kernel_rfl) (by decide) (by decide) (by kernel_rfl) (by kernel_rfl) (fun _ _ _ h => h) (.inl ⟨rfl, fun w hS => rfl⟩) hS (fun inv => ?_)
      simp only [Act.put, List.setIfInBounds_toArray, List.set_cons_zero, List.set_cons_succ]
      refine wpAnyS_take_at (i := 13) (v := .slice a1 n1 cap1) 29 inv rfl rfl (by kernel_rfl) (by kernel_rfl) (by kernel_rfl) (by decide) (by decide) (by kernel_rfl) (by kernel_rfl) (fun _ _ _ h => h) (.inl ⟨rfl, fun w hS => by obtain ⟨h0, h1, h2⟩ := hS; go_simp⟩) hS (fun inv => ?_)
      simp only [Act.put, List.setIfInBounds_toArray, List.set_cons_zero, List.set_cons_succ]
      refine wpAnyS_take_at (i := 14) (v := .pointer (some ⟨r, 0, none⟩)) 30 inv rfl rfl (by kernel_rfl) (by kernel_rfl) (by kernel_rfl) (by decide) (by decide) (by kernel_rfl) (by kernel_rfl) (fun _ _ _ h => h) (.inl ⟨rfl, fun w hS => rfl⟩) hS (fun inv => ?_)
      simp only [Act.put, List.setIfInBounds_toArray, List.set_cons_zero, List.set_cons_succ]
      refine wpAnyS_take_at (i := 15) (v := .pointer (some ⟨r, 0, none⟩)) 31 inv rfl rfl (by kernel_rfl) (by kernel_rfl) (by kernel_rfl) (by decide) (by decide) (by kernel_rfl) (by kernel_rfl) (fun _ _ _ h => h) (.inl ⟨rfl, fun w hS => rfl⟩) hS (fun inv => ?_)
      simp only [Act.put, List.setIfInBounds_toArray, List.set_cons_zero, List.set_cons_succ]
      refine wpAnyS_take_at (i := 16) (v := .pointer (some ⟨r, 1, none⟩)) 32 inv rfl rfl (by kernel_rfl) (by kernel_rfl) (by kernel_rfl) (by decide) (by decide) (by kernel_rfl) (by kernel_rfl) (fun _ _ _ h => h) (.inl ⟨rfl, fun w hS => rfl⟩) hS (fun inv => ?_)
      simp only [Act.put, List.setIfInBounds_toArray, List.set_cons_zero, List.set_cons_succ]
      refine wpAnyS_take_at (i := 17) (v := .slice a2 n2 cap2) 33 inv rfl rfl (by kernel_rfl) (by kernel_rfl) (by kernel_rfl) (by decide) (by decide) (by kernel_rfl) (by kernel_rfl) (fun _ _ _ h => h) (.inl ⟨rfl, fun w hS => by obtain ⟨h0, h1, h2⟩ := hS; go_simp⟩) hS (fun inv => ?_)
      simp only [Act.put, List.setIfInBounds_toArray, List.set_cons_zero, List.set_cons_succ]
      refine wpAnyS_take_at (i := 6) (v := .pointer (some ⟨r, 0, none⟩)) 22 inv rfl rfl (by kernel_rfl) (by kernel_rfl) (by kernel_rfl) (by decide) (by decide) (by kernel_rfl) (by kernel_rfl) (fun _ _ _ h => h) (.inl ⟨rfl, fun w hS => rfl⟩) hS (fun inv => ?_)
      simp only [Act.put, List.setIfInBounds_toArray, List.set_cons_zero, List.set_cons_succ]
      refine wpAnyS_one (i := 7) inv (by decide) (by kernel_rfl) (fun inv => ?_)
      unfold wpOp
      go_simp
      refine .inl (HBit.out.mono ?_)
      rintro e w1 ⟨rfl, rfl⟩
      refine ⟨hS, ?_⟩
      refine wpAnyS_take_at (i := 8) (v := .bool false) 24 inv rfl rfl (by kernel_rfl) (by kernel_rfl) (by kernel_rfl) (by decide) (by decide) (by kernel_rfl) (by kernel_rfl) (fun _ _ _ h => h) (.inl ⟨rfl, fun w hS => by go_simp⟩) hS (fun inv => ?_)
      simp only [Act.put, List.setIfInBounds_toArray, List.set_cons_zero, List.set_cons_succ]
      refine wpAnyS_take_at (i := 9) (v := .bool false) 25 inv rfl rfl (by kernel_rfl) (by kernel_rfl) (by kernel_rfl) (by decide) (by decide) (by kernel_rfl) (by kernel_rfl) (fun _ _ _ h => h) (.inl ⟨rfl, fun w hS => rfl⟩) hS (fun inv => ?_)
      simp only [Act.put, List.setIfInBounds_toArray, List.set_cons_zero, List.set_cons_succ]
      refine wpAnyS_one (i := 18) inv (by decide) (by kernel_rfl) (fun inv => ?_)
      unfold wpOp
      go_simp
      refine .inl ((HL.out w.drew hl2).mono ?_)
      rintro e w1 ⟨rfl, rfl⟩
      refine ⟨hS, ?_⟩
      refine wpAnyS_one (i := 19) inv (by decide) (by kernel_rfl) (fun inv => ?_)
      unfold wpOp
      go_simp
      refine .inl ((HP.out w.drew hl1).mono ?_)
      rintro e w1 ⟨a3, c3, s3, rfl, g1, g2, g3, g4⟩
      have G1 := Lib.hid g1; clear g1
      have hb4 : Below w.heap.size w w1 := h.drew.trans g4
      refine ⟨HB.out _ hb4, ?_⟩
      refine wpAnyS_tail (by decide) ?_
      refine wpAny_one (i := 20) (by kernel_rfl) ?_
      unfold wpOp
      go_simp
      refine .inl ((big_made _ p v T false a3 s3 c3 (hp.below hb4) g3 G1.out g2 ⟨(fun h => by (cases h)), fun _ => hT0⟩).mono ?_)
      rintro e w2 ⟨rfl, m1, m2⟩
      refine wpAny_one (i := 21) (by kernel_rfl) ?_
      unfold wpOp
      go_simp
      refine .inl (wpAny_done (by kernel_rfl) ?_ _)
      go_wp2
      go_ret
      exact ⟨rfl, m1, (Only.of_below hb4).trans m2 (by simp)⟩
  · have hb : b1 = false := by rw [Hb1.out]; simpa using hneg
    subst hb
    have hT0 : 0 ≤ T := by rw [hT]; exact Int.pow_nonneg (by omega)
    clear hT Hb1 hneg
    have hS : (w.drew.cell? ⟨q, 0, none⟩ = some (.bool false) ∧ w.drew.cell? ⟨q, 1, none⟩ = some (.slice a1 n1 cap1) ∧ w.drew.cell? ⟨r, 1, none⟩ = some (.slice a2 n2 cap2)) := HB.out _ h.drew
    go_enter Tryz.func82, Tryz.ntmps82
    go_wp2_with fail
    refine wp_region_S (n := 20) (S := fun X => X.cell? ⟨q, 0, none⟩ = some (.bool false) ∧ X.cell? ⟨q, 1, none⟩ = some (.slice a1 n1 cap1) ∧ X.cell? ⟨r, 1, none⟩ = some (.slice a2 n2 cap2)) (by kernel_rfl) (by decide) (fun inv => ?_)
    refine wpAnyS_take_at (i := 0) (v := .pointer (some ⟨p, 0, none⟩)) 16 inv rfl rfl (by kernel_rfl) (by kernel_rfl) (by kernel_rfl) (by decide) (by decide) (by kernel_rfl) (by kernel_rfl) (fun _ _ _ h => h) (.inl ⟨rfl, fun w hS => rfl⟩) hS (fun inv => ?_)
    simp only [Act.put, List.setIfInBounds_toArray, List.set_cons_zero, List.set_cons_succ]
    refine wpAnyS_take_at (i := 1) (v := .pointer (some ⟨q, 0, none⟩)) 17 inv rfl rfl (by kernel_rfl) (by kernel_rfl) (by kernel_rfl) (by decide) (by decide) (by kernel_rfl) (by kernel_rfl) (fun _ _ _ h => h) (.inl ⟨rfl, fun w hS => rfl⟩) hS (fun inv => ?_)
    simp only [Act.put, List.setIfInBounds_toArray, List.set_cons_zero, List.set_cons_succ]
    refine wpAnyS_take_at (i := 2) (v := .pointer (some ⟨q, 0, none⟩)) 18 inv rfl rfl (by kernel_rfl) (by kernel_rfl) (by kernel_rfl) (by decide) (by decide) (by kernel_rfl) (by kernel_rfl) (fun _ _ _ h => h) (.inl ⟨rfl, fun w hS => rfl⟩) hS (fun inv => ?_)
    simp only [Act.put, List.setIfInBounds_toArray, List.set_cons_zero, List.set_cons_succ]
    refine wpAnyS_take_at (i := 3) (v := .pointer (some ⟨q, 0, none⟩)) 19 inv rfl rfl (by kernel_rfl) (by kernel_rfl) (by kernel_rfl) (by decide) (by decide) (by kernel_rfl) (by kernel_rfl) (fun _ _ _ h => h) (.inl ⟨rfl, fun w hS => rfl⟩) hS (fun inv => ?_)
    simp only [Act.put, List.setIfInBounds_toArray, List.set_cons_zero, List.set_cons_succ]
    refine wpAnyS_take_at (i := 4) (v := .bool false) 20 inv rfl rfl (by kernel_rfl) (by kernel_rfl) (by kernel_rfl) (by decide) (by decide) (by kernel_rfl) (by kernel_rfl) (fun _ _ _ h => h) (.inl ⟨rfl, fun w hS => by obtain ⟨h0, h1, h2⟩ := hS; go_simp⟩) hS (fun inv => ?_)
    simp only [Act.put, List.setIfInBounds_toArray, List.set_cons_zero, List.set_cons_succ]
    refine wpAnyS_take_at (i := 5) (v := .bool false) 21 inv rfl rfl (by kernel_rfl) (by kernel_rfl) (by kernel_rfl) (by decide) (by decide) (by kernel_rfl) (by kernel_rfl) (fun _ _ _ h => h) (.inl ⟨rfl, fun w hS => rfl⟩) hS (fun inv => ?_)
    simp only [Act.put, List.setIfInBounds_toArray, List.set_cons_zero, List.set_cons_succ]
    refine wpAnyS_take_at (i := 10) (v := .pointer (some ⟨q, 0, none⟩)) 26 inv rfl rfl (by kernel_rfl) (by kernel_rfl) (by kernel_rfl) (by decide) (by decide) (by kernel_rfl) (by kernel_rfl) (fun _ _ _ h => h) (.inl ⟨rfl, fun w hS => rfl⟩) hS (fun inv => ?_)
    simp only [Act.put, List.setIfInBounds_toArray, List.set_cons_zero, List.set_cons_succ]
    refine wpAnyS_take_at (i := 11) (v := .pointer (some ⟨q, 0, none⟩)) 27 inv rfl rfl (by kernel_rfl) (by kernel_rfl) (by kernel_rfl) (by decide) (by decide) (by kernel_rfl) (by kernel_rfl) (fun _ _ _ h => h) (.inl ⟨rfl, fun w hS => rfl⟩) hS (fun inv => ?_)
    simp only [Act.put, List.setIfInBounds_toArray, List.set_cons_zero, List.set_cons_succ]
    refine wpAnyS_take_at (i := 12) (v := .pointer (some ⟨q, 1, none⟩)) 28 inv rfl rfl (by kernel_rfl) (by kernel_rfl) (by kernel_rfl) (by decide) (by decide) (by kernel_rfl) (by kernel_rfl) (fun _ _ _ h => h) (.inl ⟨rfl, fun w hS => rfl⟩) hS (fun inv => ?_)
    simp only [Act.put, List.setIfInBounds_toArray, List.set_cons_zero, List.set_cons_succ]
    refine wpAnyS_take_at (i := 13) (v := .slice a1 n1 cap1) 29 inv rfl rfl (by kernel_rfl) (by kernel_rfl) (by kernel_rfl) (by decide) (by decide) (by kernel_rfl) (by kernel_rfl) (fun _ _ _ h => h) (.inl ⟨rfl, fun w hS => by obtain ⟨h0, h1, h2⟩ := hS; go_simp⟩) hS (fun inv => ?_)
    simp only [Act.put, List.setIfInBounds_toArray, List.set_cons_zero, List.set_cons_succ]
    refine wpAnyS_take_at (i := 14) (v := .pointer (some ⟨r, 0, none⟩)) 30 inv rfl rfl (by kernel_rfl) (by kernel_rfl) (by kernel_rfl) (by decide) (by decide) (by kernel_rfl) (by kernel_rfl) (fun _ _ _ h => h) (.inl ⟨rfl, fun w hS => rfl⟩) hS (fun inv => ?_)
    simp only [Act.put, List.setIfInBounds_toArray, List.set_cons_zero, List.set_cons_succ]
    refine wpAnyS_take_at (i := 15) (v := .pointer (some ⟨r, 0, none⟩)) 31 inv rfl rfl (by kernel_rfl) (by kernel_rfl) (by kernel_rfl) (by decide) (by decide) (by kernel_rfl) (by kernel_rfl) (fun _ _ _ h => h) (.inl ⟨rfl, fun w hS => rfl⟩) hS (fun inv => ?_)
    simp only [Act.put, List.setIfInBounds_toArray, List.set_cons_zero, List.set_cons_succ]
    refine wpAnyS_take_at (i := 16) (v := .pointer (some ⟨r, 1, none⟩)) 32 inv rfl rfl (by kernel_rfl) (by kernel_rfl) (by kernel_rfl) (by decide) (by decide) (by kernel_rfl) (by kernel_rfl) (fun _ _ _ h => h) (.inl ⟨rfl, fun w hS => rfl⟩) hS (fun inv => ?_)
    simp only [Act.put, List.setIfInBounds_toArray, List.set_cons_zero, List.set_cons_succ]
    refine wpAnyS_take_at (i := 17) (v := .slice a2 n2 cap2) 33 inv rfl rfl (by kernel_rfl) (by kernel_rfl) (by kernel_rfl) (by decide) (by decide) (by kernel_rfl) (by kernel_rfl) (fun _ _ _ h => h) (.inl ⟨rfl, fun w hS => by obtain ⟨h0, h1, h2⟩ := hS; go_simp⟩) hS (fun inv => ?_)
    simp only [Act.put, List.setIfInBounds_toArray, List.set_cons_zero, List.set_cons_succ]
    refine wpAnyS_take_at (i := 6) (v := undef) 22 inv rfl rfl (by kernel_rfl) (by kernel_rfl) (by kernel_rfl) (by decide) (by decide) (by kernel_rfl) (by kernel_rfl) (fun _ _ _ h => h) (.inr ⟨rfl, rfl⟩) hS (fun inv => ?_)
    simp only [Act.put, List.setIfInBounds_toArray, List.set_cons_zero, List.set_cons_succ]
    refine wpAnyS_take_at (i := 7) (v := undef) 23 inv rfl rfl (by kernel_rfl) (by kernel_rfl) (by kernel_rfl) (by decide) (by decide) (by kernel_rfl) (by kernel_rfl) (fun _ _ _ h => h) (.inr ⟨rfl, rfl⟩) hS (fun inv => ?_)
    simp only [Act.put, List.setIfInBounds_toArray, List.set_cons_zero, List.set_cons_succ]
    refine wpAnyS_take_at (i := 8) (v := undef) 24 inv rfl rfl (by kernel_rfl) (by kernel_rfl) (by kernel_rfl) (by decide) (by decide) (by kernel_rfl) (by kernel_rfl) (fun _ _ _ h => h) (.inr ⟨rfl, rfl⟩) hS (fun inv => ?_)
    simp only [Act.put, List.setIfInBounds_toArray, List.set_cons_zero, List.set_cons_succ]
    refine wpAnyS_take_at (i := 9) (v := .bool false) 25 inv rfl rfl (by kernel_rfl) (by kernel_rfl) (by kernel_rfl) (by decide) (by decide) (by kernel_rfl) (by kernel_rfl) (fun _ _ _ h => h) (.inl ⟨rfl, fun w hS => rfl⟩) hS (fun inv => ?_)
    simp only [Act.put, List.setIfInBounds_toArray, List.set_cons_zero, List.set_cons_succ]
    refine wpAnyS_one (i := 18) inv (by decide) (by kernel_rfl) (fun inv => ?_)
    unfold wpOp
    go_simp
    refine .inl ((HL.out w.drew hl2).mono ?_)
    rintro e w1 ⟨rfl, rfl⟩
    refine ⟨hS, ?_⟩
    refine wpAnyS_one (i := 19) inv (by decide) (by kernel_rfl) (fun inv => ?_)
    unfold wpOp
    go_simp
    refine .inl ((HP.out w.drew hl1).mono ?_)
    rintro e w1 ⟨a3, c3, s3, rfl, g1, g2, g3, g4⟩
    have G1 := Lib.hid g1; clear g1
    have hb4 : Below w.heap.size w w1 := h.drew.trans g4
    refine ⟨HB.out _ hb4, ?_⟩
    refine wpAnyS_tail (by decide) ?_
    refine wpAny_one (i := 20) (by kernel_rfl) ?_
    unfold wpOp
    go_simp
    refine .inl ((big_made _ p v T false a3 s3 c3 (hp.below hb4) g3 G1.out g2 ⟨(fun h => by (cases h)), fun _ => hT0⟩).mono ?_)
    rintro e w2 ⟨rfl, m1, m2⟩
    refine wpAny_one (i := 21) (by kernel_rfl) ?_
    unfold wpOp
    go_simp
    refine .inl (wpAny_done (by kernel_rfl) ?_ _)
    go_wp2
    go_ret
    exact ⟨rfl, m1, (Only.of_below hb4).trans m2 (by simp)⟩

end Go.Proofs.YtbffpkmfhkphdaaGreatDoor
