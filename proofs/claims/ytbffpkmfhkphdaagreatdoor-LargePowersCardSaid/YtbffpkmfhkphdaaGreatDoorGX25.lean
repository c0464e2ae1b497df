/- large.Compare and large.Of. The walks of big.root, and of Sqrt of package big's integers. large.Quo and large.Div: a call of divide each. -/
import Derived.Test.YtbffpkmfhkphdaaGreatDoorGX20
import Derived.Test.YtbffpkmfhkphdaaGreatDoorGX23
import Derived.Test.YtbffpkmfhkphdaaGreatDoorGX12
import Derived.Test.YtbffpkmfhkphdaaGreatDoorGX01
import Derived.Test.YtbffpkmfhkphdaaGreatDoorGX14
import Derived.Test.YtbffpkmfhkphdaaGreatDoorGX07
import Derived.Test.YtbffpkmfhkphdaaGreatDoorGX13
import Derived.Test.YtbffpkmfhkphdaaGreatDoorDivideC
set_option linter.unusedVariables false
set_option linter.unusedSimpArgs false
namespace Go.Proofs.YtbffpkmfhkphdaaGreatDoor
open Go Go.RowKit Limb

theorem rows2 (w : World) (t : TypeId) (a0 a1 b0 b1 : Value) : ∃ W, W = (w.alloc (.cells #[a0, a1] t)).alloc (.cells #[b0, b1] t) ∧
    Row W w.heap.size t [a0, a1] ∧ Row W (w.heap.size + 1) t [b0, b1] ∧ Below w.heap.size w W ∧ W.heap.size = w.heap.size + 1 + 1 := by
  have s1 := World.size_alloc w (.cells #[a0, a1] t)
  refine ⟨_, rfl, ?_, ?_, ((Below.refl _ _).alloc (Nat.le_refl _) _).alloc (by omega) _, by rw [World.size_alloc, s1]⟩
  · refine Row.alloc ?_ _; unfold Row; exact heap_alloc_new _ _
  · unfold Row; have := heap_alloc_new (w.alloc (.cells #[a0, a1] t)) (.cells #[b0, b1] t); rw [s1] at this; exact this

theorem at_cmp {w1 X : World} {l : List (Nat × Int)} {p q : Nat} {x y : Int} (h : At w1 X l) (hp : (p, x) ∈ l) (hq : (q, y) ∈ l) (hs : (rep x.natAbs).length ≤ 68719476736) (ht : (rep y.natAbs).length ≤ 68719476736) :
    Calls Tryz.prog 105 #[.pointer (some ⟨p, 0, none⟩), .pointer (some ⟨q, 0, none⟩)] X fun e X' => e = .returned (.int .i64 (cmpZ x y)) ∧ At w1 X' l := by
  refine (int_cmp X p q x y (h.ints _ hp).1 (h.ints _ hq).1 hs ht).mono ?_
  rintro e X' ⟨rfl, n, rfl⟩
  exact ⟨rfl, h.drewN n⟩

set_option maxHeartbeats 1600000 in
set_option maxRecDepth 100000 in
theorem large_compare (w : World) (n1 n2 : Bool) (a1 a2 : Option Addr) (l1 l2 : List Nat) (m1 m2 c1 c2 : Nat) (hy1 : Lay .u32 w a1 l1) (hy2 : Lay .u32 w a2 l2) (hl1 : Lim l1) (hl2 : Lim l2) (hm1 : m1 = l1.length) (hm2 : m2 = l2.length) (hb1 : m1 ≤ 9223372036854775807) (hb2 : m2 ≤ 9223372036854775807) :
    Calls Tryz.prog 39 #[.agg #[.bool n1, .slice a1 m1 c1], .agg #[.bool n2, .slice a2 m2 c2]] w fun e w' =>
      e = .returned (.tuple #[.int .i64 (if (mayB n1 l1 && mayB n2 l2) = true then cmpZ (signed n1 (val l1)) (signed n2 (val l2)) else 0), .int .i64 (if (mayB n1 l1 && mayB n2 l2) = true then 0 else 1)]) ∧ Below w.heap.size w w' := by
  obtain ⟨W, hWe, r0, r1, hW, hsz⟩ := rows2 w 24 (.bool n1) (.slice a1 m1 c1) (.bool n2) (.slice a2 m2 c2)
  have HWe := Lib.hid hWe; clear hWe
  have hmay := fun g h1 h2 h3 => large_may2 (W.alloc (.cells #[.bool n1, .slice a1 m1 c1, .bool n2, .slice a2 m2 c2] 24)) g n1 n2 a1 a2 l1 l2 m1 m2 c1 c2 h1 h2 h3 hl1 hl2 hm1 hm2 hb1 hb2
  have Hm1 := Lib.hid hm1; clear hm1
  have Hm2 := Lib.hid hm2; clear hm2
  have hmay' := hmay (w.heap.size + 1 + 1) (by rw [← hsz]; exact row2slice _ _ _) ((hy1.below hW).below ((Below.refl _ _).alloc (Nat.le_refl _) _)) ((hy2.below hW).below ((Below.refl _ _).alloc (Nat.le_refl _) _))
  have HM := Lib.hid hmay'; clear hmay hmay'
  cases hb : (mayB n1 l1 && mayB n2 l2) with
  | false =>
    rw [hb] at HM
    clear hb
    go_enter Tryz.func39, Tryz.ntmps39
    go_wp2_with fail
    rw [← HWe.out]
    refine HM.out.mono ?_
    rintro e w1 ⟨rfl, hbw⟩
    have hB1 : Below w.heap.size w w1 := hW.trans ((below_over hbw).mono hW.size)
    go_wp2
    (try simp only [Exit.inBlock, Exit.then])
    refine bodyPost_ret (v := .tuple #[.int .i64 0, .int .i64 1]) (by simp [results, Tryz.results39, go_sem]) rfl ?_
    exact ⟨rfl, hB1⟩
  | true =>
    rw [hb] at HM
    simp only [Bool.and_eq_true] at hb
    obtain ⟨x1, x2, x3⟩ := mayB_int hl1 hb.1
    obtain ⟨y1, y2, y3⟩ := mayB_int hl2 hb.2
    have s1 : (rep (signed n1 (val l1)).natAbs).length ≤ 68719476736 := by rw [← x1]; omega
    have s2 : (rep (signed n2 (val l2)).natAbs).length ≤ 68719476736 := by rw [← y1]; omega
    have ls1 : m1 ≤ 1024 := by rw [Hm1.out]; exact x3
    have ls2 : m2 ≤ 1024 := by rw [Hm2.out]; exact y3
    clear hb x1 x2 y1 y2
    rw [if_pos rfl, if_pos rfl]
    obtain ⟨z1, hz1⟩ : ∃ z, z = signed n1 (val l1) := ⟨_, rfl⟩
    obtain ⟨z2, hz2⟩ : ∃ z, z = signed n2 (val l2) := ⟨_, rfl⟩
    rw [← hz1] at s1 ⊢
    rw [← hz2] at s2 ⊢
    go_enter Tryz.func39, Tryz.ntmps39
    go_wp2_with fail
    rw [← HWe.out]
    refine HM.out.mono ?_
    rintro e w1 ⟨rfl, hbw⟩
    have hbw' := below_over hbw
    have hB1 : Below w.heap.size w w1 := hW.trans (hbw'.mono hW.size)
    have q0 := r0.below hbw' r0.lt
    have q1 := r1.below hbw' r1.lt
    have l1' := hy1.below hB1
    have l2' := hy2.below hB1
    have hsz1 : w.heap.size + 2 ≤ w1.heap.size := by have := hbw'.size; omega
    have hw : ∀ X ls v z, (v = .agg #[.bool n1, .slice a1 m1 c1] ∧ z = z1) ∨ (v = .agg #[.bool n2, .slice a2 m2 c2] ∧ z = z2) → At w1 X ls → Calls Tryz.prog 60 #[v] X fun e X' => ∃ p, e = .returned (.pointer (some ⟨p, 0, none⟩)) ∧ At w1 X' ((p, z) :: ls) := by
      rintro X ls v z (⟨rfl, rfl⟩ | ⟨rfl, rfl⟩) h
      · rw [hz1]; exact at_wide h n1 a1 l1 m1 c1 l1' hl1 Hm1.out (by omega)
      · rw [hz2]; exact at_wide h n2 a2 l2 m2 c2 l2' hl2 Hm2.out (by omega)
    have HW := Lib.hid hw; clear hw hz1 hz2
    have hk : ∀ X, Below w1.heap.size w1 X → (X.cell? ⟨w.heap.size, 0, none⟩ = some (.bool n1) ∧ X.cell? ⟨w.heap.size, 1, none⟩ = some (.slice a1 m1 c1) ∧ X.cell? ⟨w.heap.size + 1, 0, none⟩ = some (.bool n2) ∧ X.cell? ⟨w.heap.size + 1, 1, none⟩ = some (.slice a2 m2 c2)) := by
      intro X hX
      have p0 := q0.below hX (by omega)
      have p1 := q1.below hX (by omega)
      exact ⟨p0.cell_at 0, p0.cell_at 1, p1.cell_at 0, p1.cell_at 1⟩
    have HK := Lib.hid hk; clear hk
    have h := At.refl w1
    clear q0 q1 l1' l2' hbw' hbw
    go_wp2_with fail
    go_region_held3 (fun X => (X.cell? ⟨w.heap.size, 0, none⟩ = some (.bool n1) ∧ X.cell? ⟨w.heap.size, 1, none⟩ = some (.slice a1 m1 c1) ∧ X.cell? ⟨w.heap.size + 1, 0, none⟩ = some (.bool n2) ∧ X.cell? ⟨w.heap.size + 1, 1, none⟩ = some (.slice a2 m2 c2)))
      (first | (apply HK.out; apply At.below; (repeat (first | exact h | apply At.drew | apply At.drewN | apply At.new)); done) | fail)
      (first
        | (go_at_call 60; apply Calls.mono; apply HW.out; (first | exact .inl ⟨rfl, rfl⟩ | exact .inr ⟨rfl, rfl⟩); (repeat (first | exact h | apply At.drew | apply At.drewN | apply At.new)); clear h; rintro e w' ⟨p, rfl, h⟩)
        | (go_at_call 105; apply Calls.mono; apply at_cmp (w1 := w1) (hs := s1) (ht := s2); (repeat (first | exact h | apply At.drew | apply At.drewN | apply At.new)); (first | exact .head _ | exact .tail _ (.head _) | exact .tail _ (.tail _ (.head _)) | exact .tail _ (.tail _ (.tail _ (.head _))) | exact .tail _ (.tail _ (.tail _ (.tail _ (.head _))))); (first | exact .head _ | exact .tail _ (.head _) | exact .tail _ (.tail _ (.head _)) | exact .tail _ (.tail _ (.tail _ (.head _))) | exact .tail _ (.tail _ (.tail _ (.tail _ (.head _))))); clear h; rintro e w' ⟨rfl, h⟩))
    all_goals
      have hfin := hB1.trans (h.below.mono hB1.size)
      go_wp2
      (try simp only [Exit.inBlock, Exit.then])
      refine bodyPost_ret (v := .tuple #[.int .i64 (cmpZ z1 z2), .int .i64 0]) (by simp [results, Tryz.results39, go_sem]) rfl ?_
      exact ⟨rfl, hfin⟩

/-- The value of an integer of package api. -/
def ApiV (w : World) (v : Value) (z : Int) : Prop := ∃ a cap, v = .agg #[.bool (decide (z < 0)), .slice a (rep z.natAbs).length cap] ∧ (rep z.natAbs).length ≤ cap ∧ Lay .u32 w a (rep z.natAbs)

theorem len_i64 {v : Int} (h1 : -9223372036854775808 ≤ v) (h2 : v ≤ 9223372036854775807) : (rep v.natAbs).length ≤ 2 := by
  rw [rep_length_le, show Limb.W 2 = 18446744073709551616 from by decide]; omega

set_option maxHeartbeats 800000 in
set_option maxRecDepth 100000 in
theorem large_of (w : World) (v : Int) (h1 : -9223372036854775808 ≤ v) (h2 : v ≤ 9223372036854775807) :
    Calls Tryz.prog 32 #[.int .i64 v] w fun e w' => ∃ u, e = .returned u ∧ ApiV w' u v ∧ Below w.heap.size w w' := by
  have hlen := Nat.le_trans (len_i64 h1 h2) (by decide : 2 ≤ 1024)
  obtain ⟨W, hWe⟩ : ∃ W, W = w.alloc (.cells #[.bool false, .slice none 0 0] 24) := ⟨_, rfl⟩
  have r0 : Row W w.heap.size 24 [.bool false, .slice none 0 0] := by rw [hWe]; exact row2slice _ _ _
  have hW : Below w.heap.size w W := by rw [hWe]; exact (Below.refl _ _).alloc (Nat.le_refl _) _
  have hsz : W.heap.size = w.heap.size + 1 := by rw [hWe, World.size_alloc]
  have HWe := Lib.hid hWe; clear hWe
  go_enter Tryz.func32, Tryz.ntmps32
  go_wp2_with fail
  rw [← HWe.out]
  refine (at_newint (At.refl W) v h1 h2).mono ?_
  rintro e w1 ⟨p, rfl, h3⟩
  go_wp2_with fail
  refine (at_narrow_ok h3 (List.Mem.head _) hlen).mono ?_
  rintro e w2 ⟨⟨a, c, rfl, g1, g2⟩, h4⟩
  have g3 := g2.below ((Below.refl _ _).alloc (Nat.le_refl _) (.cells #[.bool (decide (v < 0)), .slice a (rep v.natAbs).length c] 24))
  have h5 := h4.alloc' (.cells #[.bool (decide (v < 0)), .slice a (rep v.natAbs).length c] 24)
  have r1 := r0.below h5.below r0.lt
  have k0 := r1.cell_at 0
  have k1 := r1.cell_at 1
  have k2 := r1.free 0
  have k3 := r1.free 1
  simp only [List.getElem?_cons_zero, List.getElem?_cons_succ] at k0 k1
  have hR := row2slice w2 24 #[.bool (decide (v < 0)), .slice a (rep v.natAbs).length c]
  have j0 := hR.cell_at 0
  have j1 := hR.cell_at 1
  simp only [List.getElem?_cons_zero, List.getElem?_cons_succ, List.getElem?_toArray, List.getElem?_eq_getElem] at j0 j1
  have hne : w2.heap.size ≠ w.heap.size := by have := h4.below.size; omega
  have hfin := hW.trans (h5.below.mono hW.size)
  obtain ⟨V, hV⟩ : ∃ V, V = w2.alloc (.cells #[.bool (decide (v < 0)), .slice a (rep v.natAbs).length c] 24) := ⟨_, rfl⟩
  rw [← hV] at g3 r1 hfin
  obtain ⟨U, hU⟩ : ∃ U, U = (V.setCell ⟨w.heap.size, 0, none⟩ (.bool (decide (v < 0)))).setCell ⟨w.heap.size, 1, none⟩ (.slice a (rep v.natAbs).length c) := ⟨_, rfl⟩
  have ra : Row U w.heap.size 24 [.bool (decide (v < 0)), .slice a (rep v.natAbs).length c] := by rw [hU]; exact (r1.store_any 0 _).store_any 1 _
  have hBU : Below w.heap.size w U := by rw [hU]; exact below_store (below_store hfin (Nat.le_refl _) _) (Nat.le_refl _) _
  have hlU : Lay .u32 U a (rep v.natAbs) := by rw [hU]; exact g3.pair r1 _ _
  have f0 := ra.cell_at 0
  have f1 := ra.cell_at 1
  simp only [List.getElem?_cons_zero, List.getElem?_cons_succ] at f0 f1
  rw [hV] at hU
  have HU := Lib.hid hU; clear hU
  go_wp2
  (try simp only [Exit.inBlock, Exit.then])
  rw [← HU.out]
  refine bodyPost_ret (v := .agg #[.bool (decide (v < 0)), .slice a (rep v.natAbs).length c]) (by simp [results, Tryz.results32, go_sem, f0, f1]) rfl ?_
  exact ⟨_, rfl, ⟨a, c, rfl, g1, hlU⟩, hBU⟩

end Go.Proofs.YtbffpkmfhkphdaaGreatDoor

namespace Go.Proofs.YtbffpkmfhkphdaaGreatDoor
open Go Go.RowKit Limb

def cellN : Option Value → Nat
  | some (.int _ n) => n.toNat
  | _ => 0
/-- The number that lies where a slice says. -/
def numAt (w : World) : Value → Nat
  | .slice (some ⟨b, off, _⟩) n _ => val ((List.range n).map fun i => cellN (w.cell? ⟨b, off + i, none⟩))
  | _ => 0
theorem lay_unique {w : World} {a : Option Addr} {xs ys : List Nat} (h : Lay .u32 w a xs) (k : Lay .u32 w a ys) (hl : xs.length = ys.length) : xs = ys := by
  refine ext_wd hl fun i hi => ?_
  obtain ⟨b, off, h1, h2⟩ := h
  obtain ⟨b', off', k1, k2⟩ := k
  have e1 := (h1 (by omega)).1
  have e2 := (k1 (by omega)).1
  rw [e1] at e2
  simp only [Option.some.injEq, Addr.mk.injEq, and_true] at e2
  obtain ⟨rfl, rfl⟩ := e2
  have e3 := h2 i hi
  rw [k2 i (by omega)] at e3
  simp only [Option.some.injEq, Value.int.injEq, true_and] at e3
  omega
theorem numAt_eq {w : World} {a : Option Addr} {z n c : Nat} (h : Lay .u32 w a (rep z)) (hn : n = (rep z).length) : numAt w (.slice a n c) = z := by
  subst hn
  obtain ⟨b, off, h1, h2⟩ := h
  by_cases h0 : 0 < (rep z).length
  · have e := (h1 h0).1
    subst e
    unfold numAt
    simp only []
    have e2 : ((List.range (rep z).length).map fun i => cellN (w.cell? ⟨b, off + i, none⟩)) = rep z := by
      refine List.ext_getElem (by simp) fun i hi hj => ?_
      rw [List.getElem_map, List.getElem_range, h2 i hj, wd_lt hj]
      simp [cellN]
    rw [e2, val_rep]
  · have e : (rep z).length = 0 := by omega
    have ez : z = 0 := rep_length_zero.1 e
    rw [e]
    subst ez
    unfold numAt
    cases a <;> rfl

theorem sum_len {x y c : Nat} (hx : (rep x).length ≤ c) (hy : (rep y).length ≤ c) : (rep (x + y)).length ≤ c + 1 := by
  refine rep_length_le.2 ?_
  have h1 := rep_length_le.1 hx
  have h2 := rep_length_le.1 hy
  have h3 := W_succ c
  omega
theorem rootN_zero : rootN 0 = 0 := (rootN_is 0).unique ⟨by simp, by simp⟩
theorem rootN_pos {N : Nat} (h : 0 < N) : 0 < rootN N := by
  have := (rootN_is N).2
  rcases Nat.eq_zero_or_pos (rootN N) with h0 | h0
  · rw [h0] at this; omega
  · exact h0

set_option maxHeartbeats 3200000 in
set_option maxRecDepth 100000 in
theorem big_root (w : World) (a : Option Addr) (N n ca : Nat) (ha : Lay .u32 w a (rep N)) (hn : n = (rep N).length) (hca : n ≤ ca) (ln : n ≤ 1048576) :
    Calls Tryz.prog 164 #[.slice a n ca] w fun e w' => ∃ a' s c', e = .returned (.slice a' s c') ∧ s = (rep (rootN N)).length ∧ s ≤ c' ∧ Lay .u32 w' a' (rep (rootN N)) ∧ Below w.heap.size w w' := by
  by_cases h0 : n = 0
  · have hN : N = 0 := by
      have h1 := val_rep N
      rw [List.eq_nil_of_length_eq_zero (hn.symm.trans h0)] at h1
      exact h1.symm
    have hres : ∃ a' s c', (Ending.returned (.slice none 0 0)) = .returned (.slice a' s c') ∧ s = (rep (rootN N)).length ∧ s ≤ c' ∧ Lay .u32 w a' (rep (rootN N)) ∧ Below w.heap.size w w := by
      rw [hN, rootN_zero]; exact ⟨none, 0, 0, rfl, rfl, Nat.le_refl _, Lay.nil _ _ _, Below.refl _ _⟩
    have HR := Lib.hid hres
    clear hres hN ha hca ln hn
    subst h0
    go_enter Tryz.func164, Tryz.ntmps164
    go_wp2
    go_ret
    exact HR.out
  · have hN : 0 < N := by
      rcases Nat.eq_zero_or_pos N with h1 | h1
      · rw [h1] at hn; exact absurd hn h0
      · exact h1
    have q1 : ((n : Int) == 0) = false := by rw [beq_eq_false_iff_ne]; omega
    have Hn := Lib.hid hn; clear hn
    obtain ⟨W1, hW1⟩ : ∃ W1, W1 = w.alloc (.cells #[.int .u32 1] 60) := ⟨_, rfl⟩
    have hb1 : Below w.heap.size w W1 := by rw [hW1]; exact (Below.refl _ _).alloc (Nat.le_refl _) _
    have hl1 : Lay .u32 W1 (some ⟨w.heap.size, 0, none⟩) [1] := by rw [hW1]; exact row_one w 60 .u32 1 1 rfl
    have HW1 := Lib.hid hW1; clear hW1
    obtain ⟨L, hL⟩ : ∃ L, L = bitsN N := ⟨_, rfl⟩
    have hLl : L ≤ 32 * n := by rw [hL, Hn.out]; exact bitsN_le.2 (by rw [← W_two]; exact rep_len_hi N)
    have hLN : N < 2 ^ L := by rw [hL]; exact (bitsN_spec N).1
    obtain ⟨S, hS⟩ : ∃ S, S = (L + 1) / 2 := ⟨_, rfl⟩
    have eS : ((L : Int) + 1) / 2 = (S : Int) := by omega
    have eW : IntKind.u64.wrap ((L : Int) + 1) = (L : Int) + 1 := by rw [IntKind.wrap_u64]; omega
    have hSr := Lib.hid (Nat.le_of_lt (newton_start (rootN_is N) hLN))
    rw [← hS] at hSr
    have hSb : S ≤ 16777217 := by omega
    have hlen := big_length W1 a (rep N) n ca (ha.below hb1) (rep_lim _) (rep_norm _) Hn.out (by omega)
    rw [val_rep, ← hL] at hlen
    have hleft := big_left W1 (some ⟨w.heap.size, 0, none⟩) [1] 1 1 S hl1 (Lim.cons (by decide) Lim.nil) rfl (by decide) (by omega)
    rw [show val [1] * 2 ^ S = 2 ^ S from by simp [val]] at hleft
    have HLen := Lib.hid hlen
    have HLeft := Lib.hid hleft
    have HRo := Lib.hid (rootN_is N)
    have HRp := Lib.hid (rootN_pos hN)
    clear hlen hleft hL hS hLN hl1 h0
    obtain ⟨P, hP⟩ : ∃ P, P = 2 ^ S := ⟨_, rfl⟩
    rw [← hP] at HLeft hSr
    clear hP
    go_enter Tryz.func164, Tryz.ntmps164
    go_wp2_with fail
    rw [← HW1.out]
    refine HLen.out.mono ?_
    rintro e w2 ⟨rfl, rfl⟩
    go_wp2_with fail
    refine HLeft.out.mono ?_
    rintro e w3 ⟨a0, c0, rfl, hc0, hC0, hl0, hb3⟩
    have hB3 := hb1.trans (hb3.mono hb1.size)
    have hcl : (rep P).length ≤ 1048576 := by omega
    obtain ⟨n0, hn0⟩ : ∃ n0, n0 = (rep P).length := ⟨_, rfl⟩
    rw [← hn0] at hc0 hcl ⊢
    have Hn0 := Lib.hid hn0; clear hn0
    clear hb1 hb3 eS eW hLl hSb hC0
    go_wp2_with fail
    go_loopw [3] (fun zv wr => ∃ (z : Nat) (az : Option Addr) (nz cz : Nat), zv = .slice az nz cz ∧ Hid (nz = (rep z).length) ∧ nz ≤ cz ∧ nz ≤ 1048576 ∧ Lay .u32 wr az (rep z) ∧ Hid (rootN N ≤ z) ∧ Below w.heap.size w wr) (fun zv wr => numAt wr zv)
    case atStart => exact ⟨P, a0, n0, c0, rfl, Lib.hid Hn0.out, hc0, hcl, hl0, Lib.hid hSr.out, hB3⟩
    case round =>
      obtain ⟨z, az, nz, cz, rfl, Hnz, hcz, hnz, hlz, Hz, hB⟩ := hrel
      clear hl0 hc0 hcl hB3
      have hz0 : 0 < z := by have := HRp.out; have := Hz.out; omega
      have Hge := Lib.hid (newton_ge HRo.out hz0)
      have Hend := Lib.hid (fun h => newton_end HRo.out hz0 Hz.out h)
      have Hm := Lib.hid (numAt_eq (c := cz) hlz Hnz.out)
      go_wp2_with fail
      refine (big_quotient' wr a az N z n nz ca cz (ha.below hB) hlz Hn.out Hnz.out (by omega) (by omega) hca hz0).mono ?_
      rintro e w4 ⟨aq, cq, sq, ar, cr, sr, rfl, hsq, hsr, hcq, hcr, hlq, hlr, hb4⟩
      have Hsq := Lib.hid hsq; clear hsq hsr
      have hsqn : sq ≤ 1048576 := by rw [Hsq.out]; exact Nat.le_trans (rep_mono (Nat.div_le_self _ _)) (by rw [← Hn.out]; omega)
      have hlz4 := hlz.below hb4
      clear hlr hcr
      go_wp2_with fail
      refine (big_sum' w4 az aq z (N / z) nz sq cz cq hlz4 hlq Hnz.out Hsq.out (by omega) (by omega)).mono ?_
      rintro e w5 ⟨ax, cs, ss, rfl, hss, hcs, hls, hb5⟩
      have Hss := Lib.hid hss; clear hss
      have hssn : ss ≤ 1048577 := by
        rw [Hss.out]
        exact sum_len (by rw [← Hnz.out]; exact hnz) (by rw [← Hsq.out]; exact hsqn)
      go_wp2_with fail
      refine (big_right w5 ax (rep (z + N / z)) ss cs 1 hls (rep_lim _) (rep_norm _) Hss.out hcs (by omega) (by decide)).mono ?_
      rw [val_rep, Nat.pow_one]
      rintro e w6 ⟨a6, c6, rfl, hc6, hl6, hb6⟩
      obtain ⟨nx, hnx⟩ : ∃ nx, nx = (z + N / z) / 2 := ⟨_, rfl⟩
      rw [← hnx] at hc6 hl6 Hge Hend ⊢
      have hb46 := hb4.trans ((hb5.trans (hb6.mono hb5.size)).mono hb4.size)
      have hlz6 := hlz4.below (hb5.trans (hb6.mono hb5.size))
      have hB6 := hB.trans (hb46.mono hB.size)
      obtain ⟨n6, hn6⟩ : ∃ n6, n6 = (rep nx).length := ⟨_, rfl⟩
      rw [← hn6] at hc6 ⊢
      have Hn6 := Lib.hid hn6
      have hn6b : n6 ≤ 1048577 := by rw [hn6, hnx]; exact Nat.le_trans (rep_mono (Nat.div_le_self _ _)) (by rw [← Hss.out]; exact hssn)
      clear hn6 hnx hls hlq hb4 hb5 hb6 hcs hcq hssn hsqn
      go_wp2_with fail
      refine (big_compare w6 a6 az (rep nx) (rep z) n6 nz c6 cz hl6 hlz6 (rep_lim _) (rep_lim _) (rep_norm _) (rep_norm _) Hn6.out Hnz.out (by omega) (by omega)).mono ?_
      rw [val_rep, val_rep]
      rintro e w7 ⟨rfl, dr, rfl⟩
      by_cases hge : z ≤ nx
      · have cv := order_ge hge
        obtain ⟨v, hv⟩ : ∃ v, v = cmpI nx z := ⟨_, rfl⟩
        rw [← hv] at cv ⊢
        have hzr := Lib.hid (Hend.out hge)
        clear hv hge
        go_wp2
        go_ret
        refine ⟨az, nz, cz, rfl, ?_, hcz, ?_, below_drewN hB6 dr⟩
        · rw [← hzr.out]; exact Hnz.out
        · rw [← hzr.out]; exact hlz6.drewN dr
      · have cv := order_lt (show nx < z by omega)
        obtain ⟨v, hv⟩ : ∃ v, v = cmpI nx z := ⟨_, rfl⟩
        rw [← hv] at cv ⊢
        have hlt := Lib.hid (show nx < z by omega)
        have hn6z : n6 ≤ nz := by rw [Hn6.out, Hnz.out]; exact rep_mono (by omega)
        have Hm2 := Lib.hid (numAt_eq (c := c6) (hl6.drewN dr) Hn6.out)
        clear hv hge
        go_wp2
        go_roundw
        case rel => exact ⟨nx, a6, n6, c6, rfl, Lib.hid Hn6.out, hc6, by omega, hl6.drewN dr, Lib.hid Hge.out, below_drewN hB6 dr⟩
        case measure => rw [Hm2.out, Hm.out]; exact hlt.out

set_option maxHeartbeats 800000 in
set_option maxRecDepth 100000 in
theorem int_sqrt (w : World) (p q : Nat) (y z : Int) (hp : IntAt w p y) (hq : IntAt w q z) (hs : (rep z.natAbs).length ≤ 1048576) :
    Calls Tryz.prog 83 #[.pointer (some ⟨p, 0, none⟩), .pointer (some ⟨q, 0, none⟩)] w fun e w' => IntRes w w' e p (rootN z.natAbs : Nat) := by
  obtain ⟨b, a, n, cap, Hb, Hn, hc, hl, hcells⟩ := hq.use
  obtain ⟨c0, c1⟩ := hcells w (Only.refl _ _)
  clear hcells
  rw [← Hn.out] at hs
  have HR := Lib.hid (big_root w a z.natAbs n cap hl Hn.out hc hs)
  clear hl
  go_enter Tryz.func83, Tryz.ntmps83
  go_wp2_with fail
  refine HR.out.mono ?_
  rintro e w1 ⟨a', s', c', rfl, g1, g2, g3, g4⟩
  have G1 := Lib.hid g1; clear g1
  go_wp2_with fail
  refine (big_made w1 p y (rootN z.natAbs : Nat) false a' s' c' (hp.below g4) (by rw [Int.natAbs_natCast]; exact g3) (by rw [Int.natAbs_natCast]; exact G1.out) g2 ⟨(fun h => by cases h), fun _ => Int.natCast_nonneg _⟩).mono ?_
  rintro e w3 ⟨rfl, h4, h5⟩
  go_wp2
  go_ret
  exact ⟨rfl, h4, (Only.of_below (ps := [p]) g4).trans h5 (fun q hq => .inl hq)⟩

end Go.Proofs.YtbffpkmfhkphdaaGreatDoor

namespace Go.Proofs.YtbffpkmfhkphdaaGreatDoor
open Go Go.RowKit Limb

/-- What a division answers. -/
def DivAnswer (ok fl : Bool) (w w' : World) (e : Ending) (z1 z2 : Int) : Prop :=
  if ok = false then DivNone w w' e 1 else if z2 = 0 then DivNone w w' e 90 else DivRes w w' e (dquo fl z1 z2) (drem fl z1 z2)

theorem DivAnswer.shape {ok fl : Bool} {w w' : World} {e : Ending} {z1 z2 : Int} (h : DivAnswer ok fl w w' e z1 z2) : ∃ b a n c b' a' n' c' k,
    e = .returned (.tuple #[.agg #[.bool b, .slice a n c], .agg #[.bool b', .slice a' n' c'], .int .i64 k]) ∧ Below w.heap.size w w' ∧
    (∀ w0 w2, Below w0.heap.size w0 w2 → (∀ x l, Lay .u32 w' x l → Lay .u32 w2 x l) → DivAnswer ok fl w0 w2 e z1 z2) := by
  unfold DivAnswer at h
  split at h
  · rename_i h0
    obtain ⟨hb, rfl⟩ := h
    exact ⟨_, _, _, _, _, _, _, _, _, rfl, hb, fun w0 w2 hb2 _ => by unfold DivAnswer; rw [if_pos h0]; exact ⟨hb2, rfl⟩⟩
  · rename_i h0
    split at h
    · rename_i h1
      obtain ⟨hb, rfl⟩ := h
      exact ⟨_, _, _, _, _, _, _, _, _, rfl, hb, fun w0 w2 hb2 _ => by unfold DivAnswer; rw [if_neg h0, if_pos h1]; exact ⟨hb2, rfl⟩⟩
    · rename_i h1
      obtain ⟨hb, aq, cq, ar, cr, rfl, g1, g2, g3, g4⟩ := h
      exact ⟨_, _, _, _, _, _, _, _, _, rfl, hb, fun w0 w2 hb2 hl => by unfold DivAnswer; rw [if_neg h0, if_neg h1]; exact ⟨hb2, aq, cq, ar, cr, rfl, g1, g2, hl _ _ g3, hl _ _ g4⟩⟩

theorem divide_ans (w : World) (n1 n2 fl : Bool) (a1 a2 : Option Addr) (l1 l2 : List Nat) (m1 m2 c1 c2 : Nat) (hy1 : Lay .u32 w a1 l1) (hy2 : Lay .u32 w a2 l2) (hl1 : Lim l1) (hl2 : Lim l2) (hm1 : m1 = l1.length) (hm2 : m2 = l2.length) (hb1 : m1 ≤ 9223372036854775807) (hb2 : m2 ≤ 9223372036854775807) :
    Calls Tryz.prog 102 #[.agg #[.bool n1, .slice a1 m1 c1], .agg #[.bool n2, .slice a2 m2 c2], .bool fl] w fun e w' => DivAnswer (mayB n1 l1 && mayB n2 l2) fl w w' e (signed n1 (val l1)) (signed n2 (val l2)) := by
  cases hok : (mayB n1 l1 && mayB n2 l2) with
  | false =>
    refine (divide_no w n1 n2 fl a1 a2 l1 l2 m1 m2 c1 c2 hy1 hy2 hl1 hl2 hm1 hm2 hb1 hb2 hok).mono ?_
    intro e w' h; unfold DivAnswer; rw [if_pos rfl]; exact h
  | true =>
    by_cases hz : signed n2 (val l2) = 0
    · have h0 : l2.length = 0 := by
        have hok' := hok
        simp only [Bool.and_eq_true] at hok'
        obtain ⟨y1, _, _⟩ := mayB_int hl2 hok'.2
        rw [y1, hz]; exact (rep_length_zero).mpr rfl
      refine (divide_zero w n1 n2 fl a1 a2 l1 l2 m1 m2 c1 c2 hy1 hy2 hl1 hl2 hm1 hm2 hb1 hb2 hok h0).mono ?_
      intro e w' h; unfold DivAnswer; rw [if_neg (by decide), if_pos hz]; exact h
    · refine (divide_ok w n1 n2 fl a1 a2 l1 l2 m1 m2 c1 c2 hy1 hy2 hl1 hl2 hm1 hm2 hb1 hb2 hok hz).mono ?_
      intro e w' h; unfold DivAnswer; rw [if_neg (by decide), if_neg hz]; exact h

set_option maxHeartbeats 800000 in
set_option maxRecDepth 100000 in
theorem large_quo (w : World) (n1 n2 : Bool) (a1 a2 : Option Addr) (l1 l2 : List Nat) (m1 m2 c1 c2 : Nat) (hy1 : Lay .u32 w a1 l1) (hy2 : Lay .u32 w a2 l2) (hl1 : Lim l1) (hl2 : Lim l2) (hm1 : m1 = l1.length) (hm2 : m2 = l2.length) (hb1 : m1 ≤ 9223372036854775807) (hb2 : m2 ≤ 9223372036854775807) :
    Calls Tryz.prog 36 #[.agg #[.bool n1, .slice a1 m1 c1], .agg #[.bool n2, .slice a2 m2 c2]] w fun e w' => DivAnswer (mayB n1 l1 && mayB n2 l2) false w w' e (signed n1 (val l1)) (signed n2 (val l2)) := by
  obtain ⟨W, hWe, r0, r1, r2, r3, hW, hsz⟩ := rows4 w 24 (.bool n1) (.slice a1 m1 c1) (.bool n2) (.slice a2 m2 c2) (.bool false) (.slice none 0 0) (.bool false) (.slice none 0 0)
  have HWe := Lib.hid hWe; clear hWe
  have HJ := Lib.hid (divide_ans W n1 n2 false a1 a2 l1 l2 m1 m2 c1 c2 (hy1.below hW) (hy2.below hW) hl1 hl2 hm1 hm2 hb1 hb2)
  clear hm1 hm2
  go_enter Tryz.func36, Tryz.ntmps36
  go_wp2_with fail
  rw [← HWe.out]
  refine HJ.out.mono ?_
  rintro e w1 hans
  obtain ⟨b, a, n, c, b', a', n', c', k, rfl, hb, hnext⟩ := hans.shape
  have HN := Lib.hid hnext; clear hnext hans
  have hBV : Below w.heap.size w w1 := hW.trans (hb.mono hW.size)
  have ra := r2.below hb r2.lt
  have rb := r3.below hb r3.lt
  have d0 := ra.cell_at 0
  have d1 := ra.cell_at 1
  have e0 := rb.cell_at 0
  have e1 := rb.cell_at 1
  have d2 := ra.free 0
  have d3 := ra.free 1
  have e2 := rb.free 0
  have e3 := rb.free 1
  simp only [List.getElem?_cons_zero, List.getElem?_cons_succ] at d0 d1 e0 e1
  have hrb : Row ((w1.setCell ⟨w.heap.size + 1 + 1, 0, none⟩ (.bool b)).setCell ⟨w.heap.size + 1 + 1, 1, none⟩ (.slice a n c)) (w.heap.size + 1 + 1 + 1) 24 [.bool false, .slice none 0 0] := (rb.other (by simp) _).other (by simp) _
  obtain ⟨U, hU⟩ : ∃ U, U = (((w1.setCell ⟨w.heap.size + 1 + 1, 0, none⟩ (.bool b)).setCell ⟨w.heap.size + 1 + 1, 1, none⟩ (.slice a n c)).setCell ⟨w.heap.size + 1 + 1 + 1, 0, none⟩ (.bool b')).setCell ⟨w.heap.size + 1 + 1 + 1, 1, none⟩ (.slice a' n' c') := ⟨_, rfl⟩
  have ga : Row U (w.heap.size + 1 + 1) 24 [.bool b, .slice a n c] := by rw [hU]; exact (((ra.store_any 0 (.bool b)).store_any 1 (.slice a n c)).other (by simp) _).other (by simp) _
  have gb : Row U (w.heap.size + 1 + 1 + 1) 24 [.bool b', .slice a' n' c'] := by rw [hU]; exact (hrb.store_any 0 _).store_any 1 _
  have hfin : Below w.heap.size w U := by rw [hU]; exact below_store (below_store (below_store (below_store hBV (by omega) _) (by omega) _) (by omega) _) (by omega) _
  have hlay : ∀ x l, Lay .u32 w1 x l → Lay .u32 U x l := fun x l hl => by rw [hU]; exact (hl.pair ra _ _).pair hrb _ _
  have f0 := ga.cell_at 0
  have f1 := ga.cell_at 1
  have f2 := gb.cell_at 0
  have f3 := gb.cell_at 1
  simp only [List.getElem?_cons_zero, List.getElem?_cons_succ] at f0 f1 f2 f3
  have HV := Lib.hid hU; clear hU hrb
  have HL := Lib.hid hlay; clear hlay
  go_wp2
  (try simp only [Exit.inBlock, Exit.then])
  rw [← HV.out]
  refine bodyPost_ret (v := .tuple #[.agg #[.bool b, .slice a n c], .agg #[.bool b', .slice a' n' c'], .int .i64 k]) (by simp [results, Tryz.results36, go_sem, f0, f1, f2, f3]) rfl ?_
  exact HN.out _ _ hfin HL.out

set_option maxHeartbeats 800000 in
set_option maxRecDepth 100000 in
theorem large_div (w : World) (n1 n2 : Bool) (a1 a2 : Option Addr) (l1 l2 : List Nat) (m1 m2 c1 c2 : Nat) (hy1 : Lay .u32 w a1 l1) (hy2 : Lay .u32 w a2 l2) (hl1 : Lim l1) (hl2 : Lim l2) (hm1 : m1 = l1.length) (hm2 : m2 = l2.length) (hb1 : m1 ≤ 9223372036854775807) (hb2 : m2 ≤ 9223372036854775807) :
    Calls Tryz.prog 75 #[.agg #[.bool n1, .slice a1 m1 c1], .agg #[.bool n2, .slice a2 m2 c2]] w fun e w' => DivAnswer (mayB n1 l1 && mayB n2 l2) true w w' e (signed n1 (val l1)) (signed n2 (val l2)) := by
  obtain ⟨W, hWe, r0, r1, r2, r3, hW, hsz⟩ := rows4 w 24 (.bool n1) (.slice a1 m1 c1) (.bool n2) (.slice a2 m2 c2) (.bool false) (.slice none 0 0) (.bool false) (.slice none 0 0)
  have HWe := Lib.hid hWe; clear hWe
  have HJ := Lib.hid (divide_ans W n1 n2 true a1 a2 l1 l2 m1 m2 c1 c2 (hy1.below hW) (hy2.below hW) hl1 hl2 hm1 hm2 hb1 hb2)
  clear hm1 hm2
  go_enter Tryz.func75, Tryz.ntmps75
  go_wp2_with fail
  rw [← HWe.out]
  refine HJ.out.mono ?_
  rintro e w1 hans
  obtain ⟨b, a, n, c, b', a', n', c', k, rfl, hb, hnext⟩ := hans.shape
  have HN := Lib.hid hnext; clear hnext hans
  have hBV : Below w.heap.size w w1 := hW.trans (hb.mono hW.size)
  have ra := r2.below hb r2.lt
  have rb := r3.below hb r3.lt
  have d0 := ra.cell_at 0
  have d1 := ra.cell_at 1
  have e0 := rb.cell_at 0
  have e1 := rb.cell_at 1
  have d2 := ra.free 0
  have d3 := ra.free 1
  have e2 := rb.free 0
  have e3 := rb.free 1
  simp only [List.getElem?_cons_zero, List.getElem?_cons_succ] at d0 d1 e0 e1
  have hrb : Row ((w1.setCell ⟨w.heap.size + 1 + 1, 0, none⟩ (.bool b)).setCell ⟨w.heap.size + 1 + 1, 1, none⟩ (.slice a n c)) (w.heap.size + 1 + 1 + 1) 24 [.bool false, .slice none 0 0] := (rb.other (by simp) _).other (by simp) _
  obtain ⟨U, hU⟩ : ∃ U, U = (((w1.setCell ⟨w.heap.size + 1 + 1, 0, none⟩ (.bool b)).setCell ⟨w.heap.size + 1 + 1, 1, none⟩ (.slice a n c)).setCell ⟨w.heap.size + 1 + 1 + 1, 0, none⟩ (.bool b')).setCell ⟨w.heap.size + 1 + 1 + 1, 1, none⟩ (.slice a' n' c') := ⟨_, rfl⟩
  have ga : Row U (w.heap.size + 1 + 1) 24 [.bool b, .slice a n c] := by rw [hU]; exact (((ra.store_any 0 (.bool b)).store_any 1 (.slice a n c)).other (by simp) _).other (by simp) _
  have gb : Row U (w.heap.size + 1 + 1 + 1) 24 [.bool b', .slice a' n' c'] := by rw [hU]; exact (hrb.store_any 0 _).store_any 1 _
  have hfin : Below w.heap.size w U := by rw [hU]; exact below_store (below_store (below_store (below_store hBV (by omega) _) (by omega) _) (by omega) _) (by omega) _
  have hlay : ∀ x l, Lay .u32 w1 x l → Lay .u32 U x l := fun x l hl => by rw [hU]; exact (hl.pair ra _ _).pair hrb _ _
  have f0 := ga.cell_at 0
  have f1 := ga.cell_at 1
  have f2 := gb.cell_at 0
  have f3 := gb.cell_at 1
  simp only [List.getElem?_cons_zero, List.getElem?_cons_succ] at f0 f1 f2 f3
  have HV := Lib.hid hU; clear hU hrb
  have HL := Lib.hid hlay; clear hlay
  go_wp2
  (try simp only [Exit.inBlock, Exit.then])
  rw [← HV.out]
  refine bodyPost_ret (v := .tuple #[.agg #[.bool b, .slice a n c], .agg #[.bool b', .slice a' n' c'], .int .i64 k]) (by simp [results, Tryz.results75, go_sem, f0, f1, f2, f3]) rfl ?_
  exact HN.out _ _ hfin HL.out

end Go.Proofs.YtbffpkmfhkphdaaGreatDoor
