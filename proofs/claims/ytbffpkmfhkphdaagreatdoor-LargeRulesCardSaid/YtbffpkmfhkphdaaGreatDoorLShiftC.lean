/- The walk of large.Shift. -/
import Derived.Test.YtbffpkmfhkphdaaGreatDoorGX26
import Derived.Test.YtbffpkmfhkphdaaGreatDoorGX28
set_option linter.unusedVariables false
set_option linter.unusedSimpArgs false
namespace Go.Proofs.YtbffpkmfhkphdaaGreatDoor
open Go Go.RowKit Limb

theorem at_lsh {w1 X : World} {l : List (Nat × Int)} {p s : Nat} {z : Int} (h : At w1 X ((p, z) :: l)) (hs : (rep z.natAbs).length ≤ 68719476736) (ls : s ≤ 4294967296) :
    Calls Tryz.prog 63 #[.pointer (some ⟨p, 0, none⟩), .pointer (some ⟨p, 0, none⟩), .int .u64 s] X fun e X' => e = .returned (.pointer (some ⟨p, 0, none⟩)) ∧ At w1 X' ((p, z * 2 ^ s) :: l) := by
  refine (int_lsh X p p s z z (h.ints _ (.head _)).1 (h.ints _ (.head _)).1 hs ls).mono ?_
  rintro e X' ⟨rfl, h1, h2⟩
  exact ⟨rfl, by have := h.set (.head _) h2 h1; rwa [upd_head h.nd] at this⟩
theorem at_rsh {w1 X : World} {l : List (Nat × Int)} {p s : Nat} {z : Int} (h : At w1 X ((p, z) :: l)) (hs : (rep z.natAbs).length ≤ 68719476736) (ls : s ≤ 4294967296) :
    Calls Tryz.prog 64 #[.pointer (some ⟨p, 0, none⟩), .pointer (some ⟨p, 0, none⟩), .int .u64 s] X fun e X' => e = .returned (.pointer (some ⟨p, 0, none⟩)) ∧ At w1 X' ((p, z / 2 ^ s) :: l) := by
  refine (int_rsh X p p s z z (h.ints _ (.head _)).1 (h.ints _ (.head _)).1 hs ls).mono ?_
  rintro e X' ⟨rfl, h1, h2⟩
  exact ⟨rfl, by have := h.set (.head _) h2 h1; rwa [upd_head h.nd] at this⟩

/-- What large.Shift answers: the number, or that it is too long at once. -/
def shiftZ (x n : Int) : Int := if 0 ≤ n then x * 2 ^ n.toNat else x / 2 ^ (-n).toNat

theorem pow_len {s k : Nat} (h : s < 32 * k) : (rep ((2 : Int) ^ s).natAbs).length ≤ k := by
  rw [Int.natAbs_pow]
  refine rep_length_le.2 ?_
  rw [W_two]
  exact Nat.pow_lt_pow_right (by decide) h
theorem shr_abs (x : Int) (s : Nat) : (x / 2 ^ s).natAbs ≤ x.natAbs := by
  have hp : (0 : Int) < 2 ^ s := Int.pow_pos (by decide)
  rcases Int.lt_or_le x 0 with h | h
  · have h1 : x ≤ x / 2 ^ s := by
      rw [Int.le_ediv_iff_mul_le hp]
      have h2 : (1 : Int) ≤ 2 ^ s := hp
      have h3 := Int.mul_le_mul_of_nonpos_left (Int.le_of_lt h) h2
      omega
    have h2 := Int.ediv_neg_of_neg_of_pos h hp
    omega
  · have h1 := Int.ediv_nonneg h (Int.le_of_lt hp)
    have h2 := Int.ediv_le_self (2 ^ s) h
    omega
theorem shr_far {x : Int} {c : Nat} (hx : (rep x.natAbs).length ≤ c) {s t : Nat} (hs : 32 * c ≤ s) (ht : 32 * c ≤ t) : x / 2 ^ s = x / 2 ^ t := by
  have key : ∀ u, 32 * c ≤ u → x / 2 ^ u = if x < 0 then -1 else 0 := by
    intro u hu
    have h2 : x.natAbs < 2 ^ u := Nat.lt_of_lt_of_le (rep_length_le.1 hx) (by rw [W_two]; exact Nat.pow_le_pow_right (by decide) hu)
    have e : ((2 : Int) ^ u) = ((2 ^ u : Nat) : Int) := by rw [Int.natCast_pow]; rfl
    rw [e]
    generalize 2 ^ u = d at h2 ⊢
    by_cases hx : x < 0
    · rw [if_pos hx]
      exact ((Int.ediv_emod_unique (a := x) (b := (d : Int)) (q := -1) (r := x + d) (by omega)).2 ⟨by omega, by omega, by omega⟩).1
    · rw [if_neg hx]
      exact Int.ediv_eq_zero_of_lt (by omega) (by omega)
  rw [key s hs, key t ht]

set_option maxHeartbeats 3200000 in
set_option maxRecDepth 100000 in
theorem shift_no (w : World) (neg : Bool) (a : Option Addr) (l : List Nat) (m cap : Nat) (n x : Int) (hlay : Lay .u32 w a l) (hlim : Lim l) (hm : m = l.length) (hl : m ≤ 9223372036854775807) (hmay : mayB neg l = false) (hn1 : -9223372036854775808 ≤ n) (hn2 : n ≤ 9223372036854775807) :
    Calls Tryz.prog 9 #[.agg #[.bool neg, .slice a m cap], .int .i64 n] w fun e w' => e = errRange ∧ Below w.heap.size w w' := by
  obtain ⟨W, hWe, r0, r1, hW, hsz⟩ := rows2 w 24 (.bool neg) (.slice a m cap) (.bool false) (.slice none 0 0)
  have HWe := Lib.hid hWe; clear hWe
  have hM := large_May W neg a l m cap (hlay.below hW) hlim hm hl
  rw [hmay] at hM
  have HM := Lib.hid hM; clear hM
  clear hmay hm hlim
  go_enter Tryz.func9, Tryz.ntmps9
  go_wp2_with fail
  rw [← HWe.out]
  refine HM.out.mono ?_
  rintro e w1 ⟨rfl, hb1⟩
  have p0 := r0.below hb1 r0.lt
  have p1 := r1.below hb1 r1.lt
  have c0 := p0.cell_at 0
  have c1 := p0.cell_at 1
  simp only [List.getElem?_cons_zero, List.getElem?_cons_succ] at c0 c1
  have hB1 : Below w.heap.size w w1 := hW.trans ((hb1).mono hW.size)
  have hR := r1.below (hb1) r1.lt
  have k0 := hR.cell_at 0
  have k1 := hR.cell_at 1
  have k2 := hR.free 0
  have k3 := hR.free 1
  simp only [List.getElem?_cons_zero, List.getElem?_cons_succ] at k0 k1
  have e0 : (w1.setCell ⟨w.heap.size + 1, 0, none⟩ (.bool false)).cell? ⟨w.heap.size + 1, 0, none⟩ = some (.bool false) := (hR.store_any 0 _).cell_at 0
  have e1 : ((w1.setCell ⟨w.heap.size + 1, 0, none⟩ (.bool false)).setCell ⟨w.heap.size + 1, 1, none⟩ (.slice none 0 0)).cell? ⟨w.heap.size + 1, 1, none⟩ = some (.slice none 0 0) := ((hR.store_any 0 _).store_any 1 _).cell_at 1
  have HF := Lib.hid (below_store (below_store hB1 (g := w.heap.size + 1) (i := 0) (by omega) (.bool false)) (g := w.heap.size + 1) (i := 1) (by omega) (.slice none 0 0))
  go_wp2
  (try simp only [Exit.inBlock, Exit.then])
  refine bodyPost_ret (v := .tuple #[.agg #[.bool false, .slice none 0 0], .int .i64 1]) (by simp [results, Tryz.results9, go_sem, e0, e1]) rfl ?_
  exact ⟨rfl, HF.out⟩

set_option maxHeartbeats 3200000 in
set_option maxRecDepth 100000 in
theorem shift_zero (w : World) (neg : Bool) (a : Option Addr) (l : List Nat) (m cap : Nat) (n x : Int) (hlay : Lay .u32 w a l) (hlim : Lim l) (hm : m = l.length) (hl : m ≤ 9223372036854775807) (hmay : mayB neg l = true) (hx : x = signed neg (val l)) (hn1 : -9223372036854775808 ≤ n) (hn2 : n ≤ 9223372036854775807) (h0 : x = 0) :
    Calls Tryz.prog 9 #[.agg #[.bool neg, .slice a m cap], .int .i64 n] w fun e w' => Answer true w w' e 0 := by
  obtain ⟨W, hWe, r0, r1, hW, hsz⟩ := rows2 w 24 (.bool neg) (.slice a m cap) (.bool false) (.slice none 0 0)
  have HWe := Lib.hid hWe; clear hWe
  have hM := large_May W neg a l m cap (hlay.below hW) hlim hm hl
  rw [hmay] at hM
  have HM := Lib.hid hM; clear hM
  have hm10 : m ≤ 1024 := by rw [hm]; exact (mayB_int hlim hmay).2.2
  have hWd := fun (w1 : World) (hb : Below W.heap.size W w1) => at_wide (At.refl w1) neg a l m cap (hlay.below (hW.trans (hb.mono hW.size))) hlim hm (by omega)
  rw [← hx] at hWd
  have HWd := Lib.hid hWd; clear hWd
  have lx : (rep x.natAbs).length ≤ 1024 := by rw [hx, signed_abs]; exact Nat.le_trans (rep_val_le hlim) (by omega)
  have lx' : (rep x.natAbs).length ≤ 68719476736 := Nat.le_trans lx (by decide)
  have d0 : (sgnI x == 0) = true := by rw [beq_iff_eq, sgnI_zero]; exact h0
  clear hx h0 hmay hlim hm
  go_enter Tryz.func9, Tryz.ntmps9
  go_wp2_with fail
  rw [← HWe.out]
  refine HM.out.mono ?_
  rintro e w1 ⟨rfl, hb1⟩
  have p0 := r0.below hb1 r0.lt
  have p1 := r1.below hb1 r1.lt
  have c0 := p0.cell_at 0
  have c1 := p0.cell_at 1
  simp only [List.getElem?_cons_zero, List.getElem?_cons_succ] at c0 c1
  go_wp2_with fail
  refine (HWd.out w1 hb1).mono ?_
  rintro e w2 ⟨p, rfl, h2⟩
  go_wp2_with fail
  refine (at_sign h2 (.head _)).mono ?_
  rintro e w2' ⟨rfl, rfl⟩
  have hB1 : Below w.heap.size w w2 := hW.trans ((hb1.trans (h2.below.mono hb1.size)).mono hW.size)
  have hR := r1.below (hb1.trans (h2.below.mono hb1.size)) r1.lt
  have k0 := hR.cell_at 0
  have k1 := hR.cell_at 1
  have k2 := hR.free 0
  have k3 := hR.free 1
  simp only [List.getElem?_cons_zero, List.getElem?_cons_succ] at k0 k1
  have e0 : (w2.setCell ⟨w.heap.size + 1, 0, none⟩ (.bool false)).cell? ⟨w.heap.size + 1, 0, none⟩ = some (.bool false) := (hR.store_any 0 _).cell_at 0
  have e1 : ((w2.setCell ⟨w.heap.size + 1, 0, none⟩ (.bool false)).setCell ⟨w.heap.size + 1, 1, none⟩ (.slice none 0 0)).cell? ⟨w.heap.size + 1, 1, none⟩ = some (.slice none 0 0) := ((hR.store_any 0 _).store_any 1 _).cell_at 1
  have HF := Lib.hid (below_store (below_store hB1 (g := w.heap.size + 1) (i := 0) (by omega) (.bool false)) (g := w.heap.size + 1) (i := 1) (by omega) (.slice none 0 0))
  go_wp2
  (try simp only [Exit.inBlock, Exit.then])
  refine bodyPost_ret (v := .tuple #[.agg #[.bool false, .slice none 0 0], .int .i64 0]) (by simp [results, Tryz.results9, go_sem, e0, e1]) rfl ?_
  exact ⟨HF.out, .inr ⟨by decide, _, rfl, none, 0, 0, rfl, rfl, Nat.le_refl _, Lay.nil _ _ _⟩⟩

set_option maxHeartbeats 3200000 in
set_option maxRecDepth 100000 in
theorem shift_long (w : World) (neg : Bool) (a : Option Addr) (l : List Nat) (m cap : Nat) (n x : Int) (hlay : Lay .u32 w a l) (hlim : Lim l) (hm : m = l.length) (hl : m ≤ 9223372036854775807) (hmay : mayB neg l = true) (hx : x = signed neg (val l)) (hn1 : -9223372036854775808 ≤ n) (hn2 : n ≤ 9223372036854775807) (h0 : x ≠ 0) (hn : 32768 < n) :
    Calls Tryz.prog 9 #[.agg #[.bool neg, .slice a m cap], .int .i64 n] w fun e w' => e = .returned (.tuple #[.agg #[.bool false, .slice none 0 0], .int .i64 2]) ∧ Below w.heap.size w w' := by
  obtain ⟨W, hWe, r0, r1, hW, hsz⟩ := rows2 w 24 (.bool neg) (.slice a m cap) (.bool false) (.slice none 0 0)
  have HWe := Lib.hid hWe; clear hWe
  have hM := large_May W neg a l m cap (hlay.below hW) hlim hm hl
  rw [hmay] at hM
  have HM := Lib.hid hM; clear hM
  have hm10 : m ≤ 1024 := by rw [hm]; exact (mayB_int hlim hmay).2.2
  have hWd := fun (w1 : World) (hb : Below W.heap.size W w1) => at_wide (At.refl w1) neg a l m cap (hlay.below (hW.trans (hb.mono hW.size))) hlim hm (by omega)
  rw [← hx] at hWd
  have HWd := Lib.hid hWd; clear hWd
  have lx : (rep x.natAbs).length ≤ 1024 := by rw [hx, signed_abs]; exact Nat.le_trans (rep_val_le hlim) (by omega)
  have lx' : (rep x.natAbs).length ≤ 68719476736 := Nat.le_trans lx (by decide)
  have d0 : (sgnI x == 0) = false := by rw [beq_eq_false_iff_ne, Ne, sgnI_zero]; exact h0
  have d1 : decide (32768 < n) = true := by rw [decide_eq_true_eq]; exact hn
  clear hx h0 hmay hlim hm
  go_enter Tryz.func9, Tryz.ntmps9
  go_wp2_with fail
  rw [← HWe.out]
  refine HM.out.mono ?_
  rintro e w1 ⟨rfl, hb1⟩
  have p0 := r0.below hb1 r0.lt
  have p1 := r1.below hb1 r1.lt
  have c0 := p0.cell_at 0
  have c1 := p0.cell_at 1
  simp only [List.getElem?_cons_zero, List.getElem?_cons_succ] at c0 c1
  go_wp2_with fail
  refine (HWd.out w1 hb1).mono ?_
  rintro e w2 ⟨p, rfl, h2⟩
  go_wp2_with fail
  refine (at_sign h2 (.head _)).mono ?_
  rintro e w2' ⟨rfl, rfl⟩
  have hB1 : Below w.heap.size w w2 := hW.trans ((hb1.trans (h2.below.mono hb1.size)).mono hW.size)
  have hR := r1.below (hb1.trans (h2.below.mono hb1.size)) r1.lt
  have k0 := hR.cell_at 0
  have k1 := hR.cell_at 1
  have k2 := hR.free 0
  have k3 := hR.free 1
  simp only [List.getElem?_cons_zero, List.getElem?_cons_succ] at k0 k1
  have e0 : (w2.setCell ⟨w.heap.size + 1, 0, none⟩ (.bool false)).cell? ⟨w.heap.size + 1, 0, none⟩ = some (.bool false) := (hR.store_any 0 _).cell_at 0
  have e1 : ((w2.setCell ⟨w.heap.size + 1, 0, none⟩ (.bool false)).setCell ⟨w.heap.size + 1, 1, none⟩ (.slice none 0 0)).cell? ⟨w.heap.size + 1, 1, none⟩ = some (.slice none 0 0) := ((hR.store_any 0 _).store_any 1 _).cell_at 1
  have HF := Lib.hid (below_store (below_store hB1 (g := w.heap.size + 1) (i := 0) (by omega) (.bool false)) (g := w.heap.size + 1) (i := 1) (by omega) (.slice none 0 0))
  go_wp2
  (try simp only [Exit.inBlock, Exit.then])
  refine bodyPost_ret (v := .tuple #[.agg #[.bool false, .slice none 0 0], .int .i64 2]) (by simp [results, Tryz.results9, go_sem, e0, e1]) rfl ?_
  exact ⟨rfl, HF.out⟩

set_option maxHeartbeats 3200000 in
set_option maxRecDepth 100000 in
theorem shift_up (w : World) (neg : Bool) (a : Option Addr) (l : List Nat) (m cap : Nat) (n x : Int) (hlay : Lay .u32 w a l) (hlim : Lim l) (hm : m = l.length) (hl : m ≤ 9223372036854775807) (hmay : mayB neg l = true) (hx : x = signed neg (val l)) (hn1 : -9223372036854775808 ≤ n) (hn2 : n ≤ 9223372036854775807) (h0 : x ≠ 0) (hn0 : 0 ≤ n) (hn : n ≤ 32768) :
    Calls Tryz.prog 9 #[.agg #[.bool neg, .slice a m cap], .int .i64 n] w fun e w' => Answer true w w' e (shiftZ x n) := by
  obtain ⟨W, hWe, r0, r1, hW, hsz⟩ := rows2 w 24 (.bool neg) (.slice a m cap) (.bool false) (.slice none 0 0)
  have HWe := Lib.hid hWe; clear hWe
  have hM := large_May W neg a l m cap (hlay.below hW) hlim hm hl
  rw [hmay] at hM
  have HM := Lib.hid hM; clear hM
  have hm10 : m ≤ 1024 := by rw [hm]; exact (mayB_int hlim hmay).2.2
  have hWd := fun (w1 : World) (hb : Below W.heap.size W w1) => at_wide (At.refl w1) neg a l m cap (hlay.below (hW.trans (hb.mono hW.size))) hlim hm (by omega)
  rw [← hx] at hWd
  have HWd := Lib.hid hWd; clear hWd
  have lx : (rep x.natAbs).length ≤ 1024 := by rw [hx, signed_abs]; exact Nat.le_trans (rep_val_le hlim) (by omega)
  have lx' : (rep x.natAbs).length ≤ 68719476736 := Nat.le_trans lx (by decide)
  have d0 : (sgnI x == 0) = false := by rw [beq_eq_false_iff_ne, Ne, sgnI_zero]; exact h0
  obtain ⟨s, hs⟩ := Int.eq_ofNat_of_zero_le hn0
  subst hs
  have d1 : decide ((32768 : Int) < (s : Int)) = false := by rw [decide_eq_false_iff_not]; omega
  have lz : (rep (x * 2 ^ s).natAbs).length ≤ 68719476736 := Nat.le_trans (len_mulI lx (pow_len (show s < 32 * 1025 by omega))) (by decide)
  have HZ := Lib.hid (show shiftZ x (s : Int) = x * 2 ^ s from by unfold shiftZ; rw [if_pos (by omega)]; rfl)
  clear hx h0 hmay hlim hm
  go_enter Tryz.func9, Tryz.ntmps9
  go_wp2_with fail
  rw [← HWe.out]
  refine HM.out.mono ?_
  rintro e w1 ⟨rfl, hb1⟩
  have p0 := r0.below hb1 r0.lt
  have p1 := r1.below hb1 r1.lt
  have c0 := p0.cell_at 0
  have c1 := p0.cell_at 1
  simp only [List.getElem?_cons_zero, List.getElem?_cons_succ] at c0 c1
  go_wp2_with fail
  refine (HWd.out w1 hb1).mono ?_
  rintro e w2 ⟨p, rfl, h2⟩
  go_wp2_with fail
  refine (at_sign h2 (.head _)).mono ?_
  rintro e w2' ⟨rfl, rfl⟩
  go_wp2_with fail
  refine (at_lsh h2 lx' (by omega)).mono ?_
  rintro e w3 ⟨rfl, h3⟩
  go_wp2_with fail
  refine (at_narrow_shape h3 (.head _) lz).mono ?_
  rintro e w5 ⟨⟨b', a', n', c', k', rfl, hnext⟩, h5⟩
  have HN := Lib.hid hnext; clear hnext
  have hB1 : Below w.heap.size w w5 := hW.trans ((hb1.trans (h5.below.mono hb1.size)).mono hW.size)
  have hR := p1.below h5.below p1.lt
  have k0 := hR.cell_at 0
  have k1 := hR.cell_at 1
  have k2 := hR.free 0
  have k3 := hR.free 1
  simp only [List.getElem?_cons_zero, List.getElem?_cons_succ] at k0 k1
  have e0 : (w5.setCell ⟨w.heap.size + 1, 0, none⟩ (.bool b')).cell? ⟨w.heap.size + 1, 0, none⟩ = some (.bool b') := (hR.store_any 0 _).cell_at 0
  have e1 : ((w5.setCell ⟨w.heap.size + 1, 0, none⟩ (.bool b')).setCell ⟨w.heap.size + 1, 1, none⟩ (.slice a' n' c')).cell? ⟨w.heap.size + 1, 1, none⟩ = some (.slice a' n' c') := ((hR.store_any 0 _).store_any 1 _).cell_at 1
  have HF := Lib.hid (below_store (below_store hB1 (g := w.heap.size + 1) (i := 0) (by omega) (.bool b')) (g := w.heap.size + 1) (i := 1) (by omega) (.slice a' n' c'))
  go_wp2
  (try simp only [Exit.inBlock, Exit.then])
  refine bodyPost_ret (v := .tuple #[.agg #[.bool b', .slice a' n' c'], .int .i64 k']) (by simp [results, Tryz.results9, go_sem, e0, e1]) rfl ?_
  rw [HZ.out]
  exact HN.out _ _ HF.out (fun l hl => hl.pair hR _ _)

set_option maxHeartbeats 3200000 in
set_option maxRecDepth 100000 in
theorem shift_down (w : World) (neg : Bool) (a : Option Addr) (l : List Nat) (m cap : Nat) (n x : Int) (hlay : Lay .u32 w a l) (hlim : Lim l) (hm : m = l.length) (hl : m ≤ 9223372036854775807) (hmay : mayB neg l = true) (hx : x = signed neg (val l)) (hn1 : -9223372036854775808 ≤ n) (hn2 : n ≤ 9223372036854775807) (h0 : x ≠ 0) (hn0 : n < 0) (hn : -32768 ≤ n) :
    Calls Tryz.prog 9 #[.agg #[.bool neg, .slice a m cap], .int .i64 n] w fun e w' => Answer true w w' e (shiftZ x n) := by
  obtain ⟨W, hWe, r0, r1, hW, hsz⟩ := rows2 w 24 (.bool neg) (.slice a m cap) (.bool false) (.slice none 0 0)
  have HWe := Lib.hid hWe; clear hWe
  have hM := large_May W neg a l m cap (hlay.below hW) hlim hm hl
  rw [hmay] at hM
  have HM := Lib.hid hM; clear hM
  have hm10 : m ≤ 1024 := by rw [hm]; exact (mayB_int hlim hmay).2.2
  have hWd := fun (w1 : World) (hb : Below W.heap.size W w1) => at_wide (At.refl w1) neg a l m cap (hlay.below (hW.trans (hb.mono hW.size))) hlim hm (by omega)
  rw [← hx] at hWd
  have HWd := Lib.hid hWd; clear hWd
  have lx : (rep x.natAbs).length ≤ 1024 := by rw [hx, signed_abs]; exact Nat.le_trans (rep_val_le hlim) (by omega)
  have lx' : (rep x.natAbs).length ≤ 68719476736 := Nat.le_trans lx (by decide)
  have d0 : (sgnI x == 0) = false := by rw [beq_eq_false_iff_ne, Ne, sgnI_zero]; exact h0
  obtain ⟨s, hs⟩ : ∃ s : Nat, n = -(s : Int) := ⟨n.natAbs, by omega⟩
  subst hs
  have s1 : 1 ≤ s := by omega
  have s2 : s ≤ 32768 := by omega
  have lz : (rep (x / 2 ^ s).natAbs).length ≤ 68719476736 := Nat.le_trans (rep_mono (shr_abs x s)) lx'
  have HZ := Lib.hid (show shiftZ x (-(s : Int)) = x / 2 ^ s from by unfold shiftZ; rw [if_neg (by omega), Int.neg_neg]; rfl)
  clear hx h0 hmay hlim hm
  go_enter Tryz.func9, Tryz.ntmps9
  go_wp2_with fail
  rw [← HWe.out]
  refine HM.out.mono ?_
  rintro e w1 ⟨rfl, hb1⟩
  have p0 := r0.below hb1 r0.lt
  have p1 := r1.below hb1 r1.lt
  have c0 := p0.cell_at 0
  have c1 := p0.cell_at 1
  simp only [List.getElem?_cons_zero, List.getElem?_cons_succ] at c0 c1
  go_wp2_with fail
  refine (HWd.out w1 hb1).mono ?_
  rintro e w2 ⟨p, rfl, h2⟩
  go_wp2_with fail
  refine (at_sign h2 (.head _)).mono ?_
  rintro e w2' ⟨rfl, rfl⟩
  go_wp2_with fail
  refine (at_rsh h2 lx' (by omega)).mono ?_
  rintro e w3 ⟨rfl, h3⟩
  go_wp2_with fail
  refine (at_narrow_shape h3 (.head _) lz).mono ?_
  rintro e w5 ⟨⟨b', a', n', c', k', rfl, hnext⟩, h5⟩
  have HN := Lib.hid hnext; clear hnext
  have hB1 : Below w.heap.size w w5 := hW.trans ((hb1.trans (h5.below.mono hb1.size)).mono hW.size)
  have hR := p1.below h5.below p1.lt
  have k0 := hR.cell_at 0
  have k1 := hR.cell_at 1
  have k2 := hR.free 0
  have k3 := hR.free 1
  simp only [List.getElem?_cons_zero, List.getElem?_cons_succ] at k0 k1
  have e0 : (w5.setCell ⟨w.heap.size + 1, 0, none⟩ (.bool b')).cell? ⟨w.heap.size + 1, 0, none⟩ = some (.bool b') := (hR.store_any 0 _).cell_at 0
  have e1 : ((w5.setCell ⟨w.heap.size + 1, 0, none⟩ (.bool b')).setCell ⟨w.heap.size + 1, 1, none⟩ (.slice a' n' c')).cell? ⟨w.heap.size + 1, 1, none⟩ = some (.slice a' n' c') := ((hR.store_any 0 _).store_any 1 _).cell_at 1
  have HF := Lib.hid (below_store (below_store hB1 (g := w.heap.size + 1) (i := 0) (by omega) (.bool b')) (g := w.heap.size + 1) (i := 1) (by omega) (.slice a' n' c'))
  go_wp2
  (try simp only [Exit.inBlock, Exit.then])
  refine bodyPost_ret (v := .tuple #[.agg #[.bool b', .slice a' n' c'], .int .i64 k']) (by simp [results, Tryz.results9, go_sem, e0, e1]) rfl ?_
  rw [HZ.out]
  exact HN.out _ _ HF.out (fun l hl => hl.pair hR _ _)

set_option maxHeartbeats 3200000 in
set_option maxRecDepth 100000 in
theorem shift_far (w : World) (neg : Bool) (a : Option Addr) (l : List Nat) (m cap : Nat) (n x : Int) (hlay : Lay .u32 w a l) (hlim : Lim l) (hm : m = l.length) (hl : m ≤ 9223372036854775807) (hmay : mayB neg l = true) (hx : x = signed neg (val l)) (hn1 : -9223372036854775808 ≤ n) (hn2 : n ≤ 9223372036854775807) (h0 : x ≠ 0) (hn : n < -32768) :
    Calls Tryz.prog 9 #[.agg #[.bool neg, .slice a m cap], .int .i64 n] w fun e w' => Answer true w w' e (shiftZ x n) := by
  obtain ⟨W, hWe, r0, r1, hW, hsz⟩ := rows2 w 24 (.bool neg) (.slice a m cap) (.bool false) (.slice none 0 0)
  have HWe := Lib.hid hWe; clear hWe
  have hM := large_May W neg a l m cap (hlay.below hW) hlim hm hl
  rw [hmay] at hM
  have HM := Lib.hid hM; clear hM
  have hm10 : m ≤ 1024 := by rw [hm]; exact (mayB_int hlim hmay).2.2
  have hWd := fun (w1 : World) (hb : Below W.heap.size W w1) => at_wide (At.refl w1) neg a l m cap (hlay.below (hW.trans (hb.mono hW.size))) hlim hm (by omega)
  rw [← hx] at hWd
  have HWd := Lib.hid hWd; clear hWd
  have lx : (rep x.natAbs).length ≤ 1024 := by rw [hx, signed_abs]; exact Nat.le_trans (rep_val_le hlim) (by omega)
  have lx' : (rep x.natAbs).length ≤ 68719476736 := Nat.le_trans lx (by decide)
  have d0 : (sgnI x == 0) = false := by rw [beq_eq_false_iff_ne, Ne, sgnI_zero]; exact h0
  obtain ⟨t, ht⟩ : ∃ t : Nat, t = 32768 := ⟨_, rfl⟩
  have hct : ((t : Nat) : Int) = 32768 := by omega
  have lz : (rep (x / 2 ^ t).natAbs).length ≤ 68719476736 := Nat.le_trans (rep_mono (shr_abs x t)) lx'
  have HZ := Lib.hid (show shiftZ x n = x / 2 ^ t from by unfold shiftZ; rw [if_neg (by omega)]; exact shr_far (c := 1024) lx (by omega) (by omega))
  have hrs := fun (w1 X : World) p (h : At w1 X [(p, x)]) => at_rsh (s := t) h lx' (by omega)
  rw [hct] at hrs
  have HRs := Lib.hid hrs; clear hrs hct ht
  clear hx h0 hmay hlim hm
  go_enter Tryz.func9, Tryz.ntmps9
  go_wp2_with fail
  rw [← HWe.out]
  refine HM.out.mono ?_
  rintro e w1 ⟨rfl, hb1⟩
  have p0 := r0.below hb1 r0.lt
  have p1 := r1.below hb1 r1.lt
  have c0 := p0.cell_at 0
  have c1 := p0.cell_at 1
  simp only [List.getElem?_cons_zero, List.getElem?_cons_succ] at c0 c1
  go_wp2_with fail
  refine (HWd.out w1 hb1).mono ?_
  rintro e w2 ⟨p, rfl, h2⟩
  go_wp2_with fail
  refine (at_sign h2 (.head _)).mono ?_
  rintro e w2' ⟨rfl, rfl⟩
  go_wp2_with fail
  refine (HRs.out _ _ _ h2).mono ?_
  rintro e w3 ⟨rfl, h3⟩
  go_wp2_with fail
  refine (at_narrow_shape h3 (.head _) lz).mono ?_
  rintro e w5 ⟨⟨b', a', n', c', k', rfl, hnext⟩, h5⟩
  have HN := Lib.hid hnext; clear hnext
  have hB1 : Below w.heap.size w w5 := hW.trans ((hb1.trans (h5.below.mono hb1.size)).mono hW.size)
  have hR := p1.below h5.below p1.lt
  have k0 := hR.cell_at 0
  have k1 := hR.cell_at 1
  have k2 := hR.free 0
  have k3 := hR.free 1
  simp only [List.getElem?_cons_zero, List.getElem?_cons_succ] at k0 k1
  have e0 : (w5.setCell ⟨w.heap.size + 1, 0, none⟩ (.bool b')).cell? ⟨w.heap.size + 1, 0, none⟩ = some (.bool b') := (hR.store_any 0 _).cell_at 0
  have e1 : ((w5.setCell ⟨w.heap.size + 1, 0, none⟩ (.bool b')).setCell ⟨w.heap.size + 1, 1, none⟩ (.slice a' n' c')).cell? ⟨w.heap.size + 1, 1, none⟩ = some (.slice a' n' c') := ((hR.store_any 0 _).store_any 1 _).cell_at 1
  have HF := Lib.hid (below_store (below_store hB1 (g := w.heap.size + 1) (i := 0) (by omega) (.bool b')) (g := w.heap.size + 1) (i := 1) (by omega) (.slice a' n' c'))
  go_wp2
  (try simp only [Exit.inBlock, Exit.then])
  refine bodyPost_ret (v := .tuple #[.agg #[.bool b', .slice a' n' c'], .int .i64 k']) (by simp [results, Tryz.results9, go_sem, e0, e1]) rfl ?_
  rw [HZ.out]
  exact HN.out _ _ HF.out (fun l hl => hl.pair hR _ _)

end Go.Proofs.YtbffpkmfhkphdaaGreatDoor
