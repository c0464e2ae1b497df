/- The walk of large.Pow, in all its cases. -/
import Derived.Test.YtbffpkmfhkphdaaGreatDoorGX38
import Derived.Test.YtbffpkmfhkphdaaGreatDoorRefPowC
set_option linter.unusedVariables false
set_option linter.unusedSimpArgs false
namespace Go.Proofs.YtbffpkmfhkphdaaGreatDoor
open Go Go.RowKit Limb

theorem bits_one {n : Nat} (h : n = 1) : bitsN n = 1 := by subst h; decide
theorem pow_long {x : Int} {k B : Nat} (hB : B = bitsN x.natAbs) (hk : 32768 < (B - 1) * k) : 1024 < (rep (x ^ k).natAbs).length := by
  obtain ⟨c, hc⟩ : ∃ c, c = 1024 := ⟨_, rfl⟩
  obtain ⟨e, he⟩ : ∃ e, e = (B - 1) * k := ⟨_, rfl⟩
  rw [← hc]
  rw [← he] at hk
  refine Classical.byContradiction fun h => ?_
  have h1 := rep_length_le.1 (Nat.le_of_not_lt h)
  rw [Int.natAbs_pow, W_two] at h1
  have hB1 : 0 < B := by rcases Nat.eq_zero_or_pos B with h | h; · rw [he, h] at hk; simp at hk
                         · exact h
  have h2 : 2 ^ (B - 1) ≤ x.natAbs := by
    refine Classical.byContradiction fun h => ?_
    have := bitsN_le.2 (Nat.lt_of_not_le h)
    omega
  have h3 : (2 ^ (B - 1)) ^ k ≤ x.natAbs ^ k := Nat.pow_le_pow_left h2 k
  rw [← Nat.pow_mul, ← he] at h3
  have h4 : 2 ^ (32 * c) ≤ 2 ^ e := Nat.pow_le_pow_right (by decide) (by omega)
  omega
theorem bits_lenc {n c : Nat} (h : (rep n).length ≤ c) : bitsN n ≤ 32 * c := bitsN_le.2 (by have := rep_length_le.1 h; rwa [W_two] at this)
theorem bits_len {n : Nat} (h : (rep n).length ≤ 1024) : bitsN n ≤ 32768 := bits_lenc h
theorem neg_one_pow : ∀ k : Nat, (-1 : Int) ^ k = if k % 2 = 1 then -1 else 1
  | 0 => rfl
  | k + 1 => by
    rw [Int.pow_succ, neg_one_pow k]
    by_cases h : k % 2 = 1
    · rw [if_pos h, if_neg (by omega)]; rfl
    · rw [if_neg h, if_pos (by omega)]; rfl
/-- The small cases' answer is the power. -/
theorem unit_pow {x : Int} (hx : x.natAbs = 1) (k : Nat) : unit (decide (x < 0)) k = x ^ k := by
  unfold unit
  have : x = 1 ∨ x = -1 := by omega
  rcases this with rfl | rfl
  · rw [if_neg (by simp), Int.one_pow]
  · rw [neg_one_pow]
    by_cases h : k % 2 = 1
    · rw [if_pos ⟨by decide, h⟩, if_pos h]
    · rw [if_neg (fun hh => h hh.2), if_neg h]

theorem Answer.done {w w' : World} {b : Bool} {a : Option Addr} {n c : Nat} {z : Int} (h : ApiV w' (.agg #[.bool b, .slice a n c]) z) (hl : (rep z.natAbs).length ≤ 1024) (hb : Below w.heap.size w w') :
    Answer true w w' (.returned (.tuple #[.agg #[.bool b, .slice a n c], .int .i64 0])) z := by
  obtain ⟨a', c', e, h1, h2⟩ := h
  exact ⟨hb, .inr ⟨hl, _, rfl, a', _, c', e, rfl, h1, h2⟩⟩

set_option maxHeartbeats 3200000 in
set_option maxRecDepth 1000000 in
theorem pow_no (w : World) (neg : Bool) (a : Option Addr) (l : List Nat) (m cap : Nat) (n : Int) (hlay : Lay .u32 w a l) (hlim : Lim l) (hm : m = l.length) (hl : m ≤ 9223372036854775807) (hmay : mayB neg l = false) (hn1 : -9223372036854775808 ≤ n) (hn2 : n ≤ 9223372036854775807) :
    Calls Tryz.prog 17 #[.agg #[.bool neg, .slice a m cap], .int .i64 n] w fun e w' => e = errRange ∧ Below w.heap.size w w' := by
  obtain ⟨W, hWe, r0, r1, hW, hsz⟩ := rows2 w 24 (.bool neg) (.slice a m cap) (.bool false) (.slice none 0 0)
  have HWe := Lib.hid hWe; clear hWe
  have hM := large_May W neg a l m cap (hlay.below hW) hlim hm hl
  rw [hmay] at hM
  have HM := Lib.hid hM; clear hM
  clear hmay hm hlim
  go_enter Tryz.func17, Tryz.ntmps17
  go_wp2_with fail
  rw [← HWe.out]
  refine HM.out.mono ?_
  rintro e w1 ⟨rfl, hb1⟩
  have p0 := r0.below hb1 r0.lt
  have p1 := r1.below hb1 r1.lt
  have c0 := p0.cell_at 0
  have c1 := p0.cell_at 1
  simp only [List.getElem?_cons_zero, List.getElem?_cons_succ] at c0 c1
  have hB1 : Below w.heap.size w w1 := hW.trans ((hb1).mono hW.size)
  have hR := r1.below (hb1) r1.lt
  have k0 := hR.cell_at 0
  have k1 := hR.cell_at 1
  have k2 := hR.free 0
  have k3 := hR.free 1
  simp only [List.getElem?_cons_zero, List.getElem?_cons_succ] at k0 k1
  have e0 : (w1.setCell ⟨w.heap.size + 1, 0, none⟩ (.bool false)).cell? ⟨w.heap.size + 1, 0, none⟩ = some (.bool false) := (hR.store_any 0 _).cell_at 0
  have e1 : ((w1.setCell ⟨w.heap.size + 1, 0, none⟩ (.bool false)).setCell ⟨w.heap.size + 1, 1, none⟩ (.slice none 0 0)).cell? ⟨w.heap.size + 1, 1, none⟩ = some (.slice none 0 0) := ((hR.store_any 0 _).store_any 1 _).cell_at 1
  have HF := Lib.hid (below_store (below_store hB1 (g := w.heap.size + 1) (i := 0) (by omega) (.bool false)) (g := w.heap.size + 1) (i := 1) (by omega) (.slice none 0 0))
  go_wp2
  (try simp only [Exit.inBlock, Exit.then])
  refine bodyPost_ret (v := .tuple #[.agg #[.bool false, .slice none 0 0], .int .i64 1]) (by simp [results, Tryz.results17, go_sem, e0, e1]) rfl ?_
  exact ⟨rfl, HF.out⟩

set_option maxHeartbeats 3200000 in
set_option maxRecDepth 1000000 in
theorem pow_neg (w : World) (neg : Bool) (a : Option Addr) (l : List Nat) (m cap : Nat) (n : Int) (hlay : Lay .u32 w a l) (hlim : Lim l) (hm : m = l.length) (hl : m ≤ 9223372036854775807) (hmay : mayB neg l = true) (hn1 : -9223372036854775808 ≤ n) (hn2 : n ≤ 9223372036854775807) (hneg : n < 0) :
    Calls Tryz.prog 17 #[.agg #[.bool neg, .slice a m cap], .int .i64 n] w fun e w' => e = .returned (.tuple #[.agg #[.bool false, .slice none 0 0], .int .i64 92]) ∧ Below w.heap.size w w' := by
  obtain ⟨W, hWe, r0, r1, hW, hsz⟩ := rows2 w 24 (.bool neg) (.slice a m cap) (.bool false) (.slice none 0 0)
  have HWe := Lib.hid hWe; clear hWe
  have hM := large_May W neg a l m cap (hlay.below hW) hlim hm hl
  rw [hmay] at hM
  have HM := Lib.hid hM; clear hM
  have d0 : decide (n < 0) = true := decide_eq_true hneg
  clear hmay hm hlim
  go_enter Tryz.func17, Tryz.ntmps17
  go_wp2_with fail
  rw [← HWe.out]
  refine HM.out.mono ?_
  rintro e w1 ⟨rfl, hb1⟩
  have p0 := r0.below hb1 r0.lt
  have p1 := r1.below hb1 r1.lt
  have c0 := p0.cell_at 0
  have c1 := p0.cell_at 1
  simp only [List.getElem?_cons_zero, List.getElem?_cons_succ] at c0 c1
  have hB1 : Below w.heap.size w w1 := hW.trans ((hb1).mono hW.size)
  have hR := r1.below (hb1) r1.lt
  have k0 := hR.cell_at 0
  have k1 := hR.cell_at 1
  have k2 := hR.free 0
  have k3 := hR.free 1
  simp only [List.getElem?_cons_zero, List.getElem?_cons_succ] at k0 k1
  have e0 : (w1.setCell ⟨w.heap.size + 1, 0, none⟩ (.bool false)).cell? ⟨w.heap.size + 1, 0, none⟩ = some (.bool false) := (hR.store_any 0 _).cell_at 0
  have e1 : ((w1.setCell ⟨w.heap.size + 1, 0, none⟩ (.bool false)).setCell ⟨w.heap.size + 1, 1, none⟩ (.slice none 0 0)).cell? ⟨w.heap.size + 1, 1, none⟩ = some (.slice none 0 0) := ((hR.store_any 0 _).store_any 1 _).cell_at 1
  have HF := Lib.hid (below_store (below_store hB1 (g := w.heap.size + 1) (i := 0) (by omega) (.bool false)) (g := w.heap.size + 1) (i := 1) (by omega) (.slice none 0 0))
  go_wp2
  (try simp only [Exit.inBlock, Exit.then])
  refine bodyPost_ret (v := .tuple #[.agg #[.bool false, .slice none 0 0], .int .i64 92]) (by simp [results, Tryz.results17, go_sem, e0, e1]) rfl ?_
  exact ⟨rfl, HF.out⟩

set_option maxHeartbeats 3200000 in
set_option maxRecDepth 1000000 in
theorem pow_zero (w : World) (neg : Bool) (a : Option Addr) (l : List Nat) (m cap : Nat) (n x : Int) (hlay : Lay .u32 w a l) (hlim : Lim l) (hm : m = l.length) (hl : m ≤ 9223372036854775807) (hmay : mayB neg l = true) (hx : x = signed neg (val l)) (hn1 : -9223372036854775808 ≤ n) (hn2 : n ≤ 9223372036854775807) (h0 : n = 0) :
    Calls Tryz.prog 17 #[.agg #[.bool neg, .slice a m cap], .int .i64 n] w fun e w' => Answer true w w' e (x ^ n.toNat) := by
  obtain ⟨W, hWe, r0, r1, hW, hsz⟩ := rows2 w 24 (.bool neg) (.slice a m cap) (.bool false) (.slice none 0 0)
  have HWe := Lib.hid hWe; clear hWe
  have hM := large_May W neg a l m cap (hlay.below hW) hlim hm hl
  rw [hmay] at hM
  have HM := Lib.hid hM; clear hM
  have hm10 : m ≤ 1024 := by rw [hm]; exact (mayB_int hlim hmay).2.2
  have hWd := fun (w1 : World) (hb : Below W.heap.size W w1) => at_wide (At.refl w1) neg a l m cap (hlay.below (hW.trans (hb.mono hW.size))) hlim hm (by omega)
  rw [← hx] at hWd
  have HWd := Lib.hid hWd; clear hWd
  have lx : (rep x.natAbs).length ≤ 1024 := by rw [hx, signed_abs]; exact Nat.le_trans (rep_val_le hlim) (by omega)
  have lx' : (rep x.natAbs).length ≤ 68719476736 := Nat.le_trans lx (by decide)
  subst h0
  have HZ := Lib.hid (show (1 : Int) = x ^ (0 : Int).toNat by rw [Int.toNat_zero, Int.pow_zero])
  obtain ⟨B, hB⟩ : ∃ B, B = bitsN x.natAbs := ⟨_, rfl⟩
  have hbits : bitsN x.natAbs = B := hB.symm
  have hBL := fun X p (h : IntAt X p x) => int_bitlen X p x h lx'
  rw [show bitsN x.natAbs = B from hbits] at hBL
  have HBL := Lib.hid hBL; clear hBL
  clear hbits hB hx hmay hlim hm
  go_enter Tryz.func17, Tryz.ntmps17
  go_wp2_with fail
  rw [← HWe.out]
  refine HM.out.mono ?_
  rintro e w1 ⟨rfl, hb1⟩
  have p0 := r0.below hb1 r0.lt
  have p1 := r1.below hb1 r1.lt
  have c0 := p0.cell_at 0
  have c1 := p0.cell_at 1
  simp only [List.getElem?_cons_zero, List.getElem?_cons_succ] at c0 c1
  go_wp2_with fail
  refine (HWd.out w1 hb1).mono ?_
  rintro e w2 ⟨p, rfl, h2⟩
  go_wp2_with fail
  refine (HBL.out w2 p (h2.ints _ (.head _)).1).mono ?_
  rintro e w2' ⟨rfl, rfl⟩
  go_wp2_with fail
  refine (large_of w2 1 (by decide) (by decide)).mono ?_
  rintro e w5 ⟨u, rfl, hu, hb5⟩
  obtain ⟨b', a', n', c', rfl, -⟩ := hu.open
  have hb25 := (hb1.trans (h2.below.mono hb1.size)).trans (hb5.mono (by have := (hb1.trans (h2.below.mono hb1.size)).size; omega))
  have hB1 : Below w.heap.size w w5 := hW.trans (hb25.mono hW.size)
  have hR := r1.below hb25 r1.lt
  have k0 := hR.cell_at 0
  have k1 := hR.cell_at 1
  have k2 := hR.free 0
  have k3 := hR.free 1
  simp only [List.getElem?_cons_zero, List.getElem?_cons_succ] at k0 k1
  have e0 : (w5.setCell ⟨w.heap.size + 1, 0, none⟩ (.bool b')).cell? ⟨w.heap.size + 1, 0, none⟩ = some (.bool b') := (hR.store_any 0 _).cell_at 0
  have e1 : ((w5.setCell ⟨w.heap.size + 1, 0, none⟩ (.bool b')).setCell ⟨w.heap.size + 1, 1, none⟩ (.slice a' n' c')).cell? ⟨w.heap.size + 1, 1, none⟩ = some (.slice a' n' c') := ((hR.store_any 0 _).store_any 1 _).cell_at 1
  have HF := Lib.hid (below_store (below_store hB1 (g := w.heap.size + 1) (i := 0) (by omega) (.bool b')) (g := w.heap.size + 1) (i := 1) (by omega) (.slice a' n' c'))
  have HA := Lib.hid (ApiV.to hu (fun _ _ hl => hl.pair hR (.bool b') (.slice a' n' c')))
  go_wp2
  (try simp only [Exit.inBlock, Exit.then])
  refine bodyPost_ret (v := .tuple #[.agg #[.bool b', .slice a' n' c'], .int .i64 0]) (by simp [results, Tryz.results17, go_sem, e0, e1]) rfl ?_
  rw [← HZ.out]
  exact Answer.done HA.out (by decide) HF.out

set_option maxHeartbeats 3200000 in
set_option maxRecDepth 1000000 in
theorem pow_nought (w : World) (neg : Bool) (a : Option Addr) (l : List Nat) (m cap : Nat) (n x : Int) (hlay : Lay .u32 w a l) (hlim : Lim l) (hm : m = l.length) (hl : m ≤ 9223372036854775807) (hmay : mayB neg l = true) (hx : x = signed neg (val l)) (hn1 : -9223372036854775808 ≤ n) (hn2 : n ≤ 9223372036854775807) (h0 : 0 < n) (hx0 : x = 0) :
    Calls Tryz.prog 17 #[.agg #[.bool neg, .slice a m cap], .int .i64 n] w fun e w' => Answer true w w' e (x ^ n.toNat) := by
  obtain ⟨W, hWe, r0, r1, hW, hsz⟩ := rows2 w 24 (.bool neg) (.slice a m cap) (.bool false) (.slice none 0 0)
  have HWe := Lib.hid hWe; clear hWe
  have hM := large_May W neg a l m cap (hlay.below hW) hlim hm hl
  rw [hmay] at hM
  have HM := Lib.hid hM; clear hM
  have hm10 : m ≤ 1024 := by rw [hm]; exact (mayB_int hlim hmay).2.2
  have hWd := fun (w1 : World) (hb : Below W.heap.size W w1) => at_wide (At.refl w1) neg a l m cap (hlay.below (hW.trans (hb.mono hW.size))) hlim hm (by omega)
  rw [← hx] at hWd
  have HWd := Lib.hid hWd; clear hWd
  have lx : (rep x.natAbs).length ≤ 1024 := by rw [hx, signed_abs]; exact Nat.le_trans (rep_val_le hlim) (by omega)
  have lx' : (rep x.natAbs).length ≤ 68719476736 := Nat.le_trans lx (by decide)
  have HZ := Lib.hid (show (0 : Int) = x ^ n.toNat by rw [hx0, Int.zero_pow (by omega)])
  have hbits : bitsN x.natAbs = 0 := by rw [hx0]; decide
  have hBL := fun X p (h : IntAt X p x) => int_bitlen X p x h lx'
  rw [show bitsN x.natAbs = 0 from hbits] at hBL
  have HBL := Lib.hid hBL; clear hBL
  have d0 : (n == 0) = false := by rw [beq_eq_false_iff_ne]; omega
  have d1 : decide (n < 0) = false := decide_eq_false (by omega)
  clear hbits hx0 hx hmay hlim hm
  go_enter Tryz.func17, Tryz.ntmps17
  go_wp2_with fail
  rw [← HWe.out]
  refine HM.out.mono ?_
  rintro e w1 ⟨rfl, hb1⟩
  have p0 := r0.below hb1 r0.lt
  have p1 := r1.below hb1 r1.lt
  have c0 := p0.cell_at 0
  have c1 := p0.cell_at 1
  simp only [List.getElem?_cons_zero, List.getElem?_cons_succ] at c0 c1
  go_wp2_with fail
  refine (HWd.out w1 hb1).mono ?_
  rintro e w2 ⟨p, rfl, h2⟩
  go_wp2_with fail
  refine (HBL.out w2 p (h2.ints _ (.head _)).1).mono ?_
  rintro e w2' ⟨rfl, rfl⟩
  have hB1 : Below w.heap.size w w2 := hW.trans ((hb1.trans (h2.below.mono hb1.size)).mono hW.size)
  have hR := r1.below (hb1.trans (h2.below.mono hb1.size)) r1.lt
  have k0 := hR.cell_at 0
  have k1 := hR.cell_at 1
  have k2 := hR.free 0
  have k3 := hR.free 1
  simp only [List.getElem?_cons_zero, List.getElem?_cons_succ] at k0 k1
  have e0 : (w2.setCell ⟨w.heap.size + 1, 0, none⟩ (.bool false)).cell? ⟨w.heap.size + 1, 0, none⟩ = some (.bool false) := (hR.store_any 0 _).cell_at 0
  have e1 : ((w2.setCell ⟨w.heap.size + 1, 0, none⟩ (.bool false)).setCell ⟨w.heap.size + 1, 1, none⟩ (.slice none 0 0)).cell? ⟨w.heap.size + 1, 1, none⟩ = some (.slice none 0 0) := ((hR.store_any 0 _).store_any 1 _).cell_at 1
  have HF := Lib.hid (below_store (below_store hB1 (g := w.heap.size + 1) (i := 0) (by omega) (.bool false)) (g := w.heap.size + 1) (i := 1) (by omega) (.slice none 0 0))
  go_wp2
  (try simp only [Exit.inBlock, Exit.then])
  refine bodyPost_ret (v := .tuple #[.agg #[.bool false, .slice none 0 0], .int .i64 0]) (by simp [results, Tryz.results17, go_sem, e0, e1]) rfl ?_
  rw [← HZ.out]
  exact ⟨HF.out, .inr ⟨by decide, _, rfl, none, 0, 0, rfl, rfl, Nat.le_refl _, Lay.nil _ _ _⟩⟩

set_option maxHeartbeats 3200000 in
set_option maxRecDepth 1000000 in
theorem pow_unit_pos (w : World) (neg : Bool) (a : Option Addr) (l : List Nat) (m cap : Nat) (n x : Int) (hlay : Lay .u32 w a l) (hlim : Lim l) (hm : m = l.length) (hl : m ≤ 9223372036854775807) (hmay : mayB neg l = true) (hx : x = signed neg (val l)) (hn1 : -9223372036854775808 ≤ n) (hn2 : n ≤ 9223372036854775807) (h0 : 0 < n) (hx1 : x.natAbs = 1) (hp : 0 < x) :
    Calls Tryz.prog 17 #[.agg #[.bool neg, .slice a m cap], .int .i64 n] w fun e w' => Answer true w w' e (x ^ n.toNat) := by
  obtain ⟨W, hWe, r0, r1, hW, hsz⟩ := rows2 w 24 (.bool neg) (.slice a m cap) (.bool false) (.slice none 0 0)
  have HWe := Lib.hid hWe; clear hWe
  have hM := large_May W neg a l m cap (hlay.below hW) hlim hm hl
  rw [hmay] at hM
  have HM := Lib.hid hM; clear hM
  have hm10 : m ≤ 1024 := by rw [hm]; exact (mayB_int hlim hmay).2.2
  have hWd := fun (w1 : World) (hb : Below W.heap.size W w1) => at_wide (At.refl w1) neg a l m cap (hlay.below (hW.trans (hb.mono hW.size))) hlim hm (by omega)
  rw [← hx] at hWd
  have HWd := Lib.hid hWd; clear hWd
  have lx : (rep x.natAbs).length ≤ 1024 := by rw [hx, signed_abs]; exact Nat.le_trans (rep_val_le hlim) (by omega)
  have lx' : (rep x.natAbs).length ≤ 68719476736 := Nat.le_trans lx (by decide)
  have HZ := Lib.hid (show (1 : Int) = x ^ n.toNat by rw [show x = 1 by omega, Int.one_pow])
  have hbits : bitsN x.natAbs = 1 := bits_one hx1
  have hBL := fun X p (h : IntAt X p x) => int_bitlen X p x h lx'
  rw [show bitsN x.natAbs = 1 from hbits] at hBL
  have HBL := Lib.hid hBL; clear hBL
  have d0 : (n == 0) = false := by rw [beq_eq_false_iff_ne]; omega
  have d1 : decide (n < 0) = false := decide_eq_false (by omega)
  have d2 : decide (0 < sgnI x) = true := by rw [show x = 1 by omega]; decide
  have d3 : decide (sgnI x > 0) = true := d2
  clear hbits hx1 hp hx hmay hlim hm
  go_enter Tryz.func17, Tryz.ntmps17
  go_wp2_with fail
  rw [← HWe.out]
  refine HM.out.mono ?_
  rintro e w1 ⟨rfl, hb1⟩
  have p0 := r0.below hb1 r0.lt
  have p1 := r1.below hb1 r1.lt
  have c0 := p0.cell_at 0
  have c1 := p0.cell_at 1
  simp only [List.getElem?_cons_zero, List.getElem?_cons_succ] at c0 c1
  go_wp2_with fail
  refine (HWd.out w1 hb1).mono ?_
  rintro e w2 ⟨p, rfl, h2⟩
  go_wp2_with fail
  refine (HBL.out w2 p (h2.ints _ (.head _)).1).mono ?_
  rintro e w2' ⟨rfl, rfl⟩
  go_wp2_with fail
  refine (at_sign h2 (.head _)).mono ?_
  rintro e w2' ⟨rfl, rfl⟩
  go_wp2_with fail
  refine (large_of w2 1 (by decide) (by decide)).mono ?_
  rintro e w5 ⟨u, rfl, hu, hb5⟩
  obtain ⟨b', a', n', c', rfl, -⟩ := hu.open
  have hb25 := (hb1.trans (h2.below.mono hb1.size)).trans (hb5.mono (by have := (hb1.trans (h2.below.mono hb1.size)).size; omega))
  have hB1 : Below w.heap.size w w5 := hW.trans (hb25.mono hW.size)
  have hR := r1.below hb25 r1.lt
  have k0 := hR.cell_at 0
  have k1 := hR.cell_at 1
  have k2 := hR.free 0
  have k3 := hR.free 1
  simp only [List.getElem?_cons_zero, List.getElem?_cons_succ] at k0 k1
  have e0 : (w5.setCell ⟨w.heap.size + 1, 0, none⟩ (.bool b')).cell? ⟨w.heap.size + 1, 0, none⟩ = some (.bool b') := (hR.store_any 0 _).cell_at 0
  have e1 : ((w5.setCell ⟨w.heap.size + 1, 0, none⟩ (.bool b')).setCell ⟨w.heap.size + 1, 1, none⟩ (.slice a' n' c')).cell? ⟨w.heap.size + 1, 1, none⟩ = some (.slice a' n' c') := ((hR.store_any 0 _).store_any 1 _).cell_at 1
  have HF := Lib.hid (below_store (below_store hB1 (g := w.heap.size + 1) (i := 0) (by omega) (.bool b')) (g := w.heap.size + 1) (i := 1) (by omega) (.slice a' n' c'))
  have HA := Lib.hid (ApiV.to hu (fun _ _ hl => hl.pair hR (.bool b') (.slice a' n' c')))
  go_wp2
  (try simp only [Exit.inBlock, Exit.then])
  refine bodyPost_ret (v := .tuple #[.agg #[.bool b', .slice a' n' c'], .int .i64 0]) (by simp [results, Tryz.results17, go_sem, e0, e1]) rfl ?_
  rw [← HZ.out]
  exact Answer.done HA.out (by decide) HF.out

set_option maxHeartbeats 3200000 in
set_option maxRecDepth 1000000 in
theorem pow_unit_even (w : World) (neg : Bool) (a : Option Addr) (l : List Nat) (m cap : Nat) (n x : Int) (hlay : Lay .u32 w a l) (hlim : Lim l) (hm : m = l.length) (hl : m ≤ 9223372036854775807) (hmay : mayB neg l = true) (hx : x = signed neg (val l)) (hn1 : -9223372036854775808 ≤ n) (hn2 : n ≤ 9223372036854775807) (h0 : 0 < n) (hx1 : x.natAbs = 1) (hp : x < 0) (hev : n % 2 = 0) :
    Calls Tryz.prog 17 #[.agg #[.bool neg, .slice a m cap], .int .i64 n] w fun e w' => Answer true w w' e (x ^ n.toNat) := by
  obtain ⟨W, hWe, r0, r1, hW, hsz⟩ := rows2 w 24 (.bool neg) (.slice a m cap) (.bool false) (.slice none 0 0)
  have HWe := Lib.hid hWe; clear hWe
  have hM := large_May W neg a l m cap (hlay.below hW) hlim hm hl
  rw [hmay] at hM
  have HM := Lib.hid hM; clear hM
  have hm10 : m ≤ 1024 := by rw [hm]; exact (mayB_int hlim hmay).2.2
  have hWd := fun (w1 : World) (hb : Below W.heap.size W w1) => at_wide (At.refl w1) neg a l m cap (hlay.below (hW.trans (hb.mono hW.size))) hlim hm (by omega)
  rw [← hx] at hWd
  have HWd := Lib.hid hWd; clear hWd
  have lx : (rep x.natAbs).length ≤ 1024 := by rw [hx, signed_abs]; exact Nat.le_trans (rep_val_le hlim) (by omega)
  have lx' : (rep x.natAbs).length ≤ 68719476736 := Nat.le_trans lx (by decide)
  have HZ := Lib.hid (show (1 : Int) = x ^ n.toNat by rw [show x = -1 by omega, neg_one_pow, if_neg (by omega)])
  have hbits : bitsN x.natAbs = 1 := bits_one hx1
  have hBL := fun X p (h : IntAt X p x) => int_bitlen X p x h lx'
  rw [show bitsN x.natAbs = 1 from hbits] at hBL
  have HBL := Lib.hid hBL; clear hBL
  have d0 : (n == 0) = false := by rw [beq_eq_false_iff_ne]; omega
  have d1 : decide (n < 0) = false := decide_eq_false (by omega)
  have d2 : decide (0 < sgnI x) = false := by rw [show x = -1 by omega]; decide
  have d3 : (n % 2 == 0) = true := by rw [beq_iff_eq]; exact hev
  clear hbits hx1 hp hx hmay hlim hm hev
  go_enter Tryz.func17, Tryz.ntmps17
  go_wp2_with fail
  rw [← HWe.out]
  refine HM.out.mono ?_
  rintro e w1 ⟨rfl, hb1⟩
  have p0 := r0.below hb1 r0.lt
  have p1 := r1.below hb1 r1.lt
  have c0 := p0.cell_at 0
  have c1 := p0.cell_at 1
  simp only [List.getElem?_cons_zero, List.getElem?_cons_succ] at c0 c1
  go_wp2_with fail
  refine (HWd.out w1 hb1).mono ?_
  rintro e w2 ⟨p, rfl, h2⟩
  go_wp2_with fail
  refine (HBL.out w2 p (h2.ints _ (.head _)).1).mono ?_
  rintro e w2' ⟨rfl, rfl⟩
  go_wp2_with fail
  refine (at_sign h2 (.head _)).mono ?_
  rintro e w2' ⟨rfl, rfl⟩
  go_wp2_with fail
  refine (large_of w2 1 (by decide) (by decide)).mono ?_
  rintro e w5 ⟨u, rfl, hu, hb5⟩
  obtain ⟨b', a', n', c', rfl, -⟩ := hu.open
  have hb25 := (hb1.trans (h2.below.mono hb1.size)).trans (hb5.mono (by have := (hb1.trans (h2.below.mono hb1.size)).size; omega))
  have hB1 : Below w.heap.size w w5 := hW.trans (hb25.mono hW.size)
  have hR := r1.below hb25 r1.lt
  have k0 := hR.cell_at 0
  have k1 := hR.cell_at 1
  have k2 := hR.free 0
  have k3 := hR.free 1
  simp only [List.getElem?_cons_zero, List.getElem?_cons_succ] at k0 k1
  have e0 : (w5.setCell ⟨w.heap.size + 1, 0, none⟩ (.bool b')).cell? ⟨w.heap.size + 1, 0, none⟩ = some (.bool b') := (hR.store_any 0 _).cell_at 0
  have e1 : ((w5.setCell ⟨w.heap.size + 1, 0, none⟩ (.bool b')).setCell ⟨w.heap.size + 1, 1, none⟩ (.slice a' n' c')).cell? ⟨w.heap.size + 1, 1, none⟩ = some (.slice a' n' c') := ((hR.store_any 0 _).store_any 1 _).cell_at 1
  have HF := Lib.hid (below_store (below_store hB1 (g := w.heap.size + 1) (i := 0) (by omega) (.bool b')) (g := w.heap.size + 1) (i := 1) (by omega) (.slice a' n' c'))
  have HA := Lib.hid (ApiV.to hu (fun _ _ hl => hl.pair hR (.bool b') (.slice a' n' c')))
  go_wp2
  (try simp only [Exit.inBlock, Exit.then])
  refine bodyPost_ret (v := .tuple #[.agg #[.bool b', .slice a' n' c'], .int .i64 0]) (by simp [results, Tryz.results17, go_sem, e0, e1]) rfl ?_
  rw [← HZ.out]
  exact Answer.done HA.out (by decide) HF.out

set_option maxHeartbeats 3200000 in
set_option maxRecDepth 1000000 in
theorem pow_unit_odd (w : World) (neg : Bool) (a : Option Addr) (l : List Nat) (m cap : Nat) (n x : Int) (hlay : Lay .u32 w a l) (hlim : Lim l) (hm : m = l.length) (hl : m ≤ 9223372036854775807) (hmay : mayB neg l = true) (hx : x = signed neg (val l)) (hn1 : -9223372036854775808 ≤ n) (hn2 : n ≤ 9223372036854775807) (h0 : 0 < n) (hx1 : x.natAbs = 1) (hp : x < 0) (hod : n % 2 = 1) :
    Calls Tryz.prog 17 #[.agg #[.bool neg, .slice a m cap], .int .i64 n] w fun e w' => Answer true w w' e (x ^ n.toNat) := by
  obtain ⟨W, hWe, r0, r1, hW, hsz⟩ := rows2 w 24 (.bool neg) (.slice a m cap) (.bool false) (.slice none 0 0)
  have HWe := Lib.hid hWe; clear hWe
  have hM := large_May W neg a l m cap (hlay.below hW) hlim hm hl
  rw [hmay] at hM
  have HM := Lib.hid hM; clear hM
  have hm10 : m ≤ 1024 := by rw [hm]; exact (mayB_int hlim hmay).2.2
  have hWd := fun (w1 : World) (hb : Below W.heap.size W w1) => at_wide (At.refl w1) neg a l m cap (hlay.below (hW.trans (hb.mono hW.size))) hlim hm (by omega)
  rw [← hx] at hWd
  have HWd := Lib.hid hWd; clear hWd
  have lx : (rep x.natAbs).length ≤ 1024 := by rw [hx, signed_abs]; exact Nat.le_trans (rep_val_le hlim) (by omega)
  have lx' : (rep x.natAbs).length ≤ 68719476736 := Nat.le_trans lx (by decide)
  have HZ := Lib.hid (show (-1 : Int) = x ^ n.toNat by rw [show x = -1 by omega, neg_one_pow, if_pos (by omega)])
  have hbits : bitsN x.natAbs = 1 := bits_one hx1
  have hBL := fun X p (h : IntAt X p x) => int_bitlen X p x h lx'
  rw [show bitsN x.natAbs = 1 from hbits] at hBL
  have HBL := Lib.hid hBL; clear hBL
  have d0 : (n == 0) = false := by rw [beq_eq_false_iff_ne]; omega
  have d1 : decide (n < 0) = false := decide_eq_false (by omega)
  have d2 : decide (0 < sgnI x) = false := by rw [show x = -1 by omega]; decide
  have d3 : (n % 2 == 0) = false := by rw [beq_eq_false_iff_ne]; omega
  clear hbits hx1 hp hx hmay hlim hm hod
  go_enter Tryz.func17, Tryz.ntmps17
  go_wp2_with fail
  rw [← HWe.out]
  refine HM.out.mono ?_
  rintro e w1 ⟨rfl, hb1⟩
  have p0 := r0.below hb1 r0.lt
  have p1 := r1.below hb1 r1.lt
  have c0 := p0.cell_at 0
  have c1 := p0.cell_at 1
  simp only [List.getElem?_cons_zero, List.getElem?_cons_succ] at c0 c1
  go_wp2_with fail
  refine (HWd.out w1 hb1).mono ?_
  rintro e w2 ⟨p, rfl, h2⟩
  go_wp2_with fail
  refine (HBL.out w2 p (h2.ints _ (.head _)).1).mono ?_
  rintro e w2' ⟨rfl, rfl⟩
  go_wp2_with fail
  refine (at_sign h2 (.head _)).mono ?_
  rintro e w2' ⟨rfl, rfl⟩
  go_wp2_with fail
  refine (large_of w2 (-1) (by decide) (by decide)).mono ?_
  rintro e w5 ⟨u, rfl, hu, hb5⟩
  obtain ⟨b', a', n', c', rfl, -⟩ := hu.open
  have hb25 := (hb1.trans (h2.below.mono hb1.size)).trans (hb5.mono (by have := (hb1.trans (h2.below.mono hb1.size)).size; omega))
  have hB1 : Below w.heap.size w w5 := hW.trans (hb25.mono hW.size)
  have hR := r1.below hb25 r1.lt
  have k0 := hR.cell_at 0
  have k1 := hR.cell_at 1
  have k2 := hR.free 0
  have k3 := hR.free 1
  simp only [List.getElem?_cons_zero, List.getElem?_cons_succ] at k0 k1
  have e0 : (w5.setCell ⟨w.heap.size + 1, 0, none⟩ (.bool b')).cell? ⟨w.heap.size + 1, 0, none⟩ = some (.bool b') := (hR.store_any 0 _).cell_at 0
  have e1 : ((w5.setCell ⟨w.heap.size + 1, 0, none⟩ (.bool b')).setCell ⟨w.heap.size + 1, 1, none⟩ (.slice a' n' c')).cell? ⟨w.heap.size + 1, 1, none⟩ = some (.slice a' n' c') := ((hR.store_any 0 _).store_any 1 _).cell_at 1
  have HF := Lib.hid (below_store (below_store hB1 (g := w.heap.size + 1) (i := 0) (by omega) (.bool b')) (g := w.heap.size + 1) (i := 1) (by omega) (.slice a' n' c'))
  have HA := Lib.hid (ApiV.to hu (fun _ _ hl => hl.pair hR (.bool b') (.slice a' n' c')))
  go_wp2
  (try simp only [Exit.inBlock, Exit.then])
  refine bodyPost_ret (v := .tuple #[.agg #[.bool b', .slice a' n' c'], .int .i64 0]) (by simp [results, Tryz.results17, go_sem, e0, e1]) rfl ?_
  rw [← HZ.out]
  exact Answer.done HA.out (by decide) HF.out

set_option maxHeartbeats 3200000 in
set_option maxRecDepth 1000000 in
theorem pow_far (w : World) (neg : Bool) (a : Option Addr) (l : List Nat) (m cap : Nat) (n x : Int) (hlay : Lay .u32 w a l) (hlim : Lim l) (hm : m = l.length) (hl : m ≤ 9223372036854775807) (hmay : mayB neg l = true) (hx : x = signed neg (val l)) (hn1 : -9223372036854775808 ≤ n) (hn2 : n ≤ 9223372036854775807) (h0 : 0 < n) (hx2 : 2 ≤ x.natAbs) (hf : 32768 < n) :
    Calls Tryz.prog 17 #[.agg #[.bool neg, .slice a m cap], .int .i64 n] w fun e w' => e = .returned (.tuple #[.agg #[.bool false, .slice none 0 0], .int .i64 2]) ∧ Below w.heap.size w w' := by
  obtain ⟨W, hWe, r0, r1, hW, hsz⟩ := rows2 w 24 (.bool neg) (.slice a m cap) (.bool false) (.slice none 0 0)
  have HWe := Lib.hid hWe; clear hWe
  have hM := large_May W neg a l m cap (hlay.below hW) hlim hm hl
  rw [hmay] at hM
  have HM := Lib.hid hM; clear hM
  have hm10 : m ≤ 1024 := by rw [hm]; exact (mayB_int hlim hmay).2.2
  have hWd := fun (w1 : World) (hb : Below W.heap.size W w1) => at_wide (At.refl w1) neg a l m cap (hlay.below (hW.trans (hb.mono hW.size))) hlim hm (by omega)
  rw [← hx] at hWd
  have HWd := Lib.hid hWd; clear hWd
  have lx : (rep x.natAbs).length ≤ 1024 := by rw [hx, signed_abs]; exact Nat.le_trans (rep_val_le hlim) (by omega)
  have lx' : (rep x.natAbs).length ≤ 68719476736 := Nat.le_trans lx (by decide)
  obtain ⟨B, hB⟩ : ∃ B, B = bitsN x.natAbs := ⟨_, rfl⟩
  have B2 : 2 ≤ B := by rw [hB]; exact bits_two hx2
  have B3 : B ≤ 32768 := by rw [hB]; exact bits_len lx
  have hbits : bitsN x.natAbs = B := hB.symm
  have hBL := fun X p (h : IntAt X p x) => int_bitlen X p x h lx'
  rw [show bitsN x.natAbs = B from hbits] at hBL
  have HBL := Lib.hid hBL; clear hBL
  have d0 : (n == 0) = false := by rw [beq_eq_false_iff_ne]; omega
  have d1 : decide (n < 0) = false := decide_eq_false (by omega)
  obtain ⟨C, hC⟩ : ∃ C, B = C + 1 := ⟨B - 1, by omega⟩
  have q4 : decide (32768 < n) = true := decide_eq_true hf
  clear hbits hB hx hmay hlim hm hx2
  subst hC
  have q2 : (((C + 1 : Nat) : Int) == 0) = false := by rw [beq_eq_false_iff_ne]; omega
  have q3 : (((C + 1 : Nat) : Int) == 1) = false := by rw [beq_eq_false_iff_ne]; omega
  have q6 : ((C + 1 : Nat) : Int) - 1 = (C : Int) := by omega
  have q7 : ((C : Int) + 1 == 0) = false := by rw [beq_eq_false_iff_ne]; omega
  have q8 : ((C : Int) + 1 == 1) = false := by rw [beq_eq_false_iff_ne]; omega
  go_enter Tryz.func17, Tryz.ntmps17
  go_wp2_with fail
  rw [← HWe.out]
  refine HM.out.mono ?_
  rintro e w1 ⟨rfl, hb1⟩
  have p0 := r0.below hb1 r0.lt
  have p1 := r1.below hb1 r1.lt
  have c0 := p0.cell_at 0
  have c1 := p0.cell_at 1
  simp only [List.getElem?_cons_zero, List.getElem?_cons_succ] at c0 c1
  go_wp2_with fail
  refine (HWd.out w1 hb1).mono ?_
  rintro e w2 ⟨p, rfl, h2⟩
  go_wp2_with fail
  refine (HBL.out w2 p (h2.ints _ (.head _)).1).mono ?_
  rintro e w2' ⟨rfl, rfl⟩
  have hB1 : Below w.heap.size w w2 := hW.trans ((hb1.trans (h2.below.mono hb1.size)).mono hW.size)
  have hR := r1.below (hb1.trans (h2.below.mono hb1.size)) r1.lt
  have k0 := hR.cell_at 0
  have k1 := hR.cell_at 1
  have k2 := hR.free 0
  have k3 := hR.free 1
  simp only [List.getElem?_cons_zero, List.getElem?_cons_succ] at k0 k1
  have e0 : (w2.setCell ⟨w.heap.size + 1, 0, none⟩ (.bool false)).cell? ⟨w.heap.size + 1, 0, none⟩ = some (.bool false) := (hR.store_any 0 _).cell_at 0
  have e1 : ((w2.setCell ⟨w.heap.size + 1, 0, none⟩ (.bool false)).setCell ⟨w.heap.size + 1, 1, none⟩ (.slice none 0 0)).cell? ⟨w.heap.size + 1, 1, none⟩ = some (.slice none 0 0) := ((hR.store_any 0 _).store_any 1 _).cell_at 1
  have HF := Lib.hid (below_store (below_store hB1 (g := w.heap.size + 1) (i := 0) (by omega) (.bool false)) (g := w.heap.size + 1) (i := 1) (by omega) (.slice none 0 0))
  go_wp2
  (try simp only [Exit.inBlock, Exit.then])
  refine bodyPost_ret (v := .tuple #[.agg #[.bool false, .slice none 0 0], .int .i64 2]) (by simp [results, Tryz.results17, go_sem, e0, e1]) rfl ?_
  exact ⟨rfl, HF.out⟩

set_option maxHeartbeats 3200000 in
set_option maxRecDepth 1000000 in
theorem pow_wide (w : World) (neg : Bool) (a : Option Addr) (l : List Nat) (m cap : Nat) (n x : Int) (hlay : Lay .u32 w a l) (hlim : Lim l) (hm : m = l.length) (hl : m ≤ 9223372036854775807) (hmay : mayB neg l = true) (hx : x = signed neg (val l)) (hn1 : -9223372036854775808 ≤ n) (hn2 : n ≤ 9223372036854775807) (h0 : 0 < n) (hx2 : 2 ≤ x.natAbs) (hf : n ≤ 32768) (ht : 32768 < ((bitsN x.natAbs - 1 : Nat) : Int) * n) :
    Calls Tryz.prog 17 #[.agg #[.bool neg, .slice a m cap], .int .i64 n] w fun e w' => e = .returned (.tuple #[.agg #[.bool false, .slice none 0 0], .int .i64 2]) ∧ Below w.heap.size w w' := by
  obtain ⟨W, hWe, r0, r1, hW, hsz⟩ := rows2 w 24 (.bool neg) (.slice a m cap) (.bool false) (.slice none 0 0)
  have HWe := Lib.hid hWe; clear hWe
  have hM := large_May W neg a l m cap (hlay.below hW) hlim hm hl
  rw [hmay] at hM
  have HM := Lib.hid hM; clear hM
  have hm10 : m ≤ 1024 := by rw [hm]; exact (mayB_int hlim hmay).2.2
  have hWd := fun (w1 : World) (hb : Below W.heap.size W w1) => at_wide (At.refl w1) neg a l m cap (hlay.below (hW.trans (hb.mono hW.size))) hlim hm (by omega)
  rw [← hx] at hWd
  have HWd := Lib.hid hWd; clear hWd
  have lx : (rep x.natAbs).length ≤ 1024 := by rw [hx, signed_abs]; exact Nat.le_trans (rep_val_le hlim) (by omega)
  have lx' : (rep x.natAbs).length ≤ 68719476736 := Nat.le_trans lx (by decide)
  obtain ⟨B, hB⟩ : ∃ B, B = bitsN x.natAbs := ⟨_, rfl⟩
  have B2 : 2 ≤ B := by rw [hB]; exact bits_two hx2
  have B3 : B ≤ 32768 := by rw [hB]; exact bits_len lx
  have hbits : bitsN x.natAbs = B := hB.symm
  have hBL := fun X p (h : IntAt X p x) => int_bitlen X p x h lx'
  rw [show bitsN x.natAbs = B from hbits] at hBL
  have HBL := Lib.hid hBL; clear hBL
  have d0 : (n == 0) = false := by rw [beq_eq_false_iff_ne]; omega
  have d1 : decide (n < 0) = false := decide_eq_false (by omega)
  obtain ⟨C, hC⟩ : ∃ C, B = C + 1 := ⟨B - 1, by omega⟩
  have q4 : decide (32768 < n) = false := decide_eq_false (by omega)
  obtain ⟨t, het⟩ : ∃ t : Nat, t = C * n.toNat := ⟨_, rfl⟩
  have et : ((C : Nat) : Int) * n = (t : Int) := by rw [het, Int.natCast_mul, Int.toNat_of_nonneg (by omega)]
  have t1 : 32768 < t := by rw [hbits, hC, Nat.add_sub_cancel, et] at ht; omega
  have t2 : t ≤ 1073741824 := by rw [het]; exact Nat.mul_le_mul (show C ≤ 32768 by omega) (show n.toNat ≤ 32768 by omega)
  have q5 : decide (32768 < t) = true := decide_eq_true t1
  have q5' : decide ((32768 : Int) < (t : Int)) = true := decide_eq_true (by omega)
  clear hbits hB hx hmay hlim hm hx2 ht het
  subst hC
  have q2 : (((C + 1 : Nat) : Int) == 0) = false := by rw [beq_eq_false_iff_ne]; omega
  have q3 : (((C + 1 : Nat) : Int) == 1) = false := by rw [beq_eq_false_iff_ne]; omega
  have q6 : ((C + 1 : Nat) : Int) - 1 = (C : Int) := by omega
  have q7 : ((C : Int) + 1 == 0) = false := by rw [beq_eq_false_iff_ne]; omega
  have q8 : ((C : Int) + 1 == 1) = false := by rw [beq_eq_false_iff_ne]; omega
  go_enter Tryz.func17, Tryz.ntmps17
  go_wp2_with fail
  rw [← HWe.out]
  refine HM.out.mono ?_
  rintro e w1 ⟨rfl, hb1⟩
  have p0 := r0.below hb1 r0.lt
  have p1 := r1.below hb1 r1.lt
  have c0 := p0.cell_at 0
  have c1 := p0.cell_at 1
  simp only [List.getElem?_cons_zero, List.getElem?_cons_succ] at c0 c1
  go_wp2_with fail
  refine (HWd.out w1 hb1).mono ?_
  rintro e w2 ⟨p, rfl, h2⟩
  go_wp2_with fail
  refine (HBL.out w2 p (h2.ints _ (.head _)).1).mono ?_
  rintro e w2' ⟨rfl, rfl⟩
  have hB1 : Below w.heap.size w w2 := hW.trans ((hb1.trans (h2.below.mono hb1.size)).mono hW.size)
  have hR := r1.below (hb1.trans (h2.below.mono hb1.size)) r1.lt
  have k0 := hR.cell_at 0
  have k1 := hR.cell_at 1
  have k2 := hR.free 0
  have k3 := hR.free 1
  simp only [List.getElem?_cons_zero, List.getElem?_cons_succ] at k0 k1
  have e0 : (w2.setCell ⟨w.heap.size + 1, 0, none⟩ (.bool false)).cell? ⟨w.heap.size + 1, 0, none⟩ = some (.bool false) := (hR.store_any 0 _).cell_at 0
  have e1 : ((w2.setCell ⟨w.heap.size + 1, 0, none⟩ (.bool false)).setCell ⟨w.heap.size + 1, 1, none⟩ (.slice none 0 0)).cell? ⟨w.heap.size + 1, 1, none⟩ = some (.slice none 0 0) := ((hR.store_any 0 _).store_any 1 _).cell_at 1
  have HF := Lib.hid (below_store (below_store hB1 (g := w.heap.size + 1) (i := 0) (by omega) (.bool false)) (g := w.heap.size + 1) (i := 1) (by omega) (.slice none 0 0))
  go_wp2
  (try simp only [Exit.inBlock, Exit.then])
  refine bodyPost_ret (v := .tuple #[.agg #[.bool false, .slice none 0 0], .int .i64 2]) (by simp [results, Tryz.results17, go_sem, e0, e1]) rfl ?_
  exact ⟨rfl, HF.out⟩

end Go.Proofs.YtbffpkmfhkphdaaGreatDoor
