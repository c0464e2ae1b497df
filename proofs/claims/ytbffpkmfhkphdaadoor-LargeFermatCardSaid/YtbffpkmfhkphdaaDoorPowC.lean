/- The walk of large.Pow, where the power is made. -/
import Derived.Test.YtbffpkmfhkphdaaDoorExpNilC
import Derived.Test.YtbffpkmfhkphdaaDoorSumsC
import Derived.Test.YtbffpkmfhkphdaaDoorBigCompareC
namespace Go.Proofs.YtbffpkmfhkphdaaDoor
open Go Go.RowKit Limb

theorem at_expnil {w1 X : World} {l : List (Nat × Int)} {p q r : Nat} {v x : Int} {k : Nat} (h : At w1 X l) (hp : (p, v) ∈ l) (hq : (q, x) ∈ l) (hr : (r, (k : Int)) ∈ l) (hx : x ≠ 0) (hk : k < 18446744073709551616) (lx : (rep x.natAbs).length ≤ 68719476736) (lT : (rep (x ^ k).natAbs).length ≤ 68719476736) :
    Calls Tryd.prog 53 #[.pointer (some ⟨p, 0, none⟩), .pointer (some ⟨q, 0, none⟩), .pointer (some ⟨r, 0, none⟩), .pointer none] X fun e X' => e = .returned (.pointer (some ⟨p, 0, none⟩)) ∧ At w1 X' (upd l p (x ^ k)) := by
  refine (int_expnil X p q r v x k (h.ints _ hp).1 (h.ints _ hq).1 (h.ints _ hr).1 hx hk lx lT).mono ?_
  rintro e X' ⟨rfl, h1, h2⟩
  exact ⟨rfl, h.set hp h2 h1⟩

theorem signed_abs (neg : Bool) (n : Nat) : (signed neg n).natAbs = n := by unfold signed; split <;> omega
theorem bits_two {x : Nat} (h : 2 ≤ x) : 2 ≤ bitsN x := by
  rcases Nat.lt_or_ge (bitsN x) 2 with h1 | h1
  · have : x < 2 ^ 1 := bitsN_le.1 (by omega)
    omega
  · exact h1
theorem pow_lt_W {E M : Nat} (h : E < 32 * M) : 2 ^ E < Limb.W M := by rw [W_two]; exact Nat.pow_lt_pow_right (by decide) h
theorem pow_bits {x k B : Nat} (hB : B = bitsN x) (hB0 : 1 ≤ B) (hk : (B - 1) * k ≤ 32768) (hk2 : k ≤ 32768) : (rep (x ^ k)).length ≤ 68719476736 := by
  rw [rep_length_le]
  have h1 : x < 2 ^ B := by rw [hB]; exact bitsN_le.1 (Nat.le_refl _)
  have h2 : x ^ k ≤ (2 ^ B) ^ k := Nat.pow_le_pow_left (Nat.le_of_lt h1) k
  rw [← Nat.pow_mul] at h2
  have h3 : B * k ≤ 65536 := by
    have : B * k = (B - 1) * k + k := by rw [← Nat.succ_mul]; congr 1; omega
    omega
  obtain ⟨E, hE, hE2⟩ : ∃ E, B * k ≤ E ∧ E < 32 * 68719476736 := ⟨65536, h3, by decide⟩
  have h4 : 2 ^ (B * k) ≤ 2 ^ E := Nat.pow_le_pow_right (by decide) hE
  have h5 : 2 ^ E < Limb.W 68719476736 := pow_lt_W hE2
  exact Nat.lt_of_le_of_lt h2 (Nat.lt_of_le_of_lt h4 h5)

/-- What every answer looks like, read at a later world. -/
theorem at_narrow_shape {w1 X : World} {l : List (Nat × Int)} {p : Nat} {z : Int} (h : At w1 X l) (hp : (p, z) ∈ l) (hs : (rep z.natAbs).length ≤ 68719476736) :
    Calls Tryd.prog 49 #[.pointer (some ⟨p, 0, none⟩)] X fun e X' => (∃ b a n c k, e = .returned (.tuple #[.agg #[.bool b, .slice a n c], .int .i64 k]) ∧
      (∀ w0 w2, Below w0.heap.size w0 w2 → (∀ l, Lay .u32 X' a l → Lay .u32 w2 a l) → Answer true w0 w2 e z)) ∧ At w1 X' l := by
  refine (large_narrow X p z (h.ints _ hp).1 hs).mono ?_
  rintro e X' ha
  have hb := ha.1
  obtain ⟨b, a, n, c, k, h1, _, h2⟩ := (Answer.yes ha).shape
  exact ⟨⟨b, a, n, c, k, h1, h2⟩, h.next hb⟩

set_option maxHeartbeats 1600000 in
set_option maxRecDepth 1000000 in
theorem large_pow_big (w : World) (neg : Bool) (a : Option Addr) (l : List Nat) (n cap k : Nat) (x : Int) (hlay : Lay .u32 w a l) (hlim : Lim l) (hn : n = l.length) (hmay : mayB neg l = true)
    (hx : x = signed neg (val l)) (hx2 : 2 ≤ x.natAbs) (hk0 : 1 ≤ k) (hk1 : k ≤ 32768) (hk : (bitsN x.natAbs - 1) * k ≤ 32768) :
    Calls Tryd.prog 30 #[.agg #[.bool neg, .slice a n cap], .int .i64 k] w fun e w' => Answer true w w' e (x ^ k) := by
  obtain ⟨W, hWe, r0, r1, hW, hsz⟩ := rows2 w 24 (.bool neg) (.slice a n cap) (.bool false) (.slice none 0 0)
  have HWe := Lib.hid hWe; clear hWe
  have hn10 : n ≤ 1024 := by rw [hn]; exact (mayB_int hlim hmay).2.2
  have hM := large_May W neg a l n cap (hlay.below hW) hlim hn (by omega)
  rw [hmay] at hM
  have HM := Lib.hid hM; clear hM
  have hWd := fun (w1 : World) (hb : Below W.heap.size W w1) => at_wide (At.refl w1) neg a l n cap (hlay.below (hW.trans (hb.mono hW.size))) hlim hn (by omega)
  rw [← hx] at hWd
  have HWd := Lib.hid hWd; clear hWd
  have lx : (rep x.natAbs).length ≤ 1024 := by rw [hx, signed_abs]; exact Nat.le_trans (rep_val_le hlim) (by omega)
  have lx' : (rep x.natAbs).length ≤ 68719476736 := Nat.le_trans lx (by decide)
  obtain ⟨B, hB⟩ : ∃ B, B = bitsN x.natAbs := ⟨_, rfl⟩
  have hBL := fun X p (h : IntAt X p x) => int_bitlen X p x h lx'
  rw [← hB] at hBL hk
  have HBL := Lib.hid hBL; clear hBL
  have B2 : 2 ≤ B := by rw [hB]; exact bits_two hx2
  have lT : (rep (x ^ k).natAbs).length ≤ 68719476736 := by rw [Int.natAbs_pow]; exact pow_bits hB (by omega) hk hk1
  have B3 : B ≤ 32769 := by have := Nat.mul_le_mul_left (B - 1) hk0; omega
  have hx0 : x ≠ 0 := by omega
  obtain ⟨C, hC⟩ : ∃ C, B = C + 1 := ⟨B - 1, by omega⟩
  obtain ⟨t, ht⟩ : ∃ t, t = C * k := ⟨_, rfl⟩
  have t1 : t ≤ 32768 := by rw [ht]; rw [hC, Nat.add_sub_cancel] at hk; exact hk
  have et : ((C : Nat) : Int) * (k : Int) = (t : Int) := by rw [ht, Int.natCast_mul]
  have hx0' := Lib.hid hx0
  clear hB hk hx2 hx hx0 hn hmay hlim ht
  subst hC
  have q1 : ((k : Int) == 0) = false := by rw [beq_eq_false_iff_ne]; omega
  have q2 : (((C + 1 : Nat) : Int) == 0) = false := by rw [beq_eq_false_iff_ne]; omega
  have q3 : (((C + 1 : Nat) : Int) == 1) = false := by rw [beq_eq_false_iff_ne]; omega
  have q4 : decide (32768 < k) = false := by rw [decide_eq_false_iff_not]; omega
  have q5 : decide (32768 < t) = false := by rw [decide_eq_false_iff_not]; omega
  have q6 : ((C + 1 : Nat) : Int) - 1 = (C : Int) := by omega
  have q7 : ((C : Int) + 1 == 0) = false := by rw [beq_eq_false_iff_ne]; omega
  have q8 : ((C : Int) + 1 == 1) = false := by rw [beq_eq_false_iff_ne]; omega
  go_enter Tryd.func30, Tryd.ntmps30
  go_wp2_with fail
  rw [← HWe.out]
  refine HM.out.mono ?_
  rintro e w1 ⟨rfl, hb1⟩
  have p0 := r0.below hb1 r0.lt
  have p1 := r1.below hb1 r1.lt
  have c0 := p0.cell_at 0
  have c1 := p0.cell_at 1
  simp only [List.getElem?_cons_zero, List.getElem?_cons_succ] at c0 c1
  go_wp2_with fail
  refine (HWd.out w1 hb1).mono ?_
  rintro e w2 ⟨p, rfl, h2⟩
  go_wp2_with fail
  refine (HBL.out w2 p (h2.ints _ (.head _)).1).mono ?_
  rintro e w2' ⟨rfl, rfl⟩
  go_wp2_with fail
  refine (at_newint h2 (k : Int) (by omega) (by omega)).mono ?_
  rintro e w3 ⟨r, rfl, h3⟩
  go_wp2_with fail
  refine (at_expnil h3 (.tail _ (.head _)) (.tail _ (.head _)) (.head _) hx0'.out (by omega) lx' lT).mono ?_
  rintro e w4 ⟨rfl, h4⟩
  go_wp2_with fail
  refine (at_narrow_shape h4 (mem_upd _ (.tail _ (.head _))) lT).mono ?_
  rintro e w5 ⟨⟨b', a', n', c', k', rfl, hnext⟩, h5⟩
  have HN := Lib.hid hnext; clear hnext
  have hB1 : Below w.heap.size w w5 := hW.trans ((hb1.trans (h5.below.mono hb1.size)).mono hW.size)
  have hR := p1.below h5.below p1.lt
  have k0 := hR.cell_at 0
  have k1 := hR.cell_at 1
  have k2 := hR.free 0
  have k3 := hR.free 1
  simp only [List.getElem?_cons_zero, List.getElem?_cons_succ] at k0 k1
  have e0 : (w5.setCell ⟨w.heap.size + 1, 0, none⟩ (.bool b')).cell? ⟨w.heap.size + 1, 0, none⟩ = some (.bool b') := (hR.store_any 0 _).cell_at 0
  have e1 : ((w5.setCell ⟨w.heap.size + 1, 0, none⟩ (.bool b')).setCell ⟨w.heap.size + 1, 1, none⟩ (.slice a' n' c')).cell? ⟨w.heap.size + 1, 1, none⟩ = some (.slice a' n' c') := ((hR.store_any 0 _).store_any 1 _).cell_at 1
  have HF := Lib.hid (below_store (below_store hB1 (g := w.heap.size + 1) (i := 0) (by omega) (.bool b')) (g := w.heap.size + 1) (i := 1) (by omega) (.slice a' n' c'))
  go_wp2
  (try simp only [Exit.inBlock, Exit.then])
  refine bodyPost_ret (v := .tuple #[.agg #[.bool b', .slice a' n' c'], .int .i64 k']) (by simp [results, Tryd.results30, go_sem, e0, e1]) rfl ?_
  exact HN.out _ _ HF.out (fun l hl => hl.pair hR _ _)

end Go.Proofs.YtbffpkmfhkphdaaDoor
