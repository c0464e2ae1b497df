/- The walk of large.Pow, where the power is made. The walks of IsInt64, Int64 of package big's integers, and of large.Int. -/
import Derived.Test.YtbffpkmfhkphdaaGreatDoorExpNilC
import Derived.Test.YtbffpkmfhkphdaaGreatDoorGX25
import Derived.Test.YtbffpkmfhkphdaaGreatDoorGX27
set_option linter.unusedVariables false
set_option linter.unusedSimpArgs false
namespace Go.Proofs.YtbffpkmfhkphdaaGreatDoor
open Go Go.RowKit Limb

theorem at_expnil {w1 X : World} {l : List (Nat × Int)} {p q r : Nat} {v x : Int} {k : Nat} (h : At w1 X l) (hp : (p, v) ∈ l) (hq : (q, x) ∈ l) (hr : (r, (k : Int)) ∈ l) (hx : x ≠ 0) (hk : k < 18446744073709551616) (lx : (rep x.natAbs).length ≤ 68719476736) (lT : (rep (x ^ k).natAbs).length ≤ 68719476736) :
    Calls Tryz.prog 82 #[.pointer (some ⟨p, 0, none⟩), .pointer (some ⟨q, 0, none⟩), .pointer (some ⟨r, 0, none⟩), .pointer none] X fun e X' => e = .returned (.pointer (some ⟨p, 0, none⟩)) ∧ At w1 X' (upd l p (x ^ k)) := by
  refine (int_expnil X p q r v x k (h.ints _ hp).1 (h.ints _ hq).1 (h.ints _ hr).1 hx hk lx lT).mono ?_
  rintro e X' ⟨rfl, h1, h2⟩
  exact ⟨rfl, h.set hp h2 h1⟩

theorem signed_abs (neg : Bool) (n : Nat) : (signed neg n).natAbs = n := by unfold signed; split <;> omega
theorem bits_two {x : Nat} (h : 2 ≤ x) : 2 ≤ bitsN x := by
  rcases Nat.lt_or_ge (bitsN x) 2 with h1 | h1
  · have : x < 2 ^ 1 := bitsN_le.1 (by omega)
    omega
  · exact h1
theorem pow_lt_W {E M : Nat} (h : E < 32 * M) : 2 ^ E < Limb.W M := by rw [W_two]; exact Nat.pow_lt_pow_right (by decide) h
theorem pow_bits {x k B : Nat} (hB : B = bitsN x) (hB0 : 1 ≤ B) (hk : (B - 1) * k ≤ 32768) (hk2 : k ≤ 32768) : (rep (x ^ k)).length ≤ 68719476736 := by
  rw [rep_length_le]
  have h1 : x < 2 ^ B := by rw [hB]; exact bitsN_le.1 (Nat.le_refl _)
  have h2 : x ^ k ≤ (2 ^ B) ^ k := Nat.pow_le_pow_left (Nat.le_of_lt h1) k
  rw [← Nat.pow_mul] at h2
  have h3 : B * k ≤ 65536 := by
    have : B * k = (B - 1) * k + k := by rw [← Nat.succ_mul]; congr 1; omega
    omega
  obtain ⟨E, hE, hE2⟩ : ∃ E, B * k ≤ E ∧ E < 32 * 68719476736 := ⟨65536, h3, by decide⟩
  have h4 : 2 ^ (B * k) ≤ 2 ^ E := Nat.pow_le_pow_right (by decide) hE
  have h5 : 2 ^ E < Limb.W 68719476736 := pow_lt_W hE2
  exact Nat.lt_of_le_of_lt h2 (Nat.lt_of_le_of_lt h4 h5)

/-- What every answer looks like, read at a later world. -/
theorem at_narrow_shape {w1 X : World} {l : List (Nat × Int)} {p : Nat} {z : Int} (h : At w1 X l) (hp : (p, z) ∈ l) (hs : (rep z.natAbs).length ≤ 68719476736) :
    Calls Tryz.prog 62 #[.pointer (some ⟨p, 0, none⟩)] X fun e X' => (∃ b a n c k, e = .returned (.tuple #[.agg #[.bool b, .slice a n c], .int .i64 k]) ∧
      (∀ w0 w2, Below w0.heap.size w0 w2 → (∀ l, Lay .u32 X' a l → Lay .u32 w2 a l) → Answer true w0 w2 e z)) ∧ At w1 X' l := by
  refine (large_narrow X p z (h.ints _ hp).1 hs).mono ?_
  rintro e X' ha
  have hb := ha.1
  obtain ⟨b, a, n, c, k, h1, _, h2⟩ := (Answer.yes ha).shape
  exact ⟨⟨b, a, n, c, k, h1, h2⟩, h.next hb⟩

set_option maxHeartbeats 1600000 in
set_option maxRecDepth 1000000 in
theorem large_pow_big (w : World) (neg : Bool) (a : Option Addr) (l : List Nat) (n cap k : Nat) (x : Int) (hlay : Lay .u32 w a l) (hlim : Lim l) (hn : n = l.length) (hmay : mayB neg l = true)
    (hx : x = signed neg (val l)) (hx2 : 2 ≤ x.natAbs) (hk0 : 1 ≤ k) (hk1 : k ≤ 32768) (hk : (bitsN x.natAbs - 1) * k ≤ 32768) :
    Calls Tryz.prog 17 #[.agg #[.bool neg, .slice a n cap], .int .i64 k] w fun e w' => Answer true w w' e (x ^ k) := by
  obtain ⟨W, hWe, r0, r1, hW, hsz⟩ := rows2 w 24 (.bool neg) (.slice a n cap) (.bool false) (.slice none 0 0)
  have HWe := Lib.hid hWe; clear hWe
  have hn10 : n ≤ 1024 := by rw [hn]; exact (mayB_int hlim hmay).2.2
  have hM := large_May W neg a l n cap (hlay.below hW) hlim hn (by omega)
  rw [hmay] at hM
  have HM := Lib.hid hM; clear hM
  have hWd := fun (w1 : World) (hb : Below W.heap.size W w1) => at_wide (At.refl w1) neg a l n cap (hlay.below (hW.trans (hb.mono hW.size))) hlim hn (by omega)
  rw [← hx] at hWd
  have HWd := Lib.hid hWd; clear hWd
  have lx : (rep x.natAbs).length ≤ 1024 := by rw [hx, signed_abs]; exact Nat.le_trans (rep_val_le hlim) (by omega)
  have lx' : (rep x.natAbs).length ≤ 68719476736 := Nat.le_trans lx (by decide)
  obtain ⟨B, hB⟩ : ∃ B, B = bitsN x.natAbs := ⟨_, rfl⟩
  have hBL := fun X p (h : IntAt X p x) => int_bitlen X p x h lx'
  rw [← hB] at hBL hk
  have HBL := Lib.hid hBL; clear hBL
  have B2 : 2 ≤ B := by rw [hB]; exact bits_two hx2
  have lT : (rep (x ^ k).natAbs).length ≤ 68719476736 := by rw [Int.natAbs_pow]; exact pow_bits hB (by omega) hk hk1
  have B3 : B ≤ 32769 := by have := Nat.mul_le_mul_left (B - 1) hk0; omega
  have hx0 : x ≠ 0 := by omega
  obtain ⟨C, hC⟩ : ∃ C, B = C + 1 := ⟨B - 1, by omega⟩
  obtain ⟨t, ht⟩ : ∃ t, t = C * k := ⟨_, rfl⟩
  have t1 : t ≤ 32768 := by rw [ht]; rw [hC, Nat.add_sub_cancel] at hk; exact hk
  have et : ((C : Nat) : Int) * (k : Int) = (t : Int) := by rw [ht, Int.natCast_mul]
  have hx0' := Lib.hid hx0
  clear hB hk hx2 hx hx0 hn hmay hlim ht
  subst hC
  have q1 : ((k : Int) == 0) = false := by rw [beq_eq_false_iff_ne]; omega
  have q2 : (((C + 1 : Nat) : Int) == 0) = false := by rw [beq_eq_false_iff_ne]; omega
  have q3 : (((C + 1 : Nat) : Int) == 1) = false := by rw [beq_eq_false_iff_ne]; omega
  have q4 : decide (32768 < k) = false := by rw [decide_eq_false_iff_not]; omega
  have q5 : decide (32768 < t) = false := by rw [decide_eq_false_iff_not]; omega
  have q6 : ((C + 1 : Nat) : Int) - 1 = (C : Int) := by omega
  have q7 : ((C : Int) + 1 == 0) = false := by rw [beq_eq_false_iff_ne]; omega
  have q8 : ((C : Int) + 1 == 1) = false := by rw [beq_eq_false_iff_ne]; omega
  go_enter Tryz.func17, Tryz.ntmps17
  go_wp2_with fail
  rw [← HWe.out]
  refine HM.out.mono ?_
  rintro e w1 ⟨rfl, hb1⟩
  have p0 := r0.below hb1 r0.lt
  have p1 := r1.below hb1 r1.lt
  have c0 := p0.cell_at 0
  have c1 := p0.cell_at 1
  simp only [List.getElem?_cons_zero, List.getElem?_cons_succ] at c0 c1
  go_wp2_with fail
  refine (HWd.out w1 hb1).mono ?_
  rintro e w2 ⟨p, rfl, h2⟩
  go_wp2_with fail
  refine (HBL.out w2 p (h2.ints _ (.head _)).1).mono ?_
  rintro e w2' ⟨rfl, rfl⟩
  go_wp2_with fail
  refine (at_newint h2 (k : Int) (by omega) (by omega)).mono ?_
  rintro e w3 ⟨r, rfl, h3⟩
  go_wp2_with fail
  refine (at_expnil h3 (.tail _ (.head _)) (.tail _ (.head _)) (.head _) hx0'.out (by omega) lx' lT).mono ?_
  rintro e w4 ⟨rfl, h4⟩
  go_wp2_with fail
  refine (at_narrow_shape h4 (mem_upd _ (.tail _ (.head _))) lT).mono ?_
  rintro e w5 ⟨⟨b', a', n', c', k', rfl, hnext⟩, h5⟩
  have HN := Lib.hid hnext; clear hnext
  have hB1 : Below w.heap.size w w5 := hW.trans ((hb1.trans (h5.below.mono hb1.size)).mono hW.size)
  have hR := p1.below h5.below p1.lt
  have k0 := hR.cell_at 0
  have k1 := hR.cell_at 1
  have k2 := hR.free 0
  have k3 := hR.free 1
  simp only [List.getElem?_cons_zero, List.getElem?_cons_succ] at k0 k1
  have e0 : (w5.setCell ⟨w.heap.size + 1, 0, none⟩ (.bool b')).cell? ⟨w.heap.size + 1, 0, none⟩ = some (.bool b') := (hR.store_any 0 _).cell_at 0
  have e1 : ((w5.setCell ⟨w.heap.size + 1, 0, none⟩ (.bool b')).setCell ⟨w.heap.size + 1, 1, none⟩ (.slice a' n' c')).cell? ⟨w.heap.size + 1, 1, none⟩ = some (.slice a' n' c') := ((hR.store_any 0 _).store_any 1 _).cell_at 1
  have HF := Lib.hid (below_store (below_store hB1 (g := w.heap.size + 1) (i := 0) (by omega) (.bool b')) (g := w.heap.size + 1) (i := 1) (by omega) (.slice a' n' c'))
  go_wp2
  (try simp only [Exit.inBlock, Exit.then])
  refine bodyPost_ret (v := .tuple #[.agg #[.bool b', .slice a' n' c'], .int .i64 k']) (by simp [results, Tryz.results17, go_sem, e0, e1]) rfl ?_
  exact HN.out _ _ HF.out (fun l hl => hl.pair hR _ _)

end Go.Proofs.YtbffpkmfhkphdaaGreatDoor

namespace Go.Proofs.YtbffpkmfhkphdaaGreatDoor
open Go Go.RowKit Limb

/-- Is a number an int? -/
def inI64 (z : Int) : Bool := decide (-9223372036854775808 ≤ z) && decide (z ≤ 9223372036854775807)
theorem inI64_iff {z : Int} : inI64 z = true ↔ -9223372036854775808 ≤ z ∧ z ≤ 9223372036854775807 := by unfold inI64; simp
theorem low_rep {n : Nat} (h : (rep n).length ≤ 2) : val (rep n) % 18446744073709551616 = n := by
  rw [val_rep]
  have h1 := rep_length_le.1 h
  rw [show Limb.W 2 = 18446744073709551616 from by decide] at h1
  omega
theorem long_out {z : Int} (h : 2 < (rep z.natAbs).length) : inI64 z = false := by
  have h1 := rep_length_lt.1 h
  rw [show Limb.W 2 = 18446744073709551616 from by decide] at h1
  rw [Bool.eq_false_iff, Ne, inI64_iff]; omega
theorem in_short {z : Int} (h : inI64 z = true) : (rep z.natAbs).length ≤ 2 := by
  rw [inI64_iff] at h
  exact len_i64 h.1 h.2

set_option maxHeartbeats 1600000 in
set_option maxRecDepth 100000 in
theorem int_is64 (w : World) (q : Nat) (z : Int) (hq : IntAt w q z) (hs : (rep z.natAbs).length ≤ 68719476736) :
    Calls Tryz.prog 98 #[.pointer (some ⟨q, 0, none⟩)] w fun e w' => e = .returned (.bool (inI64 z)) ∧ w = w' := by
  obtain ⟨b, a, n, cap, Hb, Hn, hc, hl, hcells⟩ := hq.use
  obtain ⟨c0, c1⟩ := hcells w (Only.refl _ _)
  clear hcells
  rw [← Hn.out] at hs
  by_cases h2 : 2 < n
  · have d1 : decide (2 < n) = true := decide_eq_true h2
    have d1' : decide ((2 : Int) < (n : Int)) = true := decide_eq_true (by omega)
    have HO := Lib.hid (long_out (z := z) (by rw [← Hn.out]; exact h2))
    clear h2 hl
    go_enter Tryz.func98, Tryz.ntmps98
    go_wp2_with fail
    go_ret
    rw [HO.out]
    exact ⟨rfl, rfl⟩
  · have d1 : decide (2 < n) = false := decide_eq_false h2
    have d1' : decide ((2 : Int) < (n : Int)) = false := decide_eq_false (by omega)
    have hlow := big_low w a (rep z.natAbs) n cap hl (rep_lim _) Hn.out (by omega)
    rw [low_rep (by rw [← Hn.out]; omega)] at hlow
    obtain ⟨N, hN⟩ : ∃ N, N = z.natAbs := ⟨_, rfl⟩
    rw [← hN] at hlow
    have HL := Lib.hid hlow
    have HN := Lib.hid hN
    clear hlow hl h2 hN
    by_cases hlt : N < 9223372036854775808
    · have d2 : decide ((N : Int) < 9223372036854775808) = true := decide_eq_true (by omega)
      have d2' : decide (N < 9223372036854775808) = true := decide_eq_true hlt
      have HO := Lib.hid (show inI64 z = true by rw [inI64_iff]; have := HN.out; omega)
      clear hlt
      go_enter Tryz.func98, Tryz.ntmps98
      go_wp2_with fail
      refine HL.out.mono ?_
      rintro e w1 ⟨rfl, rfl⟩
      (try dsimp only)
      go_wp2_with fail
      go_ret
      rw [HO.out]
      exact ⟨rfl, rfl⟩
    · have d2 : decide ((N : Int) < 9223372036854775808) = false := decide_eq_false (by omega)
      have d2' : decide (N < 9223372036854775808) = false := decide_eq_false hlt
      cases b with
      | false =>
        have HO := Lib.hid (show inI64 z = false by
          rw [Bool.eq_false_iff, Ne, inI64_iff]
          have h1 := HN.out
          have h3 := of_decide_eq_false Hb.out.symm
          omega)
        clear hlt
        go_enter Tryz.func98, Tryz.ntmps98
        go_wp2_with fail
        refine HL.out.mono ?_
        rintro e w1 ⟨rfl, rfl⟩
        (try dsimp only)
        go_wp2_with fail
        go_ret
        rw [HO.out]
        exact ⟨rfl, rfl⟩
      | true =>
        have h3 := of_decide_eq_true Hb.out.symm
        by_cases he : N = 9223372036854775808
        · have d3 : ((N : Int) == 9223372036854775808) = true := by rw [beq_iff_eq]; omega
          have HO := Lib.hid (show inI64 z = true by rw [inI64_iff]; have := HN.out; omega)
          clear hlt he h3
          go_enter Tryz.func98, Tryz.ntmps98
          go_wp2_with fail
          refine HL.out.mono ?_
          rintro e w1 ⟨rfl, rfl⟩
          (try dsimp only)
          go_wp2_with fail
          go_ret
          rw [HO.out]
          exact ⟨rfl, rfl⟩
        · have d3 : ((N : Int) == 9223372036854775808) = false := by rw [beq_eq_false_iff_ne]; omega
          have HO := Lib.hid (show inI64 z = false by
            rw [Bool.eq_false_iff, Ne, inI64_iff]
            have h1 := HN.out
            omega)
          clear hlt he h3
          go_enter Tryz.func98, Tryz.ntmps98
          go_wp2_with fail
          refine HL.out.mono ?_
          rintro e w1 ⟨rfl, rfl⟩
          (try dsimp only)
          go_wp2_with fail
          go_ret
          rw [HO.out]
          exact ⟨rfl, rfl⟩

theorem i64_neg {n : Nat} (h : n ≤ 9223372036854775808) : IntKind.i64.wrap (IntKind.u64.wrap (-(n : Int))) = -(n : Int) := by
  simp [IntKind.wrap, IntKind.bits, IntKind.signed]; omega
theorem i64_pos {n : Nat} (h : n < 9223372036854775808) : IntKind.i64.wrap (n : Int) = (n : Int) := by
  simp [IntKind.wrap, IntKind.bits, IntKind.signed]; omega

set_option maxHeartbeats 1600000 in
set_option maxRecDepth 100000 in
theorem int_int64 (w : World) (q : Nat) (z : Int) (hq : IntAt w q z) (hz : inI64 z = true) :
    Calls Tryz.prog 99 #[.pointer (some ⟨q, 0, none⟩)] w fun e w' => e = .returned (.int .i64 z) ∧ w = w' := by
  obtain ⟨b, a, n, cap, Hb, Hn, hc, hl, hcells⟩ := hq.use
  obtain ⟨c0, c1⟩ := hcells w (Only.refl _ _)
  clear hcells
  have hn2 : n ≤ 2 := by rw [Hn.out]; exact in_short hz
  have hlow := big_low w a (rep z.natAbs) n cap hl (rep_lim _) Hn.out (by omega)
  rw [low_rep (by rw [← Hn.out]; exact hn2)] at hlow
  obtain ⟨N, hN⟩ : ∃ N, N = z.natAbs := ⟨_, rfl⟩
  rw [← hN] at hlow
  rw [inI64_iff] at hz
  have HL := Lib.hid hlow
  clear hlow hl
  cases b with
  | true =>
    have h3 := of_decide_eq_true Hb.out.symm
    have hw : IntKind.i64.wrap (IntKind.u64.wrap (-(N : Int))) = z := by rw [i64_neg (by omega)]; omega
    clear h3 hN hz hn2
    go_enter Tryz.func99, Tryz.ntmps99
    go_wp2_with fail
    refine HL.out.mono ?_
    rintro e w1 ⟨rfl, rfl⟩
    (try dsimp only)
    go_wp2_with fail
    go_ret
    exact ⟨rfl, rfl⟩
  | false =>
    have h3 := of_decide_eq_false Hb.out.symm
    have hw : IntKind.i64.wrap (N : Int) = z := by rw [i64_pos (by omega)]; omega
    clear h3 hN hz hn2
    go_enter Tryz.func99, Tryz.ntmps99
    go_wp2_with fail
    refine HL.out.mono ?_
    rintro e w1 ⟨rfl, rfl⟩
    (try dsimp only)
    go_wp2_with fail
    go_ret
    exact ⟨rfl, rfl⟩

theorem sgn_natAbs (neg : Bool) (n : Nat) : (signed neg n).natAbs = n := by unfold signed; split <;> omega
/-- What large.Int answers. -/
def lintRes (ok : Bool) (z : Int) : Ending := if ok = true then .returned (.tuple #[.int .i64 z, .int .i64 0]) else .returned (.tuple #[.int .i64 0, .int .i64 1])

set_option maxHeartbeats 1600000 in
set_option maxRecDepth 100000 in
theorem large_int (w : World) (neg : Bool) (a : Option Addr) (l : List Nat) (m cap : Nat) (hlay : Lay .u32 w a l) (hlim : Lim l) (hm : m = l.length) (hl : m ≤ 9223372036854775807) :
    Calls Tryz.prog 31 #[.agg #[.bool neg, .slice a m cap]] w fun e w' => e = lintRes (mayB neg l && inI64 (signed neg (val l))) (signed neg (val l)) ∧ Below w.heap.size w w' := by
  obtain ⟨W, hWe, r0, hW, hzW⟩ : ∃ W, W = w.alloc (.cells #[.bool neg, .slice a m cap] 24) ∧ Row W w.heap.size 24 [.bool neg, .slice a m cap] ∧ Below w.heap.size w W ∧ True :=
    ⟨_, rfl, by unfold Row; exact heap_alloc_new _ _, (Below.refl _ _).alloc (Nat.le_refl _) _, trivial⟩
  have HWe := Lib.hid hWe; clear hWe hzW
  have hM := large_May W neg a l m cap (hlay.below hW) hlim hm hl
  obtain ⟨z, hz⟩ : ∃ z, z = signed neg (val l) := ⟨_, rfl⟩
  obtain ⟨ok, hok⟩ : ∃ ok, ok = mayB neg l := ⟨_, rfl⟩
  rw [← hok] at hM
  rw [← hok, ← hz]
  have HM := Lib.hid hM; clear hM
  have c0 := r0.cell_at 0
  have c1 := r0.cell_at 1
  simp only [List.getElem?_cons_zero, List.getElem?_cons_succ] at c0 c1
  cases ok with
  | false =>
    clear hok hz hlim hm
    go_enter Tryz.func31, Tryz.ntmps31
    go_wp2_with fail
    rw [← HWe.out]
    refine HM.out.mono ?_
    rintro e w1 ⟨rfl, hb1⟩
    (try dsimp only)
    have hB1 := hW.trans (hb1.mono hW.size)
    go_wp2_with fail
    go_ret2
    exact ⟨rfl, hB1⟩
  | true =>
    have hm10 : m ≤ 1024 := by rw [hm]; exact (mayB_int hlim hok.symm).2.2
    have lx : (rep z.natAbs).length ≤ 68719476736 := by rw [hz, sgn_natAbs]; exact Nat.le_trans (rep_val_le hlim) (by omega)
    have hwd := fun (w1 : World) (hb : Below W.heap.size W w1) => at_wide (At.refl w1) neg a l m cap (hlay.below (hW.trans (hb.mono hW.size))) hlim hm (by omega)
    rw [← hz] at hwd
    have HWd := Lib.hid hwd; clear hwd
    clear hok hz hlim hm
    cases hin : inI64 z with
    | false =>
      have HI := Lib.hid (fun X p (h : IntAt X p z) => show Calls Tryz.prog 98 #[.pointer (some ⟨p, 0, none⟩)] X (fun e w' => e = .returned (.bool false) ∧ X = w') from by have h1 := int_is64 X p z h lx; rwa [hin] at h1)
      clear hin
      go_enter Tryz.func31, Tryz.ntmps31
      go_wp2_with fail
      rw [← HWe.out]
      refine HM.out.mono ?_
      rintro e w1 ⟨rfl, hb1⟩
      (try dsimp only)
      have hB1 := hW.trans (hb1.mono hW.size)
      have r1 := r0.below hb1 r0.lt
      clear c0 c1
      have c0 := r1.cell_at 0
      have c1 := r1.cell_at 1
      simp only [List.getElem?_cons_zero, List.getElem?_cons_succ] at c0 c1
      go_wp2_with fail
      refine (HWd.out w1 hb1).mono ?_
      rintro e w2 ⟨p, rfl, h2⟩
      (try dsimp only)
      have hB2 := hB1.trans (h2.below.mono hB1.size)
      go_wp2_with fail
      refine (HI.out w2 p (h2.ints _ (.head _)).1).mono ?_
      rintro e w2' ⟨rfl, rfl⟩
      (try dsimp only)
      go_wp2_with fail
      go_ret2
      exact ⟨rfl, hB2⟩
    | true =>
      have HI := Lib.hid (fun X p (h : IntAt X p z) => show Calls Tryz.prog 98 #[.pointer (some ⟨p, 0, none⟩)] X (fun e w' => e = .returned (.bool true) ∧ X = w') from by have h1 := int_is64 X p z h lx; rwa [hin] at h1)
      have HJ := Lib.hid (fun X p (h : IntAt X p z) => int_int64 X p z h hin)
      clear hin
      go_enter Tryz.func31, Tryz.ntmps31
      go_wp2_with fail
      rw [← HWe.out]
      refine HM.out.mono ?_
      rintro e w1 ⟨rfl, hb1⟩
      (try dsimp only)
      have hB1 := hW.trans (hb1.mono hW.size)
      have r1 := r0.below hb1 r0.lt
      clear c0 c1
      have c0 := r1.cell_at 0
      have c1 := r1.cell_at 1
      simp only [List.getElem?_cons_zero, List.getElem?_cons_succ] at c0 c1
      go_wp2_with fail
      refine (HWd.out w1 hb1).mono ?_
      rintro e w2 ⟨p, rfl, h2⟩
      (try dsimp only)
      have hB2 := hB1.trans (h2.below.mono hB1.size)
      have r2 := r1.below h2.below r1.lt
      clear c0 c1
      have c0 := r2.cell_at 0
      have c1 := r2.cell_at 1
      simp only [List.getElem?_cons_zero, List.getElem?_cons_succ] at c0 c1
      have hb2 := hb1.trans (h2.below.mono hb1.size)
      go_wp2_with fail
      refine (HI.out w2 p (h2.ints _ (.head _)).1).mono ?_
      rintro e w2' ⟨rfl, rfl⟩
      (try dsimp only)
      go_wp2_with fail
      refine (HWd.out w2 hb2).mono ?_
      rintro e w3 ⟨p3, rfl, h3⟩
      (try dsimp only)
      have hB3 := hB2.trans (h3.below.mono hB2.size)
      go_wp2_with fail
      refine (HJ.out w3 p3 (h3.ints _ (.head _)).1).mono ?_
      rintro e w3' ⟨rfl, rfl⟩
      (try dsimp only)
      go_wp2_with fail
      go_ret2
      exact ⟨rfl, hB3⟩

end Go.Proofs.YtbffpkmfhkphdaaGreatDoor
