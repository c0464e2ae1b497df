/- What LargeBits' walk asks besides: its calls' contracts. The walk of the law LargeBits: it answers true. -/
import Derived.Test.YtbffpkmfhkphdaaGreatDoorLBitsC
import Derived.Test.YtbffpkmfhkphdaaGreatDoorRefBitsC
import Derived.Test.YtbffpkmfhkphdaaGreatDoorRefShiftC
import Derived.Test.YtbffpkmfhkphdaaGreatDoorGRefA
import Derived.Test.YtbffpkmfhkphdaaGreatDoorGAns
import Derived.Test.YtbffpkmfhkphdaaGreatDoorAwakeC
import Derived.Test.YtbffpkmfhkphdaaGreatDoorGTree
import Derived.Deep.DeepCutAuto
namespace Go.Proofs.YtbffpkmfhkphdaaGreatDoor
open Go Go.RowKit Limb

/-- An answer's parts: of integers that may be, or not. -/
def AnsB (ok : Bool) (X : World) (b : Bool) (a : Option Addr) (n c : Nat) (k z : Int) : Prop :=
  (ok = true ∧ Ans X b a n c k z) ∨ (ok = false ∧ b = false ∧ a = none ∧ n = 0 ∧ c = 0 ∧ k = 1)
theorem AnsB.below {ok : Bool} {X X' : World} {b : Bool} {a : Option Addr} {n c : Nat} {k z : Int} (h : AnsB ok X b a n c k z) (hb : Below X.heap.size X X') : AnsB ok X' b a n c k z := by
  rcases h with ⟨h1, h2⟩ | h
  · exact .inl ⟨h1, h2.below hb⟩
  · exact .inr h
theorem Answer.anyB {ok : Bool} {w w' : World} {e : Ending} {z : Int} (h : Answer ok w w' e z) :
    ∃ b a n c k, e = .returned (.tuple #[.agg #[.bool b, .slice a n c], .int .i64 k]) ∧ Hid (AnsB ok w' b a n c k z) ∧ Below w.heap.size w w' := by
  cases ok with
  | true =>
    obtain ⟨b, a, n, c, k, h1, h2, h3⟩ := h.any
    exact ⟨b, a, n, c, k, h1, Lib.hid (.inl ⟨rfl, h2⟩), h3⟩
  | false =>
    obtain ⟨h1, h2⟩ := h.bad
    exact ⟨_, _, _, _, _, h1, Lib.hid (.inr ⟨rfl, rfl, rfl, rfl, rfl, rfl⟩), h2⟩
theorem AnsB.no {X : World} {b : Bool} {a : Option Addr} {n c : Nat} {k z : Int} (h : AnsB false X b a n c k z) : b = false ∧ a = none ∧ n = 0 ∧ c = 0 ∧ k = 1 := by
  rcases h with ⟨h1, _⟩ | ⟨_, h⟩
  · cases h1
  · exact h
theorem AnsB.yes {X : World} {b : Bool} {a : Option Addr} {n c : Nat} {k z : Int} (h : AnsB true X b a n c k z) : Ans X b a n c k z := by
  rcases h with ⟨_, h⟩ | ⟨h1, _⟩
  · exact h
  · cases h1
theorem Ans.long {X : World} {b : Bool} {a : Option Addr} {n c : Nat} {k z : Int} (h : Ans X b a n c k z) (hl : 1024 < (rep z.natAbs).length) : b = false ∧ a = none ∧ n = 0 ∧ c = 0 ∧ k = 2 := by
  rcases h with ⟨h1, _⟩ | ⟨_, h⟩
  · omega
  · exact h

theorem shift_len {x n : Int} (h0 : x ≠ 0) (hn : 32768 < n) : 1024 < (rep (shiftZ x n).natAbs).length := by
  obtain ⟨c, hc⟩ : ∃ c, c = 1024 := ⟨_, rfl⟩
  obtain ⟨m, hm⟩ : ∃ m, m = n.toNat := ⟨_, rfl⟩
  have hm2 : 32 * c ≤ m := by omega
  unfold shiftZ
  rw [if_pos (by omega), ← hm, ← hc]
  refine Classical.byContradiction fun h => ?_
  have h1 := rep_length_le.1 (Nat.le_of_not_lt h)
  rw [Int.natAbs_mul, Int.natAbs_pow, W_two] at h1
  have h2 : 1 * 2 ^ m ≤ x.natAbs * (2 : Int).natAbs ^ m := Nat.mul_le_mul (by omega) (Nat.le_refl _)
  have h3 : 2 ^ (32 * c) ≤ 2 ^ m := Nat.pow_le_pow_right (by decide) hm2
  omega

theorem since_shift {W X : World} {b : Bool} {a : Option Addr} {l : List Nat} {m c : Nat} {n x : Int} (h1 : Came W b a m l) (hx : mayB b l = true → x = signed b (val l)) (hn1 : -9223372036854775808 ≤ n) (hn2 : n ≤ 9223372036854775807) (h : Below W.heap.size W X) :
    Calls Tryz.prog 9 #[.agg #[.bool b, .slice a m c], .int .i64 n] X fun e X' => ∃ sb sa sm sc sk, e = .returned (.tuple #[.agg #[.bool sb, .slice sa sm sc], .int .i64 sk]) ∧ Hid (AnsB (mayB b l) X' sb sa sm sc sk (shiftZ x n)) ∧ Below X.heap.size X X' := by
  have hl := h1.1.below h
  cases hm : mayB b l with
  | false => exact (shift_no X b a l m c n x hl h1.2.1 h1.2.2.1 h1.2.2.2 hm hn1 hn2).mono fun e X' he => (Answer.no he).anyB
  | true =>
    have hx := hx hm
    by_cases h0 : x = 0
    · refine (shift_zero X b a l m c n x hl h1.2.1 h1.2.2.1 h1.2.2.2 hm hx hn1 hn2 h0).mono fun e X' he => ?_
      rw [h0, shiftZ_zero]; exact he.anyB
    · by_cases hlong : 32768 < n
      · refine (shift_long X b a l m c n x hl h1.2.1 h1.2.2.1 h1.2.2.2 hm hx hn1 hn2 h0 hlong).mono fun e X' he => ?_
        exact ⟨_, _, _, _, _, he.1, Lib.hid (.inl ⟨rfl, .inr ⟨shift_len h0 hlong, rfl, rfl, rfl, rfl, rfl⟩⟩), he.2⟩
      · by_cases hn0 : 0 ≤ n
        · exact (shift_up X b a l m c n x hl h1.2.1 h1.2.2.1 h1.2.2.2 hm hx hn1 hn2 h0 hn0 (by omega)).mono fun e X' he => he.anyB
        · by_cases hn3 : -32768 ≤ n
          · exact (shift_down X b a l m c n x hl h1.2.1 h1.2.2.1 h1.2.2.2 hm hx hn1 hn2 h0 (by omega) hn3).mono fun e X' he => he.anyB
          · exact (shift_far X b a l m c n x hl h1.2.1 h1.2.2.1 h1.2.2.2 hm hx hn1 hn2 h0 (by omega)).mono fun e X' he => he.anyB
/-- The reference's, of what is not too long at once. -/
theorem since_rshift (X : World) (v : Value) (x n : Int) (hv : ApiV X v x) (lx : (rep x.natAbs).length ≤ 1024) (hn1 : -9223372036854775808 ≤ n) (hn2 : n ≤ 9223372036854775807) (hl : ¬ (x ≠ 0 ∧ 32768 < n)) :
    Calls Tryz.prog 14 #[v, .int .i64 n] X fun e X' => ShiftRes X X' e x n := by
  by_cases h0 : x = 0
  · exact refshift_zero X v x n hv lx hn1 hn2 h0
  · by_cases hn0 : 0 ≤ n
    · exact refshift_up X v x n hv lx hn1 hn2 h0 hn0 (by omega)
    · by_cases hn3 : -32768 ≤ n
      · exact refshift_down X v x n hv lx hn1 hn2 h0 (by omega) hn3
      · exact refshift_far X v x n hv lx hn1 hn2 h0 (by omega)

theorem since_bits {W X : World} {b1 b2 : Bool} {a1 a2 : Option Addr} {l1 l2 : List Nat} {m1 m2 c1 c2 : Nat} {op x y : Int} (h1 : Came W b1 a1 m1 l1) (h2 : Came W b2 a2 m2 l2) (hx : mayB b1 l1 = true → x = signed b1 (val l1)) (hy : mayB b2 l2 = true → y = signed b2 (val l2)) (h : Below W.heap.size W X) :
    Calls Tryz.prog 10 #[.int .i64 op, .agg #[.bool b1, .slice a1 m1 c1], .agg #[.bool b2, .slice a2 m2 c2]] X fun e X' => ∃ sb sa sm sc sk, e = .returned (.tuple #[.agg #[.bool sb, .slice sa sm sc], .int .i64 sk]) ∧
      Hid (AnsB (mayB b1 l1 && mayB b2 l2 && decide (1 ≤ op) && decide (op ≤ 3)) X' sb sa sm sc sk (bitsZ op.toNat (max m1 m2 + 1) x y)) ∧ Below X.heap.size X X' := by
  have hl1 := h1.1.below h
  have hl2 := h2.1.below h
  by_cases ho1 : op < 1
  · have e1 : (mayB b1 l1 && mayB b2 l2 && decide (1 ≤ op) && decide (op ≤ 3)) = false := by rw [decide_eq_false (show ¬ 1 ≤ op by omega), Bool.and_false, Bool.false_and]
    rw [e1]
    exact (bits_low X op b1 b2 a1 a2 l1 l2 m1 m2 c1 c2 hl1 hl2 h1.2.1 h2.2.1 h1.2.2.1 h2.2.2.1 h1.2.2.2 h2.2.2.2 ho1).mono fun e X' he => (Answer.no he).anyB
  · by_cases ho3 : 3 < op
    · have e1 : (mayB b1 l1 && mayB b2 l2 && decide (1 ≤ op) && decide (op ≤ 3)) = false := by rw [decide_eq_false (show ¬ op ≤ 3 by omega), Bool.and_false]
      rw [e1]
      exact (bits_high X op b1 b2 a1 a2 l1 l2 m1 m2 c1 c2 hl1 hl2 h1.2.1 h2.2.1 h1.2.2.1 h2.2.2.1 h1.2.2.2 h2.2.2.2 ho3).mono fun e X' he => (Answer.no he).anyB
    · rw [decide_eq_true (show 1 ≤ op by omega), decide_eq_true (show op ≤ 3 by omega), Bool.and_true, Bool.and_true]
      cases hok : mayB b1 l1 && mayB b2 l2 with
      | false => exact (bits_no X op b1 b2 a1 a2 l1 l2 m1 m2 c1 c2 hl1 hl2 h1.2.1 h2.2.1 h1.2.2.1 h2.2.2.1 h1.2.2.2 h2.2.2.2 hok (by omega) (by omega)).mono fun e X' he => (Answer.no he).anyB
      | true =>
        obtain ⟨k1, k2⟩ := Bool.and_eq_true_iff.1 hok
        obtain ⟨g, hj⟩ : ∃ g, Joins op op.toNat g := by
          have : op = 1 ∨ op = 2 ∨ op = 3 := by omega
          rcases this with rfl | rfl | rfl
          · exact ⟨_, .inl ⟨rfl, rfl, rfl⟩⟩
          · exact ⟨_, .inr (.inl ⟨rfl, rfl, rfl⟩)⟩
          · exact ⟨_, .inr (.inr ⟨rfl, rfl, rfl⟩)⟩
        exact (bits_yes X op b1 b2 a1 a2 l1 l2 m1 m2 c1 c2 hl1 hl2 h1.2.1 h2.2.1 h1.2.2.1 h2.2.2.1 h1.2.2.2 h2.2.2.2 hok op.toNat g hj x y (hx k1) (hy k2) _ rfl).mono fun e X' he => he.anyB

theorem is_no2 (w : World) : Calls Tryz.prog 13 #[.bool false, .agg #[.bool false, .slice none 0 0], .int .i64 1, .agg #[.bool false, .slice none 0 0]] w fun e w' => e = .returned (.bool true) ∧ Below w.heap.size w w' := is_no w false none 0 0
theorem since_may {W X : World} {b : Bool} {a : Option Addr} {l : List Nat} {n c : Nat} (h1 : Came W b a n l) (h : Below W.heap.size W X) :
    Calls Tryz.prog 12 #[.agg #[.bool b, .slice a n c]] X fun e X' => e = .returned (.bool (mayB b l)) ∧ Below X.heap.size X X' :=
  ref_May X b a l n c (h1.1.below h) h1.2.1 h1.2.2.1 h1.2.2.2

end Go.Proofs.YtbffpkmfhkphdaaGreatDoor

namespace Go.Proofs.YtbffpkmfhkphdaaGreatDoor
open Go Go.RowKit Limb

set_option maxHeartbeats 16000000 in
set_option maxRecDepth 1000000 in
theorem law_bits (w : World) (b1 b2 : Bool) (a1 a2 : Option Addr) (l1 l2 : List Nat) (nx ny c1 c2 : Nat) (n op : Int) (h1 : Came w b1 a1 nx l1) (h2 : Came w b2 a2 ny l2) (hc1 : nx ≤ c1) (hc2 : ny ≤ c2)
    (hn1 : -9223372036854775808 ≤ n) (hn2 : n ≤ 9223372036854775807) (ho1 : -9223372036854775808 ≤ op) (ho2 : op ≤ 9223372036854775807) :
    Calls Tryz.prog 3 #[.agg #[.bool b1, .slice a1 nx c1], .agg #[.bool b2, .slice a2 ny c2], .int .i64 n, .int .i64 op] w fun e w' => e = .returned (.bool true) ∧ Below w.heap.size w w' := by
  obtain ⟨W, hWe, r4, r5, hB, hszW⟩ := rows2 w 24 (.bool b1) (.slice a1 nx c1) (.bool b2) (.slice a2 ny c2)
  have HWe := Lib.hid hWe; clear hWe
  obtain ⟨x, hx⟩ : ∃ x, x = signed b1 (val l1) := ⟨_, rfl⟩
  obtain ⟨y, hy⟩ : ∃ y, y = signed b2 (val l2) := ⟨_, rfl⟩
  have HA1 := Lib.hid (fun (hm : mayB b1 l1 = true) X (h : Below w.heap.size w X) => show ApiV X (.agg #[.bool b1, .slice a1 nx c1]) x from by rw [hx]; exact (h1.api hm hc1).below h)
  have HA2 := Lib.hid (fun (hm : mayB b2 l2 = true) X (h : Below w.heap.size w X) => show ApiV X (.agg #[.bool b2, .slice a2 ny c2]) y from by rw [hy]; exact (h2.api hm hc2).below h)
  have HL1 := Lib.hid (fun (hm : mayB b1 l1 = true) => show (rep x.natAbs).length ≤ 1024 from by rw [hx]; exact h1.len hm)
  have HL2 := Lib.hid (fun (hm : mayB b2 l2 = true) => show (rep y.natAbs).length ≤ 1024 from by rw [hy]; exact h2.len hm)
  have HN1 := Lib.hid (fun (hm : mayB b1 l1 = true) => show nx = (rep x.natAbs).length from by rw [hx]; exact (h1.api hm hc1).parts.2.1)
  have HN2 := Lib.hid (fun (hm : mayB b2 l2 = true) => show ny = (rep y.natAbs).length from by rw [hy]; exact (h2.api hm hc2).parts.2.1)
  have hsh := fun X (h : Below w.heap.size w X) => since_shift (c := c1) (W := w) h1 (fun _ => hx) hn1 hn2 h
  have hbt := fun X (h : Below w.heap.size w X) => since_bits (c1 := c1) (c2 := c2) (op := op) (W := w) h1 h2 (fun _ => hx) (fun _ => hy) h
  have hm1 := fun X (h : Below w.heap.size w X) => since_may (c := c1) (W := w) h1 h
  have hm2 := fun X (h : Below w.heap.size w X) => since_may (c := c2) (W := w) h2 h
  obtain ⟨ma, hma⟩ : ∃ m, m = mayB b1 l1 := ⟨_, rfl⟩
  obtain ⟨mb, hmb⟩ : ∃ m, m = mayB b2 l2 := ⟨_, rfl⟩
  rw [← hma] at hsh hbt hm1 HA1 HL1 HN1
  rw [← hmb] at hbt hm2 HA2 HL2 HN2
  have HSh := Lib.hid hsh
  have HBt := Lib.hid hbt
  have Hm1 := Lib.hid hm1
  have Hm2 := Lib.hid hm2
  clear hsh hbt hm1 hm2 hx hy hma hmb h1 h2 hc1 hc2 hszW
  go_enter Tryz.func3, Tryz.ntmps3
  obtain ⟨kr40, kr41⟩ := r4.cells
  obtain ⟨kr50, kr51⟩ := r5.cells
  go_wp2_with fail
  rw [← HWe.out]
  refine (HSh.out W hB).mono ?_
  rintro e V ⟨sb, sa, sm, sc, sk, rfl, hs, hb⟩
  replace r4 := r4.below hb r4.lt
  replace r5 := r5.below hb r5.lt
  replace hB := hB.trans (hb.mono hB.size)
  clear kr40 kr41 kr50 kr51
  obtain ⟨kr40, kr41⟩ := r4.cells
  obtain ⟨kr50, kr51⟩ := r5.cells
  obtain ⟨V1, hV1, r9, hbV1, hzV1⟩ := rows1 V 24 (.bool sb) (.slice sa sm sc)
  replace r4 := r4.below hbV1 r4.lt
  replace r5 := r5.below hbV1 r5.lt
  replace hB := hB.trans (hbV1.mono hB.size)
  clear kr40 kr41 kr50 kr51
  obtain ⟨kr40, kr41⟩ := r4.cells
  obtain ⟨kr50, kr51⟩ := r5.cells
  obtain ⟨kr90, kr91⟩ := r9.cells
  rw [hV1] at kr40 kr41 kr50 kr51 kr90 kr91
  have HV1 := Lib.hid hV1; clear hV1
  replace hs := Lib.hid (hs.out.below hbV1)
  go_wp2_with fail
  rw [← HV1.out]
  refine (HBt.out V1 hB).mono ?_
  rintro e V2 ⟨cb, ca, cm, cc, ck, rfl, hc, hb⟩
  replace r4 := r4.below hb r4.lt
  replace r5 := r5.below hb r5.lt
  replace r9 := r9.below hb r9.lt
  replace hB := hB.trans (hb.mono hB.size)
  clear kr40 kr41 kr50 kr51 kr90 kr91
  obtain ⟨kr40, kr41⟩ := r4.cells
  obtain ⟨kr50, kr51⟩ := r5.cells
  obtain ⟨kr90, kr91⟩ := r9.cells
  replace hs := Lib.hid (hs.out.below hb)
  obtain ⟨V3, hV3, r11, hbV3, hzV3⟩ := rows1 V2 24 (.bool cb) (.slice ca cm cc)
  replace r4 := r4.below hbV3 r4.lt
  replace r5 := r5.below hbV3 r5.lt
  replace r9 := r9.below hbV3 r9.lt
  replace hB := hB.trans (hbV3.mono hB.size)
  clear kr40 kr41 kr50 kr51 kr90 kr91
  obtain ⟨kr40, kr41⟩ := r4.cells
  obtain ⟨kr50, kr51⟩ := r5.cells
  obtain ⟨kr90, kr91⟩ := r9.cells
  obtain ⟨kr110, kr111⟩ := r11.cells
  rw [hV3] at kr40 kr41 kr50 kr51 kr90 kr91 kr110 kr111
  have HV3 := Lib.hid hV3; clear hV3
  replace hs := Lib.hid (hs.out.below hbV3)
  replace hc := Lib.hid (hc.out.below hbV3)
  go_wp2_with fail
  rw [← HV3.out]
  refine (law_awake V3).mono ?_
  rintro e V4 ⟨rfl, hb⟩
  replace r4 := r4.below hb r4.lt
  replace r5 := r5.below hb r5.lt
  replace r9 := r9.below hb r9.lt
  replace r11 := r11.below hb r11.lt
  replace hB := hB.trans (hb.mono hB.size)
  clear kr40 kr41 kr50 kr51 kr90 kr91 kr110 kr111
  obtain ⟨kr40, kr41⟩ := r4.cells
  obtain ⟨kr50, kr51⟩ := r5.cells
  obtain ⟨kr90, kr91⟩ := r9.cells
  obtain ⟨kr110, kr111⟩ := r11.cells
  replace hs := Lib.hid (hs.out.below hb)
  replace hc := Lib.hid (hc.out.below hb)
  go_wp2_with fail
  refine (Hm1.out V4 hB).mono ?_
  rintro e U ⟨rfl, hb⟩
  replace r4 := r4.below hb r4.lt
  replace r5 := r5.below hb r5.lt
  replace r9 := r9.below hb r9.lt
  replace r11 := r11.below hb r11.lt
  replace hB := hB.trans (hb.mono hB.size)
  clear kr40 kr41 kr50 kr51 kr90 kr91 kr110 kr111
  obtain ⟨kr40, kr41⟩ := r4.cells
  obtain ⟨kr50, kr51⟩ := r5.cells
  obtain ⟨kr90, kr91⟩ := r9.cells
  obtain ⟨kr110, kr111⟩ := r11.cells
  replace hs := Lib.hid (hs.out.below hb)
  replace hc := Lib.hid (hc.out.below hb)
  clear hb hbV1 hbV3 hzV1 hzV3
  go_upto_if 32 with fail
  go_cut [] (fun wx => Below U.heap.size U wx)
  case first =>
    have hU : Below U.heap.size U U := Below.refl _ _
    clear hc Hm1 Hm2 HBt HSh r11 kr110 kr111
    cases ma with
    | false =>
      obtain ⟨rfl, rfl, rfl, rfl, rfl⟩ := hs.out.no
      clear hs
      go_wp2_with fail
      refine (is_no2 U).mono ?_
      rintro e Y ⟨rfl, hb⟩
      replace r4 := r4.below hb r4.lt
      replace r5 := r5.below hb r5.lt
      replace r9 := r9.below hb r9.lt
      replace hB := hB.trans (hb.mono hB.size)
      clear kr40 kr41 kr50 kr51 kr90 kr91
      obtain ⟨kr40, kr41⟩ := r4.cells
      obtain ⟨kr50, kr51⟩ := r5.cells
      obtain ⟨kr90, kr91⟩ := r9.cells
      replace hU := hU.trans (hb.mono hU.size)
      go_wp2_with fail
      go_meet
      exact hU
    | true =>
      have hA := hs.out.yes
      by_cases hl : x ≠ 0 ∧ 32768 < n
      · obtain ⟨rfl, rfl, rfl, rfl, rfl⟩ := hA.long (shift_len hl.1 hl.2)
        have hrs := fun X (h : Below w.heap.size w X) => refshift_long X _ x n (HA1.out (by trivial) X h) (HL1.out (by trivial)) hn1 hn2 hl.1 hl.2
        have HRs := Lib.hid hrs
        clear hrs hl hA hs
        go_wp2_with fail
        refine (HRs.out U hB).mono ?_
        rintro e Y ⟨wb, wa, wm, wc', rfl, hb⟩
        replace r4 := r4.below hb r4.lt
        replace r5 := r5.below hb r5.lt
        replace r9 := r9.below hb r9.lt
        replace hB := hB.trans (hb.mono hB.size)
        clear kr40 kr41 kr50 kr51 kr90 kr91
        obtain ⟨kr40, kr41⟩ := r4.cells
        obtain ⟨kr50, kr51⟩ := r5.cells
        obtain ⟨kr90, kr91⟩ := r9.cells
        replace hU := hU.trans (hb.mono hU.size)
        obtain ⟨Y1, hY1, r13, hbY1, hzY1⟩ := rows1 Y 24 (.bool wb) (.slice wa wm wc')
        replace r4 := r4.below hbY1 r4.lt
        replace r5 := r5.below hbY1 r5.lt
        replace r9 := r9.below hbY1 r9.lt
        replace hB := hB.trans (hbY1.mono hB.size)
        clear kr40 kr41 kr50 kr51 kr90 kr91
        obtain ⟨kr40, kr41⟩ := r4.cells
        obtain ⟨kr50, kr51⟩ := r5.cells
        obtain ⟨kr90, kr91⟩ := r9.cells
        obtain ⟨kr130, kr131⟩ := r13.cells
        rw [hY1] at kr40 kr41 kr50 kr51 kr90 kr91 kr130 kr131
        have HY1 := Lib.hid hY1; clear hY1
        replace hU := hU.trans (hbY1.mono hU.size)
        go_wp2_with fail
        rw [← HY1.out]
        refine (same_nil Y1).mono ?_
        rintro e Y2 ⟨rfl, hb⟩
        replace r4 := r4.below hb r4.lt
        replace r5 := r5.below hb r5.lt
        replace r9 := r9.below hb r9.lt
        replace r13 := r13.below hb r13.lt
        replace hB := hB.trans (hb.mono hB.size)
        clear kr40 kr41 kr50 kr51 kr90 kr91 kr130 kr131
        obtain ⟨kr40, kr41⟩ := r4.cells
        obtain ⟨kr50, kr51⟩ := r5.cells
        obtain ⟨kr90, kr91⟩ := r9.cells
        obtain ⟨kr130, kr131⟩ := r13.cells
        replace hU := hU.trans (hb.mono hU.size)
        go_wp2_with fail
        go_meet
        exact hU
      · have hrs := fun X (h : Below w.heap.size w X) => since_rshift X _ x n (HA1.out (by trivial) X h) (HL1.out (by trivial)) hn1 hn2 hl
        have HRs := Lib.hid hrs
        have HA := Lib.hid hA
        clear hrs hl hA hs
        go_wp2_with fail
        refine (HRs.out U hB).mono ?_
        rintro e Y ⟨wb, wa, wm, wc', rfl, hw, hb⟩
        replace r4 := r4.below hb r4.lt
        replace r5 := r5.below hb r5.lt
        replace r9 := r9.below hb r9.lt
        replace hB := hB.trans (hb.mono hB.size)
        clear kr40 kr41 kr50 kr51 kr90 kr91
        obtain ⟨kr40, kr41⟩ := r4.cells
        obtain ⟨kr50, kr51⟩ := r5.cells
        obtain ⟨kr90, kr91⟩ := r9.cells
        replace hU := hU.trans (hb.mono hU.size)
        replace HA := Lib.hid (HA.out.below hb)
        have HW := Lib.hid hw
        clear hw
        obtain ⟨Y1, hY1, r13, hbY1, hzY1⟩ := rows1 Y 24 (.bool wb) (.slice wa wm wc')
        replace r4 := r4.below hbY1 r4.lt
        replace r5 := r5.below hbY1 r5.lt
        replace r9 := r9.below hbY1 r9.lt
        replace hB := hB.trans (hbY1.mono hB.size)
        clear kr40 kr41 kr50 kr51 kr90 kr91
        obtain ⟨kr40, kr41⟩ := r4.cells
        obtain ⟨kr50, kr51⟩ := r5.cells
        obtain ⟨kr90, kr91⟩ := r9.cells
        obtain ⟨kr130, kr131⟩ := r13.cells
        rw [hY1] at kr40 kr41 kr50 kr51 kr90 kr91 kr130 kr131
        have HY1 := Lib.hid hY1; clear hY1
        replace HA := Lib.hid (HA.out.below hbY1)
        replace HW := Lib.hid (HW.out.below hbY1)
        replace hU := hU.trans (hbY1.mono hU.size)
        go_wp2_with fail
        rw [← HY1.out]
        refine (is_any Y1 sb wb sa wa sm sc wm wc' sk (shiftZ x n) HA.out HW.out).mono ?_
        rintro e Y2 ⟨rfl, hb⟩
        replace r4 := r4.below hb r4.lt
        replace r5 := r5.below hb r5.lt
        replace r9 := r9.below hb r9.lt
        replace r13 := r13.below hb r13.lt
        replace hB := hB.trans (hb.mono hB.size)
        clear kr40 kr41 kr50 kr51 kr90 kr91 kr130 kr131
        obtain ⟨kr40, kr41⟩ := r4.cells
        obtain ⟨kr50, kr51⟩ := r5.cells
        obtain ⟨kr90, kr91⟩ := r9.cells
        obtain ⟨kr130, kr131⟩ := r13.cells
        replace hU := hU.trans (hb.mono hU.size)
        go_wp2_with fail
        go_meet
        exact hU
  case rest =>
    replace hc := Lib.hid (hc.out.below hcut)
    clear hs HSh r9
    replace r4 := r4.below hcut r4.lt
    replace r5 := r5.below hcut r5.lt
    replace r11 := r11.below hcut r11.lt
    replace hB := hB.trans (hcut.mono hB.size)
    clear kr40 kr41 kr50 kr51 kr110 kr111
    obtain ⟨kr40, kr41⟩ := r4.cells
    obtain ⟨kr50, kr51⟩ := r5.cells
    obtain ⟨kr110, kr111⟩ := r11.cells
    cases ma with
    | false =>
      obtain ⟨rfl, rfl, rfl, rfl, rfl⟩ := AnsB.no (z := bitsZ op.toNat (max nx ny + 1) x y) (by have h := hc.out; rwa [Bool.false_and, Bool.false_and, Bool.false_and] at h)
      clear hc
      go_wp2_with fail
      refine (Hm1.out wc hB).mono ?_
      rintro e Z1 ⟨rfl, hb⟩
      replace r4 := r4.below hb r4.lt
      replace r5 := r5.below hb r5.lt
      replace r11 := r11.below hb r11.lt
      replace hB := hB.trans (hb.mono hB.size)
      clear kr40 kr41 kr50 kr51 kr110 kr111
      obtain ⟨kr40, kr41⟩ := r4.cells
      obtain ⟨kr50, kr51⟩ := r5.cells
      obtain ⟨kr110, kr111⟩ := r11.cells
      go_wp2_with fail
      refine (is_no2 Z1).mono ?_
      rintro e Z9 ⟨rfl, hb⟩
      replace r4 := r4.below hb r4.lt
      replace r5 := r5.below hb r5.lt
      replace r11 := r11.below hb r11.lt
      replace hB := hB.trans (hb.mono hB.size)
      clear kr40 kr41 kr50 kr51 kr110 kr111
      obtain ⟨kr40, kr41⟩ := r4.cells
      obtain ⟨kr50, kr51⟩ := r5.cells
      obtain ⟨kr110, kr111⟩ := r11.cells
      go_wp2_with fail
      go_ret
      exact ⟨rfl, hB⟩
    | true =>
      go_wp2_with fail
      refine (Hm1.out wc hB).mono ?_
      rintro e Z1 ⟨rfl, hb⟩
      replace r4 := r4.below hb r4.lt
      replace r5 := r5.below hb r5.lt
      replace r11 := r11.below hb r11.lt
      replace hB := hB.trans (hb.mono hB.size)
      clear kr40 kr41 kr50 kr51 kr110 kr111
      obtain ⟨kr40, kr41⟩ := r4.cells
      obtain ⟨kr50, kr51⟩ := r5.cells
      obtain ⟨kr110, kr111⟩ := r11.cells
      replace hc := Lib.hid (hc.out.below hb)
      clear hb
      cases mb with
      | false =>
        obtain ⟨rfl, rfl, rfl, rfl, rfl⟩ := AnsB.no (z := bitsZ op.toNat (max nx ny + 1) x y) (by have h := hc.out; rwa [Bool.and_false, Bool.false_and, Bool.false_and] at h)
        clear hc
        go_wp2_with fail
        refine (Hm2.out Z1 hB).mono ?_
        rintro e Z2 ⟨rfl, hb⟩
        replace r4 := r4.below hb r4.lt
        replace r5 := r5.below hb r5.lt
        replace r11 := r11.below hb r11.lt
        replace hB := hB.trans (hb.mono hB.size)
        clear kr40 kr41 kr50 kr51 kr110 kr111
        obtain ⟨kr40, kr41⟩ := r4.cells
        obtain ⟨kr50, kr51⟩ := r5.cells
        obtain ⟨kr110, kr111⟩ := r11.cells
        go_wp2_with fail
        refine (is_no2 Z2).mono ?_
        rintro e Z9 ⟨rfl, hb⟩
        replace r4 := r4.below hb r4.lt
        replace r5 := r5.below hb r5.lt
        replace r11 := r11.below hb r11.lt
        replace hB := hB.trans (hb.mono hB.size)
        clear kr40 kr41 kr50 kr51 kr110 kr111
        obtain ⟨kr40, kr41⟩ := r4.cells
        obtain ⟨kr50, kr51⟩ := r5.cells
        obtain ⟨kr110, kr111⟩ := r11.cells
        go_wp2_with fail
        go_ret
        exact ⟨rfl, hB⟩
      | true =>
        go_wp2_with fail
        refine (Hm2.out Z1 hB).mono ?_
        rintro e Z2 ⟨rfl, hb⟩
        replace r4 := r4.below hb r4.lt
        replace r5 := r5.below hb r5.lt
        replace r11 := r11.below hb r11.lt
        replace hB := hB.trans (hb.mono hB.size)
        clear kr40 kr41 kr50 kr51 kr110 kr111
        obtain ⟨kr40, kr41⟩ := r4.cells
        obtain ⟨kr50, kr51⟩ := r5.cells
        obtain ⟨kr110, kr111⟩ := r11.cells
        replace hc := Lib.hid (hc.out.below hb)
        clear hb
        by_cases hlo : op < 1
        · obtain ⟨rfl, rfl, rfl, rfl, rfl⟩ := AnsB.no (z := bitsZ op.toNat (max nx ny + 1) x y) (by have h := hc.out; rwa [decide_eq_false (show ¬ 1 ≤ op by omega), Bool.and_false, Bool.false_and] at h)
          have d1 : decide (op < 1) = true := decide_eq_true hlo
          clear hc
          go_wp2_with fail
          refine (is_no2 Z2).mono ?_
          rintro e Z9 ⟨rfl, hb⟩
          replace r4 := r4.below hb r4.lt
          replace r5 := r5.below hb r5.lt
          replace r11 := r11.below hb r11.lt
          replace hB := hB.trans (hb.mono hB.size)
          clear kr40 kr41 kr50 kr51 kr110 kr111
          obtain ⟨kr40, kr41⟩ := r4.cells
          obtain ⟨kr50, kr51⟩ := r5.cells
          obtain ⟨kr110, kr111⟩ := r11.cells
          go_wp2_with fail
          go_ret
          exact ⟨rfl, hB⟩
        · have d1 : decide (op < 1) = false := decide_eq_false hlo
          by_cases hhi : 3 < op
          · obtain ⟨rfl, rfl, rfl, rfl, rfl⟩ := AnsB.no (z := bitsZ op.toNat (max nx ny + 1) x y) (by have h := hc.out; rwa [decide_eq_false (show ¬ op ≤ 3 by omega), Bool.and_false] at h)
            have d3 : decide (3 < op) = true := decide_eq_true hhi
            clear hc
            go_wp2_with fail
            refine (is_no2 Z2).mono ?_
            rintro e Z9 ⟨rfl, hb⟩
            replace r4 := r4.below hb r4.lt
            replace r5 := r5.below hb r5.lt
            replace r11 := r11.below hb r11.lt
            replace hB := hB.trans (hb.mono hB.size)
            clear kr40 kr41 kr50 kr51 kr110 kr111
            obtain ⟨kr40, kr41⟩ := r4.cells
            obtain ⟨kr50, kr51⟩ := r5.cells
            obtain ⟨kr110, kr111⟩ := r11.cells
            go_wp2_with fail
            go_ret
            exact ⟨rfl, hB⟩
          · have d3 : decide (3 < op) = false := decide_eq_false hhi
            have hA := AnsB.yes (z := bitsZ op.toNat (max nx ny + 1) x y) (by have h := hc.out; rwa [decide_eq_true (show 1 ≤ op by omega), decide_eq_true (show op ≤ 3 by omega)] at h)
            have HA := Lib.hid (fun X (h : Below Z2.heap.size Z2 X) => hA.below h)
            have HR4 := Lib.hid (fun X (h : Below Z2.heap.size Z2 X) => (r4.below h r4.lt).cells)
            have HR5 := Lib.hid (fun X (h : Below Z2.heap.size Z2 X) => (r5.below h r5.lt).cells)
            have HR11 := Lib.hid (fun X (h : Below Z2.heap.size Z2 X) => (r11.below h r11.lt).cells)
            have HB := Lib.hid (fun X (h : Below Z2.heap.size Z2 X) => hB.trans (h.mono hB.size))
            obtain ⟨k, hk⟩ : ∃ k : Nat, op = (k : Int) := ⟨op.toNat, by omega⟩
            subst hk
            have hk3 : k = 1 ∨ k = 2 ∨ k = 3 := by omega
            have HRb := Lib.hid (fun X (h : Below w.heap.size w X) => ref_bits X k hk3 _ _ x y (HA1.out (by trivial) X h) (HA2.out (by trivial) X h) (HL1.out (by trivial)) (HL2.out (by trivial)) (max nx ny + 1) (by rw [HN1.out (by trivial), HN2.out (by trivial)]))
            rw [Int.toNat_natCast] at HA
            go_upto_region 16 with fail
            clear r4 r5 r11 hc hA hlo hhi d1 d3 hcut hk3 kr40 kr41 kr50 kr51 kr110 kr111
            have hX : Below Z2.heap.size Z2 Z2.drew := (Below.refl _ _).drew
            refine wp_region_held (S := fun X => Below Z2.heap.size Z2 X) (by kernel_rfl) ?_
            refine wpAnyH_take_at (i := 0) (v := .agg #[.bool cb, .slice ca cm cc]) 79 rfl rfl (by kernel_rfl) (by kernel_rfl) (by kernel_rfl) (fun _ _ _ h => h) (.inl ⟨rfl, fun X hX => by obtain ⟨i0, i1⟩ := HR11.out X hX; go_simp⟩) hX ?_
            simp only [Act.put, List.setIfInBounds_toArray, List.set_cons_zero, List.set_cons_succ]
            refine wpAnyH_take_at (i := 1) (v := .int .i64 ck) 80 rfl rfl (by kernel_rfl) (by kernel_rfl) (by kernel_rfl) (fun _ _ _ h => h) (.inl ⟨rfl, fun X hX => by go_simp⟩) hX ?_
            simp only [Act.put, List.setIfInBounds_toArray, List.set_cons_zero, List.set_cons_succ]
            refine wpAnyH_take_at (i := 2) (v := .int .i64 (k : Nat)) 81 rfl rfl (by kernel_rfl) (by kernel_rfl) (by kernel_rfl) (fun _ _ _ h => h) (.inl ⟨rfl, fun X hX => by go_simp⟩) hX ?_
            simp only [Act.put, List.setIfInBounds_toArray, List.set_cons_zero, List.set_cons_succ]
            refine wpAnyH_take_at (i := 3) (v := .agg #[.bool b1, .slice a1 nx c1]) 82 rfl rfl (by kernel_rfl) (by kernel_rfl) (by kernel_rfl) (fun _ _ _ h => h) (.inl ⟨rfl, fun X hX => by obtain ⟨i0, i1⟩ := HR4.out X hX; go_simp⟩) hX ?_
            simp only [Act.put, List.setIfInBounds_toArray, List.set_cons_zero, List.set_cons_succ]
            refine wpAnyH_take_at (i := 4) (v := .agg #[.bool b2, .slice a2 ny c2]) 83 rfl rfl (by kernel_rfl) (by kernel_rfl) (by kernel_rfl) (fun _ _ _ h => h) (.inl ⟨rfl, fun X hX => by obtain ⟨i0, i1⟩ := HR5.out X hX; go_simp⟩) hX ?_
            simp only [Act.put, List.setIfInBounds_toArray, List.set_cons_zero, List.set_cons_succ]
            refine wpAnyH_all (rs := [5]) (by kernel_rfl) (by decide) (fun i hi => ?_)
            rw [List.mem_singleton] at hi
            subst hi
            unfold wpOp
            go_simp
            refine .inl ((HRb.out _ (HB.out _ hX)).mono ?_)
            rintro e X1 ⟨u84, rfl, hu, hb⟩
            replace hX := hX.trans (hb.mono hX.size)
            clear hb
            obtain ⟨wb, wa, wm, wc', rfl, -⟩ := id hu.open
            refine ⟨hX, ?_⟩
            refine wpAnyH_all (rs := [6]) (by kernel_rfl) (by decide) (fun i hi => ?_)
            rw [List.mem_singleton] at hi
            subst hi
            unfold wpOp
            go_simp
            refine .inl ((is_any _ cb wb ca wa cm cc wm wc' ck _ (HA.out _ hX) hu).mono ?_)
            rintro e X2 ⟨rfl, hb⟩
            replace hX := hX.trans (hb.mono hX.size)
            clear hb
            refine ⟨hX, ?_⟩
            refine wpAnyH_take_at (i := 7) (v := .bool true) 8 rfl rfl (by kernel_rfl) (by kernel_rfl) (by kernel_rfl) (fun _ _ _ h => h) (.inl ⟨rfl, fun X hX => by go_simp⟩) hX ?_
            simp only [Act.put, List.setIfInBounds_toArray, List.set_cons_zero, List.set_cons_succ]
            refine wpAnyH_done (by kernel_rfl) ?_ _
            have hfin := HB.out _ hX
            clear hX
            go_wp2_with fail
            go_ret
            exact ⟨rfl, hfin⟩

end Go.Proofs.YtbffpkmfhkphdaaGreatDoor
