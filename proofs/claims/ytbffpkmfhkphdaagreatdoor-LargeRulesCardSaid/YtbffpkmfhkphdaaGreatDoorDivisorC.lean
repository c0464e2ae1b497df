/- The walk of big.divisor: the greatest common divisor. -/
import Derived.Test.YtbffpkmfhkphdaaGreatDoorGX31
import Derived.Test.YtbffpkmfhkphdaaGreatDoorStepsC
import Derived.Test.YtbffpkmfhkphdaaGreatDoorGX08
import Derived.Test.YtbffpkmfhkphdaaGreatDoorGX26
import Derived.Deep.DeepCutAuto
set_option linter.unusedVariables false
set_option linter.unusedSimpArgs false
namespace Go.Proofs.YtbffpkmfhkphdaaGreatDoor
open Go Go.RowKit Limb

/-- A number at a slice. -/
def Num (X : World) (z : Nat) (a : Option Addr) (n c : Nat) : Prop := n = (rep z).length ∧ n ≤ c ∧ Lay .u32 X a (rep z)
theorem Num.below {X X' : World} {z : Nat} {a : Option Addr} {n c : Nat} (h : Num X z a n c) (hb : Below X.heap.size X X') : Num X' z a n c := ⟨h.1, h.2.1, h.2.2.below hb⟩
theorem Num.drewN {X : World} {z : Nat} {a : Option Addr} {n c : Nat} (h : Num X z a n c) (k : Nat) : Num (X.drewN k) z a n c := ⟨h.1, h.2.1, h.2.2.drewN k⟩
/-- The two numbers that have the divisor G. -/
def Two (X : World) (G : Nat) (xv yv : Value) : Prop := ∃ x y ax nx cx ay ny cy, xv = .slice ax nx cx ∧ yv = .slice ay ny cy ∧ Hid (Num X x ax nx cx) ∧ Hid (Num X y ay ny cy) ∧ nx ≤ 1048576 ∧ ny ≤ 1048576 ∧ Hid (Nat.gcd x y = G) ∧ Hid (y ≤ x)
/-- None of them is longer than two words, or the second is 0. -/
def Last (X : World) (G : Nat) (xv yv : Value) : Prop := ∃ x y ax nx cx ay ny cy, xv = .slice ax nx cx ∧ yv = .slice ay ny cy ∧ Hid (Num X x ax nx cx) ∧ Hid (Num X y ay ny cy) ∧ (ny = 0 ∨ (nx ≤ 2 ∧ ny ≤ 2)) ∧ nx ≤ 1048576 ∧ Hid (Nat.gcd x y = G)

theorem top_of {x L f : Nat} (hx : x < 2 ^ L) (hf : L ≤ f + 64) : x / 2 ^ f % 18446744073709551616 = x / 2 ^ f ∧ x / 2 ^ f < 18446744073709551616 := by
  have h : x / 2 ^ f < 18446744073709551616 := by
    refine (Nat.div_lt_iff_lt_mul (Nat.pow_pos (by decide))).2 ?_
    refine Nat.lt_of_lt_of_le hx ?_
    rw [show (18446744073709551616 : Nat) = 2 ^ 64 by decide, ← Nat.pow_add]
    exact Nat.pow_le_pow_right (by decide) (by omega)
  exact ⟨Nat.mod_eq_of_lt h, h⟩
theorem len_two {x n : Nat} (hn : n = (rep x).length) (h : n ≤ 2) : x < 18446744073709551616 := by
  have h1 := rep_length_le.1 (show (rep x).length ≤ 2 by omega)
  rw [W_two] at h1
  exact h1
theorem len_three {x n : Nat} (hn : n = (rep x).length) (h : 2 < n) : 18446744073709551616 ≤ x := by
  refine Classical.byContradiction fun hx => ?_
  have h1 : (rep x).length ≤ 2 := rep_length_le.2 (by rw [W_two]; show x < 18446744073709551616; omega)
  omega
theorem len_nought {x : Nat} (h : 0 = (rep x).length) : x = 0 := by
  have := val_rep x
  rw [List.eq_nil_of_length_eq_zero h.symm] at this
  exact this.symm
theorem len_some {x n : Nat} (hn : n = (rep x).length) (h : 0 < n) : 0 < x := by
  rcases Nat.eq_zero_or_pos x with h0 | h0
  · rw [h0] at hn; rw [hn] at h; exact absurd h (by decide)
  · exact h0

theorem lin_made {x y f xx yy A B C D u v : Nat} {odd : Bool} (h : Lin (x / 2 ^ f) (y / 2 ^ f) xx yy A B C D u v odd) (hB : B ≠ 0) : ∃ X' Y', Made x y A B C D X' Y' odd := by
  have hp : 0 < 2 ^ f := Nat.pow_pos (by decide)
  exact h.made hB (Nat.mod_lt x hp) (Nat.mod_lt y hp) (by rw [Nat.mul_comm]; exact (Nat.div_add_mod x _).symm) (by rw [Nat.mul_comm]; exact (Nat.div_add_mod y _).symm)
/-- (coming).after, whichever way. -/
theorem big_after (w : World) (A B C D X Y X' Y' : Nat) (odd : Bool) (ax ay : Option Addr) (nx ny cx cy : Nat) (hx : Num w X ax nx cx) (hy : Num w Y ay ny cy) (lx : nx ≤ 1048576) (ly : ny ≤ 1048576)
    (lA : A < 4294967296) (lB : B < 4294967296) (lC : C < 4294967296) (lD : D < 4294967296) (h : Made X Y A B C D X' Y' odd) :
    Calls Tryz.prog 246 #[.agg #[.int .u64 (A : Nat), .int .u64 (B : Nat), .int .u64 (C : Nat), .int .u64 (D : Nat), .bool odd], .slice ax nx cx, .slice ay ny cy] w fun e w' => ∃ a1 s1 d1 a2 s2 d2, e = .returned (.tuple #[.slice a1 s1 d1, .slice a2 s2 d2]) ∧
      Hid (Num w' X' a1 s1 d1) ∧ Hid (Num w' Y' a2 s2 d2) ∧ Below w.heap.size w w' := by
  cases odd with
  | true => exact after_odd w A B C D X Y X' Y' ax ay nx ny cx cy hx.2.2 hy.2.2 hx.1 hy.1 (by omega) (by omega) lA lB lC lD (by rw [Nat.mul_comm Y, Nat.mul_comm X]; exact h.oX rfl) (by rw [Nat.mul_comm Y, Nat.mul_comm X]; exact h.oY rfl)
  | false => exact after_even w A B C D X Y X' Y' ax ay nx ny cx cy hx.2.2 hy.2.2 hx.1 hy.1 (by omega) (by omega) lA lB lC lD (by rw [Nat.mul_comm Y, Nat.mul_comm X]; exact h.eX rfl) (by rw [Nat.mul_comm Y, Nat.mul_comm X]; exact h.eY rfl)
/-- big.quotient's remainder. -/
theorem quo_num (w : World) (x y : Nat) (ax ay : Option Addr) (nx ny cx cy : Nat) (hx : Num w x ax nx cx) (hy : Num w y ay ny cy) (lx : nx ≤ 1048576) (ly : ny ≤ 1048576) (h0 : 0 < y) :
    Calls Tryz.prog 162 #[.slice ax nx cx, .slice ay ny cy] w fun e w' => ∃ a1 s1 d1 a2 s2 d2, e = .returned (.tuple #[.slice a1 s1 d1, .slice a2 s2 d2]) ∧ Hid (Num w' (x % y) a2 s2 d2) ∧ Below w.heap.size w w' := by
  refine (big_quotient' w ax ay x y nx ny cx cy hx.2.2 hy.2.2 hx.1 hy.1 (by omega) (by omega) hx.2.1 h0).mono ?_
  rintro e w4 ⟨aq, cq, sq, ar, cr, sr, rfl, hsq, hsr, hcq, hcr, hlq, hlr, hb4⟩
  exact ⟨aq, sq, cq, ar, sr, cr, rfl, Lib.hid ⟨hsr, hcr, hlr⟩, hb4⟩

set_option maxHeartbeats 6400000 in
set_option maxRecDepth 1000000 in
theorem big_divisor (w : World) (a b : Option Addr) (X Y n m ca cb : Nat) (ha : Num w X a n ca) (hb : Num w Y b m cb) (ln : n ≤ 1048576) (lm : m ≤ 1048576) :
    Calls Tryz.prog 165 #[.slice a n ca, .slice b m cb] w fun e w' => ∃ a' s c', e = .returned (.slice a' s c') ∧ Hid (Num w' (Nat.gcd X Y) a' s c') ∧ Below w.heap.size w w' := by
  obtain ⟨G, hG⟩ : ∃ G, G = Nat.gcd X Y := ⟨_, rfl⟩
  rw [← hG]
  have Ha := Lib.hid ha
  have Hb := Lib.hid hb
  have HG := Lib.hid hG
  have hcmp := big_compare w a b (rep X) (rep Y) n m ca cb ha.2.2 hb.2.2 (rep_lim _) (rep_lim _) (rep_norm _) (rep_norm _) ha.1 hb.1 (by omega) (by omega)
  rw [val_rep, val_rep] at hcmp
  have HC := Lib.hid hcmp
  clear ha hb hG hcmp
  go_enter Tryz.func165, Tryz.ntmps165
  go_wp2_with fail
  refine HC.out.mono ?_
  rintro e w1 ⟨rfl, dr, rfl⟩
  have hB0 : Below w.heap.size w (w.drewN dr) := below_drewN (Below.refl _ _) dr
  obtain ⟨V, hV⟩ : ∃ V, V = w.drewN dr := ⟨_, rfl⟩
  have Ha2 : Hid (Num V X a n ca) := Lib.hid (by rw [hV]; exact Ha.out.drewN dr)
  have Hb2 : Hid (Num V Y b m cb) := Lib.hid (by rw [hV]; exact Hb.out.drewN dr)
  rw [← hV] at hB0 ⊢
  clear hV Ha Hb HC
  go_upto_if 16 with fail
  go_cut [0, 1] (fun s0 s1 wx => Two wx G s0 s1 ∧ Below w.heap.size w wx)
  case first =>
    by_cases hlt : X < Y
    · have cv := order_lt hlt
      obtain ⟨v, hv⟩ : ∃ v, v = cmpI X Y := ⟨_, rfl⟩
      rw [← hv] at cv ⊢
      have HT := Lib.hid (show Two V G (.slice b m cb) (.slice a n ca) from ⟨Y, X, b, m, cb, a, n, ca, rfl, rfl, Lib.hid Hb2.out, Lib.hid Ha2.out, lm, ln, Lib.hid (by rw [HG.out, Nat.gcd_comm]), Lib.hid (by omega)⟩)
      clear hv hlt
      go_wp2_with fail
      go_meet
      exact ⟨HT.out, hB0⟩
    · have cv := order_ge (show Y ≤ X by omega)
      obtain ⟨v, hv⟩ : ∃ v, v = cmpI X Y := ⟨_, rfl⟩
      rw [← hv] at cv ⊢
      have HT := Lib.hid (show Two V G (.slice a n ca) (.slice b m cb) from ⟨X, Y, a, n, ca, b, m, cb, rfl, rfl, Lib.hid Ha2.out, Lib.hid Hb2.out, ln, lm, Lib.hid HG.out.symm, Lib.hid (by omega)⟩)
      clear hv hlt
      go_wp2_with fail
      go_meet
      exact ⟨HT.out, hB0⟩
  case rest =>
  obtain ⟨hT, hB⟩ := hcut
  clear Ha2 Hb2 HG hB0 ln lm
  go_wp2_with fail
  go_loopw [0, 1] (fun xv yv wr => Two wr G xv yv ∧ Below w.heap.size w wr) (fun xv yv wr => numAt wr xv + numAt wr yv)
  case atStart => exact ⟨hT, hB⟩
  case round =>
    clear hT hB
    obtain ⟨⟨x, y, ax, nx, cx, ay, ny, cy, rfl, rfl, Hx, Hy, lx, ly, Hg, Hle⟩, hB⟩ := hrel
    have Hmx := Lib.hid (numAt_eq (c := cx) Hx.out.2.2 Hx.out.1)
    have Hmy := Lib.hid (numAt_eq (c := cy) Hy.out.2.2 Hy.out.1)
    by_cases h2 : 2 < ny
    · have d2 : decide ((2 : Int) < (ny : Int)) = true := by rw [decide_eq_true_eq]; omega
      have Hy3 := Lib.hid (len_three Hy.out.1 h2)
      obtain ⟨L, hL⟩ : ∃ L, L = bitsN x := ⟨_, rfl⟩
      have hLx : x < 2 ^ L := by rw [hL]; exact (bitsN_spec x).1
      have hLl : L ≤ 32 * nx := by rw [hL, Hx.out.1]; exact bitsN_le.2 (by rw [← W_two]; exact rep_len_hi x)
      have hL64 : 64 < L := by
        refine Classical.byContradiction fun hn => ?_
        have h3 : 2 ^ L ≤ 2 ^ 64 := Nat.pow_le_pow_right (by decide) (by omega)
        have h4 := Hy3.out
        have h5 := Hle.out
        have h6 : (2 : Nat) ^ 64 = 18446744073709551616 := by decide
        omega
      obtain ⟨f, hf⟩ : ∃ f, f = L - 64 := ⟨_, rfl⟩
      have ef : (L : Int) - 64 = (f : Int) := by omega
      have hfl : f ≤ 1099511627776 := by omega
      obtain ⟨t1, t2⟩ := top_of hLx (show L ≤ f + 64 by omega)
      obtain ⟨t3, t4⟩ := top_of (Nat.lt_of_le_of_lt Hle.out hLx) (show L ≤ f + 64 by omega)
      have hlen := big_length wr ax (rep x) nx cx Hx.out.2.2 (rep_lim _) (rep_norm _) Hx.out.1 (by omega)
      rw [val_rep, ← hL] at hlen
      have ht1 := big_top wr ax (rep x) nx cx f Hx.out.2.2 (rep_lim _) Hx.out.1 (by omega) hfl
      rw [val_rep, t1] at ht1
      have ht2 := big_top wr ay (rep y) ny cy f Hy.out.2.2 (rep_lim _) Hy.out.1 (by omega) hfl
      rw [val_rep, t3] at ht2
      have hst := big_steps wr (x / 2 ^ f) (y / 2 ^ f) t2 (Nat.div_le_div_right Hle.out)
      have HLen := Lib.hid hlen
      have HT1 := Lib.hid ht1
      have HT2 := Lib.hid ht2
      have HSt := Lib.hid hst
      clear hlen ht1 ht2 hst t1 t2 t3 t4 hL hLx hLl hL64 hf h2
      go_wp2_with fail
      refine HLen.out.mono ?_
      rintro e w2 ⟨rfl, rfl⟩
      go_wp2_with fail
      refine HT1.out.mono ?_
      rintro e w2 ⟨rfl, rfl⟩
      go_wp2_with fail
      refine HT2.out.mono ?_
      rintro e w2 ⟨rfl, rfl⟩
      go_wp2_with fail
      refine HSt.out.mono ?_
      rintro e w3 ⟨A, B, C, D, odd, xx, yy, u, v, rfl, HLin, lA, lB, lC, lD, hb3⟩
      obtain ⟨W4, hW4, r6, hb4, hz4⟩ := rows5 w3 282 (.int .u64 (A : Nat)) (.int .u64 (B : Nat)) (.int .u64 (C : Nat)) (.int .u64 (D : Nat)) (.bool odd)
      have hb34 := hb3.trans (hb4.mono hb3.size)
      have Hx4 := Lib.hid (Hx.out.below hb34)
      have Hy4 := Lib.hid (Hy.out.below hb34)
      have hB4 := hB.trans (hb34.mono hB.size)
      have q0 := r6.cell_at 0
      have q1 := r6.cell_at 1
      have q2 := r6.cell_at 2
      have q3 := r6.cell_at 3
      have q4 := r6.cell_at 4
      simp only [List.getElem?_cons_zero, List.getElem?_cons_succ] at q0 q1 q2 q3 q4
      rw [hW4] at q0 q1 q2 q3 q4
      have HW4 := Lib.hid hW4
      clear hW4 hb3 hb4 hb34 HLen HT1 HT2 HSt ef hz4
      by_cases hB0 : B = 0
      · have c0 : ((B : Int) != 0) = false := by rw [hB0]; rfl
        have c0' : ((B : Int) == 0) = true := by rw [hB0]; rfl
        have hy0 : 0 < y := by have := Hy3.out; omega
        have Hg2 := Lib.hid (show Nat.gcd y (x % y) = G from by rw [Nat.gcd_comm, ← Nat.gcd_rec, Nat.gcd_comm]; exact Hg.out)
        have Hrl := Lib.hid (Nat.mod_lt x hy0)
        clear HLin hB0
        go_wp2_with fail
        rw [← HW4.out]
        refine (quo_num W4 x y ax ay nx ny cx cy Hx4.out Hy4.out lx ly hy0).mono ?_
        rintro e w5 ⟨a1, s1, d1, a2, s2, d2, rfl, Hr, hb5⟩
        have Hy5 := Lib.hid (Hy4.out.below hb5)
        have hB5 := hB4.trans (hb5.mono hB4.size)
        have ls2 : s2 ≤ 1048576 := by rw [Hr.out.1]; exact Nat.le_trans (rep_mono (Nat.le_of_lt Hrl.out)) (by rw [← Hy.out.1]; exact ly)
        have Hm5 := Lib.hid (numAt_eq (c := cy) Hy5.out.2.2 Hy5.out.1)
        have Hm6 := Lib.hid (numAt_eq (c := d2) Hr.out.2.2 Hr.out.1)
        clear hb5 r6 q0 q1 q2 q3 q4
        go_wp2_with fail
        go_roundw
        case rel => exact ⟨⟨y, x % y, ay, ny, cy, a2, s2, d2, rfl, rfl, Lib.hid Hy5.out, Lib.hid Hr.out, ly, ls2, Lib.hid Hg2.out, Lib.hid (Nat.le_of_lt Hrl.out)⟩, hB5⟩
        case measure =>
          rw [Hm5.out, Hm6.out, Hmx.out, Hmy.out]
          have := Hrl.out
          have := Hle.out
          omega
      · have c0 : ((B : Int) != 0) = true := by rw [bne_iff_ne]; omega
        have c0' : ((B : Int) == 0) = false := by rw [beq_eq_false_iff_ne]; omega
        obtain ⟨X', Y', hM⟩ := lin_made HLin.out hB0
        have HM := Lib.hid hM
        have hless := hM.less hB0 (HLin.out.D_pos hB0) (by have := Hy3.out; omega)
        have Hless := Lib.hid hless
        have Hg2 := Lib.hid (hM.gcd.trans Hg.out)
        have Hle2 := Lib.hid hM.le
        clear HLin hB0 hM hless
        go_wp2_with fail
        rw [← HW4.out]
        refine (big_after W4 A B C D x y X' Y' odd ax ay nx ny cx cy Hx4.out Hy4.out lx ly lA lB lC lD HM.out).mono ?_
        rintro e w5 ⟨a1, s1, d1, a2, s2, d2, rfl, H1, H2, hb5⟩
        have hB5 := hB4.trans (hb5.mono hB4.size)
        have ls1 : s1 ≤ 1048576 := by rw [H1.out.1]; exact Nat.le_trans (rep_mono Hless.out.2.1) (by rw [← Hx.out.1]; exact lx)
        have ls2 : s2 ≤ 1048576 := by rw [H2.out.1]; exact Nat.le_trans (rep_mono Hless.out.2.2) (by rw [← Hx.out.1]; exact lx)
        have Hm5 := Lib.hid (numAt_eq (c := d1) H1.out.2.2 H1.out.1)
        have Hm6 := Lib.hid (numAt_eq (c := d2) H2.out.2.2 H2.out.1)
        clear hb5 r6 q0 q1 q2 q3 q4
        go_wp2_with fail
        go_roundw
        case rel => exact ⟨⟨X', Y', a1, s1, d1, a2, s2, d2, rfl, rfl, Lib.hid H1.out, Lib.hid H2.out, ls1, ls2, Lib.hid Hg2.out, Lib.hid Hle2.out⟩, hB5⟩
        case measure =>
          rw [Hm5.out, Hm6.out, Hmx.out, Hmy.out]
          exact Hless.out.1
    · have d2 : decide ((2 : Int) < (ny : Int)) = false := by rw [decide_eq_false_iff_not]; omega
      clear Hmx Hmy
      have hny2 : ny ≤ 2 := by omega
      go_upto_region 10 with fail
      go_cut [57] (fun s57 wx => (∃ t : Bool, s57 = .bool t ∧ Hid ((t = true → 0 < ny ∧ 2 < nx) ∧ (t = false → ny = 0 ∨ nx ≤ 2))) ∧ wx = wr)
      case first =>
        by_cases e0 : 0 < ny
        · have d3 : decide ((0 : Int) < (ny : Int)) = true := by rw [decide_eq_true_eq]; omega
          have d3' : decide (0 < ny) = true := by rw [decide_eq_true_eq]; exact e0
          by_cases e2 : 2 < nx
          · have d4 : decide ((2 : Int) < (nx : Int)) = true := by rw [decide_eq_true_eq]; omega
            have d4' : decide (2 < nx) = true := by rw [decide_eq_true_eq]; exact e2
            have HT := Lib.hid (show ((true = true → 0 < ny ∧ 2 < nx) ∧ (true = false → ny = 0 ∨ nx ≤ 2)) from ⟨fun _ => ⟨e0, e2⟩, fun h => by cases h⟩)
            clear e0 e2
            go_wp2_with fail
            go_meet
            exact ⟨⟨true, rfl, Lib.hid ⟨fun _ => HT.out.1 (by trivial), fun h => by cases h⟩⟩, rfl⟩
          · have d4 : decide ((2 : Int) < (nx : Int)) = false := by rw [decide_eq_false_iff_not]; omega
            have d4' : decide (2 < nx) = false := by rw [decide_eq_false_iff_not]; exact e2
            have HT := Lib.hid (show nx ≤ 2 by omega)
            clear e0 e2
            go_wp2_with fail
            go_meet
            exact ⟨⟨false, rfl, Lib.hid ⟨fun h => (by cases h), fun _ => .inr HT.out⟩⟩, rfl⟩
        · have d3 : decide ((0 : Int) < (ny : Int)) = false := by rw [decide_eq_false_iff_not]; omega
          have d3' : decide (0 < ny) = false := by rw [decide_eq_false_iff_not]; exact e0
          have HT := Lib.hid (show ny = 0 by omega)
          clear e0
          go_wp2_with fail
          go_meet
          exact ⟨⟨false, rfl, Lib.hid ⟨fun h => (by cases h), fun _ => .inl HT.out⟩⟩, rfl⟩
      case rest =>
      obtain ⟨⟨t, rfl, Ht⟩, hV⟩ := hcut
      have hV := hV.symm
      subst hV
      clear d2 h2
      go_upto_if 57 with fail
      go_cut [0, 1] (fun s0 s1 wx => Last wx G s0 s1 ∧ Below w.heap.size w wx)
      case first =>
        cases t with
        | true =>
          obtain ⟨e0, e2⟩ := Ht.out.1 rfl
          have hy0 : 0 < y := len_some Hy.out.1 e0
          have Hg2 := Lib.hid (show Nat.gcd y (x % y) = G from by rw [Nat.gcd_comm, ← Nat.gcd_rec, Nat.gcd_comm]; exact Hg.out)
          have Hrl := Lib.hid (Nat.mod_lt x hy0)
          clear e0 e2 Ht
          go_wp2_with fail
          refine (quo_num wr x y ax ay nx ny cx cy Hx.out Hy.out lx ly hy0).mono ?_
          rintro e w5 ⟨a1, s1, d1, a2, s2, d2, rfl, Hr, hb5⟩
          have Hy5 := Lib.hid (Hy.out.below hb5)
          have hB5 := hB.trans (hb5.mono hB.size)
          have ls2 : s2 ≤ 2 := by rw [Hr.out.1]; exact Nat.le_trans (rep_mono (Nat.le_of_lt Hrl.out)) (by rw [← Hy.out.1]; exact hny2)
          have HT := Lib.hid (show Last w5 G (.slice ay ny cy) (.slice a2 s2 d2) from ⟨y, x % y, ay, ny, cy, a2, s2, d2, rfl, rfl, Lib.hid Hy5.out, Lib.hid Hr.out, .inr ⟨hny2, ls2⟩, ly, Lib.hid Hg2.out⟩)
          clear hb5 ls2
          go_wp2_with fail
          go_meet
          exact ⟨HT.out, hB5⟩
        | false =>
          have HT := Lib.hid (show Last wr G (.slice ax nx cx) (.slice ay ny cy) from ⟨x, y, ax, nx, cx, ay, ny, cy, rfl, rfl, Lib.hid Hx.out, Lib.hid Hy.out, (by rcases Ht.out.2 rfl with h | h; exact .inl h; exact .inr ⟨h, hny2⟩), lx, Lib.hid Hg.out⟩)
          clear Ht
          go_wp2_with fail
          go_meet
          exact ⟨HT.out, hB⟩
      case rest =>
      clear Hx Hy Hg Hle hB lx ly hny2 Ht
      obtain ⟨⟨x2, y2, ax2, nx2, cx2, ay2, ny2, cy2, rfl, rfl, Hx, Hy, hl, lx, Hg⟩, hB⟩ := hcut
      by_cases e0 : ny2 = 0
      · have d5 : ((ny2 : Int) == 0) = true := by rw [beq_iff_eq, e0]; rfl
        have Hx2 : Hid (Num wc G ax2 nx2 cx2) := Lib.hid (by
          have h0 := len_nought (x := y2) (by rw [← Hy.out.1]; exact e0.symm)
          have h1 := Hg.out
          rw [h0, Nat.gcd_zero_right] at h1
          rw [← h1]; exact Hx.out)
        clear e0 hl
        go_wp2
        go_ret
        exact ⟨_, _, _, rfl, Hx2, hB⟩
      · have d5 : ((ny2 : Int) == 0) = false := by rw [beq_eq_false_iff_ne]; omega
        have hll : nx2 ≤ 2 ∧ ny2 ≤ 2 := by
          rcases hl with h | h
          · exact absurd h e0
          · exact h
        have lx2 := len_two Hx.out.1 hll.1
        have ly2 := len_two Hy.out.1 hll.2
        have h1 := big_low wc ax2 (rep x2) nx2 cx2 Hx.out.2.2 (rep_lim _) Hx.out.1 (by omega)
        have h2 := big_low wc ay2 (rep y2) ny2 cy2 Hy.out.2.2 (rep_lim _) Hy.out.1 (by omega)
        rw [val_rep, Nat.mod_eq_of_lt lx2] at h1
        rw [val_rep, Nat.mod_eq_of_lt ly2] at h2
        have HL1 := Lib.hid h1
        have HL2 := Lib.hid h2
        clear h1 h2 hl e0 Hx Hy
        go_wp2_with fail
        refine HL1.out.mono ?_
        rintro e w2 ⟨rfl, rfl⟩
        go_wp2_with fail
        refine HL2.out.mono ?_
        rintro e w2 ⟨rfl, rfl⟩
        go_wp2_with fail
        go_loopw [11, 12] (fun av bv wr => ∃ p q : Nat, av = .int .u64 (p : Nat) ∧ bv = .int .u64 (q : Nat) ∧ p < 18446744073709551616 ∧ q < 18446744073709551616 ∧ Hid (Nat.gcd p q = G) ∧ Below w.heap.size w wr) (fun _ bv _ => (intOf bv).toNat)
        case atStart => exact ⟨x2, y2, rfl, rfl, lx2, ly2, Lib.hid Hg.out, hB⟩
        case round =>
          obtain ⟨p, q, rfl, rfl, lp, lq, Hpq, hBr⟩ := hrel
          clear hB lx2 ly2 HL1 HL2 Hg
          by_cases q0 : 0 < q
          · have d6 : decide ((0 : Int) < (q : Int)) = true := by rw [decide_eq_true_eq]; omega
            have d6' : decide (0 < q) = true := by rw [decide_eq_true_eq]; exact q0
            have d7 : ((q : Int) == 0) = false := by rw [beq_eq_false_iff_ne]; omega
            have er : (p : Int) % (q : Int) = ((p % q : Nat) : Int) := (Int.natCast_emod _ _).symm
            have hr := Nat.mod_lt p q0
            have Hg2 := Lib.hid (show Nat.gcd q (p % q) = G from by rw [Nat.gcd_comm, ← Nat.gcd_rec, Nat.gcd_comm]; exact Hpq.out)
            obtain ⟨r, hre⟩ : ∃ r, r = p % q := ⟨_, rfl⟩
            rw [← hre] at er hr Hg2
            have erw : IntKind.u64.wrap (r : Int) = (r : Int) := by rw [IntKind.wrap_u64]; omega
            clear hre q0
            go_wp2
            go_region
            all_goals
              go_wp2
              go_roundw
            case rel => exact ⟨q, r, rfl, by first | rfl | rw [er], lq, by omega, Lib.hid Hg2.out, hBr.drew⟩
            case measure => simp [intOf]; omega
          · obtain rfl : q = 0 := by omega
            have Hp := Lib.hid (show p = G by have h := Hpq.out; rwa [Nat.gcd_zero_right] at h)
            clear q0
            go_wp2_with fail
            refine (big_word _ p lp).mono ?_
            rintro e w5 ⟨a', c', rfl, h1, h2, h3, h4⟩
            have hfin := hBr.trans (h4.mono hBr.size)
            have HN : Hid (Num w5 G a' (rep p).length c') := Lib.hid (by rw [← Hp.out]; exact ⟨rfl, h1, h3⟩)
            clear h1 h2 h3 h4
            go_wp2
            go_ret
            exact ⟨_, _, _, rfl, HN, hfin⟩

end Go.Proofs.YtbffpkmfhkphdaaGreatDoor
