/- The walk of (*Int).Exp of package big with a modulus. -/
import Derived.Test.YtbffpkmfhkphdaaGreatDoorGX25
set_option linter.unusedVariables false
set_option linter.unusedSimpArgs false
namespace Go.Proofs.YtbffpkmfhkphdaaGreatDoor
open Go Go.RowKit Limb

theorem exp_step {X Y M j rr : Nat} (h : rr = X ^ (Y / 2 ^ (j + 1)) % M) :
    (Y / 2 ^ j % 2 = 0 → rr * rr % M = X ^ (Y / 2 ^ j) % M) ∧ (Y / 2 ^ j % 2 = 1 → (rr * rr % M) * X % M = X ^ (Y / 2 ^ j) % M) := by
  have e : Y / 2 ^ (j + 1) = Y / 2 ^ j / 2 := by rw [Nat.pow_succ, Nat.div_div_eq_div_mul]
  rw [e] at h
  generalize Y / 2 ^ j = t at h ⊢
  have sq : rr * rr % M = X ^ (2 * (t / 2)) % M := by
    rw [h, ← Nat.mul_mod, ← Nat.pow_add, ← Nat.two_mul]
  constructor
  · intro h0; rw [sq, show 2 * (t / 2) = t from by omega]
  · intro h1; rw [sq, Nat.mod_mul_mod, ← Nat.pow_succ, show (2 * (t / 2)).succ = t from by omega]

theorem bitsN_lt (n : Nat) : n < 2 ^ bitsN n := (bitsN_spec n).1
theorem bitsN_len (n : Nat) : bitsN n ≤ 32 * (rep n).length := bitsN_le.2 (by rw [← W_two]; exact rep_len_hi n)

set_option maxHeartbeats 3200000 in
set_option maxRecDepth 100000 in
theorem int_expmod (w : World) (p q r s : Nat) (v x y m : Int) (hp : IntAt w p v) (hq : IntAt w q x) (hr : IntAt w r y) (hs : IntAt w s m) (hm : m ≠ 0)
    (lx : (rep x.natAbs).length ≤ 68719476736) (ly : (rep y.natAbs).length ≤ 68719476736) (lm : (rep m.natAbs).length ≤ 68719476736) :
    Calls Tryz.prog 82 #[.pointer (some ⟨p, 0, none⟩), .pointer (some ⟨q, 0, none⟩), .pointer (some ⟨r, 0, none⟩), .pointer (some ⟨s, 0, none⟩)] w fun e w' => IntRes w w' e p ((x.natAbs ^ y.natAbs % m.natAbs : Nat) : Int) := by
  obtain ⟨b1, a1, n1, cap1, Hb1, Hn1, hc1, hl1, hcells1⟩ := hq.use
  obtain ⟨b2, a2, n2, cap2, Hb2, Hn2, hc2, hl2, hcells2⟩ := hr.use
  obtain ⟨b3, a3, n3, cap3, Hb3, Hn3, hc3, hl3, hcells3⟩ := hs.use
  have hB : ∀ X, Below w.heap.size w X → X.cell? ⟨q, 1, none⟩ = some (.slice a1 n1 cap1) ∧ X.cell? ⟨r, 1, none⟩ = some (.slice a2 n2 cap2) ∧ X.cell? ⟨s, 1, none⟩ = some (.slice a3 n3 cap3) := fun X h =>
    ⟨(hcells1 X (Only.of_below h)).2, (hcells2 X (Only.of_below h)).2, (hcells3 X (Only.of_below h)).2⟩
  have HB := Lib.hid hB; clear hB hcells1 hcells2 hcells3
  have k3 := (HB.out w (Below.refl _ _)).2.2
  obtain ⟨M, hM⟩ : ∃ M, M = m.natAbs := ⟨_, rfl⟩
  obtain ⟨Y, hY⟩ : ∃ Y, Y = y.natAbs := ⟨_, rfl⟩
  obtain ⟨Z, hZ⟩ : ∃ Z, Z = x.natAbs := ⟨_, rfl⟩
  have hM0 : 0 < M := by omega
  rw [← hM] at lm hl3 Hn3 ⊢
  rw [← hY] at ly hl2 Hn2 ⊢
  rw [← hZ] at lx hl1 Hn1 ⊢
  have hbit := fun X i (h : Below w.heap.size w X) hi => int_bit X r i y (hr.below h) hi
  rw [← hY] at hbit
  have HBit := Lib.hid hbit; clear hbit
  have lx' : n1 ≤ 274877906944 := by rw [Hn1.out]; exact Nat.le_trans lx (by decide)
  have lm' : n3 ≤ 274877906944 := by rw [Hn3.out]; exact Nat.le_trans lm (by decide)
  have ly' : n2 ≤ 68719476736 := by rw [Hn2.out]; exact ly
  have Hp := Lib.hid hp
  clear hM hY hZ hm Hb1 Hb2 Hb3 hq hr hs hp
  have h1 := row1lay w 60
  have hb1 : Below w.heap.size w (w.alloc (.cells #[.int .u32 1] 60)) := (Below.refl _ _).alloc (Nat.le_refl _) _
  have k3' := (HB.out _ hb1).2.2
  go_enter Tryz.func82, Tryz.ntmps82
  go_wp2_with fail
  refine (big_quotient' _ _ a3 1 M 1 n3 1 cap3 h1 (hl3.below hb1) (by decide) Hn3.out (by decide) lm' (by decide) hM0).mono ?_
  rintro e w1 ⟨a4, c4, s4, a5, c5, s5, rfl, -, g2, -, g4, -, g6, g7⟩
  have G2 := Lib.hid g2; clear g2
  have hb2 : Below w.heap.size w w1 := hb1.trans (g7.mono hb1.size)
  have k1 := (HB.out _ hb2).1
  go_wp2_with fail
  refine (big_quotient' _ a1 a3 Z M n1 n3 cap1 cap3 (hl1.below hb2) (hl3.below hb2) Hn1.out Hn3.out lx' lm' hc1 hM0).mono ?_
  rintro e w2 ⟨a6, c6, s6, a7, c7, s7, rfl, -, j2, -, j4, -, j6, j7⟩
  have J2 := Lib.hid j2; clear j2
  have hb3 : Below w.heap.size w w2 := hb2.trans (j7.mono hb2.size)
  have k2 := (HB.out _ hb3).2.1
  have g6' := g6.below j7
  go_wp2_with fail
  refine (big_length _ a2 (rep Y) n2 cap2 (hl2.below hb3) (rep_lim _) (rep_norm _) Hn2.out (by omega)).mono ?_
  rw [val_rep]
  rintro e w3 ⟨rfl, rfl⟩
  obtain ⟨B, hBv⟩ : ∃ B, B = bitsN Y := ⟨_, rfl⟩
  have hBle : B ≤ 9223372036854775807 := by
    rw [hBv]
    have := bitsN_len Y
    rw [← Hn2.out] at this
    omega
  have HBv := Lib.hid (show Y / 2 ^ B = 0 from by rw [hBv]; exact Nat.div_eq_of_lt (bitsN_lt Y))
  rw [← hBv]
  clear hBv
  have HM1 := Lib.hid (show ∀ rr : Nat, rr < M → (rep rr).length ≤ 68719476736 from fun rr h => Nat.le_trans (rep_mono (Nat.le_of_lt h)) lm)
  go_wp2_with fail
  go_loopw [10, 13] (fun r i wr => ∃ (t : Int) (a : Option Addr) (s c rr : Nat), r = .slice a s c ∧ i = .int .i64 t ∧ -1 ≤ t ∧ t ≤ 9223372036854775806 ∧ Hid (s = (rep rr).length) ∧ s ≤ c ∧ Lay .u32 wr a (rep rr) ∧ Hid (rr = Z ^ (Y / 2 ^ (t + 1).toNat) % M) ∧ Below w2.heap.size w2 wr) (fun _ i _ => (intOf i + 1).toNat)
  case atStart => exact ⟨_, _, _, _, 1 % M, rfl, rfl, by omega, by omega, G2, g4, g6', Lib.hid (by rw [show ((B : Int) - 1 + 1).toNat = B by omega, HBv.out, Nat.pow_zero]), Below.refl _ _⟩
  case round =>
    obtain ⟨t, a, s, c, rr, rfl, rfl, ht1, ht2, Hs, hsc, ha, Hv, hbw⟩ := hrel
    have hbW := hb3.trans (hbw.mono hb3.size)
    have hj6 := j6.below hbw
    have hlt : rr < M := by rw [Hv.out]; exact Nat.mod_lt _ hM0
    have lr := HM1.out rr hlt
    have lrb := HM1.out (Z % M) (Nat.mod_lt _ hM0)
    rw [← Hs.out] at lr
    rw [← J2.out] at lrb
    by_cases ht : 0 ≤ t
    · obtain ⟨k, rfl⟩ := Int.eq_ofNat_of_zero_le ht
      have hst := Lib.hid (exp_step (X := Z) (Y := Y) (M := M) (j := k) (rr := rr) (by have := Hv.out; rwa [show ((k : Int) + 1).toNat = k + 1 from by omega] at this))
      have hbit := HBit.out
      obtain ⟨bt, hbt⟩ : ∃ bt, bt = Y / 2 ^ k % 2 := ⟨_, rfl⟩
      have hb01 : bt = 0 ∨ bt = 1 := by omega
      have HBk := Lib.hid (fun X h => hbit X k h (by omega))
      rw [← hbt] at HBk hst
      clear hbit
      have Hbt := Lib.hid hbt; clear hbt
      go_wp2_with fail
      refine (big_times' _ a a rr rr s s c c ha ha Hs.out Hs.out (by omega) (by omega)).mono ?_
      rintro e v1 ⟨a8, c8, s8, rfl, t1, t2, t3, t4⟩
      have l8 : s8 ≤ 274877906944 := by rw [t1]; exact Nat.le_trans (len_mul (Nat.le_of_eq Hs.out.symm) (Nat.le_of_eq Hs.out.symm)) (by omega)
      have T1 := Lib.hid t1; clear t1
      have hbv1 := hbW.trans (t4.mono hbW.size)
      go_wp2_with fail
      refine (big_quotient' _ a8 a3 (rr * rr) M s8 n3 c8 cap3 t3 (hl3.below hbv1) T1.out Hn3.out l8 lm' t2 hM0).mono ?_
      rintro e v2 ⟨a9, c9, s9, a10, c10, s10, rfl, -, u2, -, u4, -, u6, u7⟩
      have U2 := Lib.hid u2; clear u2
      have hbv2 := hbv1.trans (u7.mono hbv1.size)
      have hbw2 := (hbw.trans (t4.mono hbw.size)).trans (u7.mono (hbw.trans (t4.mono hbw.size)).size)
      have hj6' := (hj6.below t4).below u7
      have lr2 := HM1.out (rr * rr % M) (Nat.mod_lt _ hM0)
      rw [← U2.out] at lr2
      rcases hb01 with h0 | h1
      · subst h0
        go_wp2_with fail
        refine (HBk.out v2 hbv2).mono ?_
        rintro e v3 ⟨rfl, rfl⟩
        go_wp2_with fail
        go_roundw
        case rel => exact ⟨_, a10, s10, c10, rr * rr % M, rfl, rfl, by omega, by omega, U2, u4, u6, Lib.hid (by rw [show ((k : Int) - 1 + 1).toNat = k by omega]; exact hst.out.1 (by trivial)), hbw2⟩
        case measure => simp [intOf] <;> omega
      · subst h1
        go_wp2_with fail
        refine (HBk.out v2 hbv2).mono ?_
        rintro e v3 ⟨rfl, rfl⟩
        go_wp2_with fail
        refine (big_times' _ a10 a7 (rr * rr % M) (Z % M) s10 s7 c10 c7 u6 hj6' U2.out J2.out (by omega) (by omega)).mono ?_
        rintro e v4 ⟨a11, c11, s11, rfl, t1, t2', t3', t4'⟩
        have l11 : s11 ≤ 274877906944 := by rw [t1]; exact Nat.le_trans (len_mul (Nat.le_of_eq U2.out.symm) (Nat.le_of_eq J2.out.symm)) (by omega)
        have T11 := Lib.hid t1; clear t1
        have hbv4 := hbv2.trans (t4'.mono hbv2.size)
        have hbw4 := hbw2.trans (t4'.mono hbw2.size)
        go_wp2_with fail
        refine (big_quotient' _ a11 a3 (rr * rr % M * (Z % M)) M s11 n3 c11 cap3 t3' (hl3.below hbv4) T11.out Hn3.out l11 lm' t2' hM0).mono ?_
        rintro e v5 ⟨a12, c12, s12, a13, c13, s13, rfl, -, x2, -, x4, -, x6, x7⟩
        have X2 := Lib.hid x2; clear x2
        have hbw5 := hbw4.trans (x7.mono hbw4.size)
        go_wp2_with fail
        go_roundw
        case rel => exact ⟨_, a13, s13, c13, rr * rr % M * (Z % M) % M, rfl, rfl, by omega, by omega, X2, x4, x6, Lib.hid (by rw [show ((k : Int) - 1 + 1).toNat = k by omega, Nat.mul_mod_mod]; exact hst.out.2 (by trivial)), hbw5⟩
        case measure => simp [intOf] <;> omega
    · have hfin : Hid (rr = Z ^ Y % M) := Lib.hid (by rw [Hv.out, show (t + 1).toNat = 0 by omega, Nat.pow_zero, Nat.div_one])
      have hpw := Hp.out.below hbW
      go_wp2_with fail
      refine (big_made wr p v ((Z ^ Y % M : Nat) : Int) false a s c hpw (by rw [Int.natAbs_natCast, ← hfin.out]; exact ha) (by rw [Int.natAbs_natCast, ← hfin.out]; exact Hs.out) hsc ⟨(fun h => by cases h), fun _ => Int.natCast_nonneg _⟩).mono ?_
      rintro e w4 ⟨rfl, h4, h5⟩
      go_wp2
      go_ret
      exact ⟨rfl, h4, (Only.of_below (ps := [p]) hbW).trans h5 (fun q hq => .inl hq)⟩

end Go.Proofs.YtbffpkmfhkphdaaGreatDoor
