/- The walks of plus, Add, Sub of package big's integers. -/
import Derived.Test.YtbffpkmfhkphdaaGreatDoorNegC
set_option linter.unusedVariables false
set_option linter.unusedSimpArgs false
namespace Go.Proofs.YtbffpkmfhkphdaaGreatDoor
open Go Go.RowKit Limb

/-- The number of a sign and a magnitude. -/
def signed (neg : Bool) (n : Nat) : Int := if neg then -(n : Int) else n
theorem signed_of (z : Int) : signed (decide (z < 0)) z.natAbs = z := by unfold signed; split <;> simp_all <;> omega
theorem signed_not (z : Int) : signed (!decide (z < 0)) z.natAbs = -z := by unfold signed; split <;> simp_all <;> omega

theorem big_sum' (w : World) (a b : Option Addr) (x y n m : Nat) (ca cb : Nat) (ha : Lay .u32 w a (rep x)) (hb : Lay .u32 w b (rep y)) (hn : n = (rep x).length) (hm : m = (rep y).length)
    (lx : n ≤ 1099511627776) (ly : m ≤ 1099511627776) :
    Calls Tryz.prog 151 #[.slice a n ca, .slice b m cb] w fun e w' => ∃ a c s, e = .returned (.slice a s c) ∧ s = (rep (x + y)).length ∧ s ≤ c ∧ Lay .u32 w' a (rep (x + y)) ∧ Below w.heap.size w w' := by
  subst hn hm
  have := big_sum w a b (rep x) (rep y) ca cb ha hb (rep_lim _) (rep_lim _) lx ly
  rw [val_rep, val_rep] at this
  exact this.mono fun e w' ⟨a, c, h1, h2, _, h4, h5⟩ => ⟨a, c, _, h1, rfl, h2, h4, h5⟩
theorem big_less' (w : World) (a b : Option Addr) (x y n m : Nat) (ca cb : Nat) (ha : Lay .u32 w a (rep x)) (hb : Lay .u32 w b (rep y)) (hn : n = (rep x).length) (hm : m = (rep y).length)
    (lx : n ≤ 1099511627776) (hle : y ≤ x) :
    Calls Tryz.prog 167 #[.slice a n ca, .slice b m cb] w fun e w' => ∃ a c s, e = .returned (.slice a s c) ∧ s = (rep (x - y)).length ∧ s ≤ c ∧ Lay .u32 w' a (rep (x - y)) ∧ Below w.heap.size w w' := by
  have := big_less w a b (rep x) (rep y) n m ca cb ha hb (rep_lim _) (rep_lim _) hn hm lx (by rw [val_rep, val_rep]; exact hle) (by rw [hn, hm]; exact rep_mono hle)
  rw [val_rep, val_rep] at this
  exact this.mono fun e w' ⟨a, c, h1, h2, _, h4, h5⟩ => ⟨a, c, _, h1, rfl, h2, h4, h5⟩

set_option maxHeartbeats 1600000 in
set_option maxRecDepth 100000 in
theorem int_plus (w : World) (p q : Nat) (v x : Int) (neg : Bool) (a : Option Addr) (m n cap : Nat) (hp : IntAt w p v) (hq : IntAt w q x) (hl : Lay .u32 w a (rep m)) (hn : n = (rep m).length) (hc : n ≤ cap)
    (hs : (rep x.natAbs).length ≤ 68719476736) (ht : n ≤ 68719476736) :
    Calls Tryz.prog 153 #[.pointer (some ⟨p, 0, none⟩), .pointer (some ⟨q, 0, none⟩), .bool neg, .slice a n cap] w fun e w' => IntRes w w' e p (x + signed neg m) := by
  obtain ⟨b, a1, n1, cap1, Hb, Hn1, hc1, hl1, hcells⟩ := hq.use
  obtain ⟨c0, c1⟩ := hcells w (Only.refl _ _)
  have HC := Lib.hid hcells; clear hcells
  rw [← Hn1.out] at hs
  have Hn := Lib.hid hn; clear hn
  obtain ⟨r, hr⟩ : ∃ r, r = x + signed neg m := ⟨_, rfl⟩
  rw [← hr]
  by_cases hb : b = neg
  · subst hb
    have hres : r.natAbs = x.natAbs + m := by rw [hr, Hb.out]; unfold signed; split <;> simp_all <;> omega
    have hsg : (b = true → r ≤ 0) ∧ (b = false → 0 ≤ r) := by rw [hr, Hb.out]; unfold signed; constructor <;> intro h <;> simp_all <;> omega
    have HR := Lib.hid hres; clear hres
    have HS := Lib.hid hsg; clear hsg
    have hbb : (b == b) = true := by cases b <;> rfl
    clear hr
    go_enter Tryz.func153, Tryz.ntmps153
    go_wp2_with fail
    refine (big_sum' _ a1 a x.natAbs m n1 n cap1 cap hl1 hl Hn1.out Hn.out (by omega) (by omega)).mono ?_
    rintro e w1 ⟨a2, c2, s2, rfl, h1, h2, h3, h4⟩
    have H1 := Lib.hid h1; clear h1
    go_wp2_with fail
    refine (big_made _ p v r _ _ _ _ (hp.below h4) (by rw [HR.out]; exact h3) (by rw [HR.out]; exact H1.out) h2 HS.out).mono ?_
    rintro e w2 ⟨rfl, h5, h6⟩
    go_wp2
    go_ret
    exact ⟨rfl, h5, (Only.of_below h4).trans h6 (by simp)⟩
  · have hbb : (b == neg) = false := by cases b <;> cases neg <;> simp_all
    by_cases hle : m ≤ x.natAbs
    · have hcm : decide (0 ≤ cmpI x.natAbs m) = true := by unfold cmpI; split <;> (try split) <;> simp <;> omega
      have hres : r.natAbs = x.natAbs - m := by rw [hr]; rw [Hb.out] at hb; unfold signed; split <;> simp_all <;> omega
      have hsg : (b = true → r ≤ 0) ∧ (b = false → 0 ≤ r) := by
        have hbo := Hb.out
        rw [hr]; unfold signed; constructor <;> intro h <;> subst h <;> simp at hbo <;> cases neg <;> simp_all <;> omega
      have HR := Lib.hid hres; clear hres
      have HS := Lib.hid hsg; clear hsg
      have HC0 := fun k => big_compare (w.drewN k) a1 a (rep x.natAbs) (rep m) n1 n cap1 cap (hl1.drewN k) (hl.drewN k) (rep_lim _) (rep_lim _) (rep_norm _) (rep_norm _) Hn1.out Hn.out (by omega) (by omega)
      simp only [val_rep] at HC0
      have HCm := Lib.hid HC0; clear HC0
      clear hr hb
      go_enter Tryz.func153, Tryz.ntmps153
      go_wp2_with fail
      refine (HCm.out 0).mono ?_
      rintro e w1 ⟨rfl, k1, rfl⟩
      go_wp2_with fail
      obtain ⟨W, hW⟩ : ∃ W, W = w.drewN k1 := ⟨_, rfl⟩
      have hpW : IntAt W p v := by rw [hW]; exact hp
      have hl1W : Lay .u32 W a1 (rep x.natAbs) := by rw [hW]; exact hl1
      have hlW : Lay .u32 W a (rep m) := by rw [hW]; exact hl
      have hoW : Only [] w W := by rw [hW]; exact (Only.refl _ _).drewN _
      have e0 := (HC.out W hoW).1
      have e1 := (HC.out W hoW).2
      rw [← hW]
      clear hW c0 c1
      go_region_with (first | (go_at_call 167; refine (big_less' _ a1 a x.natAbs m n1 n cap1 cap ?_ ?_ Hn1.out Hn.out (by omega) hle).mono ?_; exact hl1W.drew; exact hlW.drew; rintro e w1 ⟨a2, c2, s2, rfl, h1, h2, h3, h4⟩; have H1 := Lib.hid h1; clear h1; have e0' := (HC.out w1 (hoW.trans (Only.of_below (ps := []) (below_of_drew h4)) (by simp))).1) | (go_at_call 148; refine (big_made _ p v r _ _ _ _ ?_ ?_ ?_ ?_ HS.out).mono ?_; exact hpW.drew.below h4; rw [HR.out]; exact h3; rw [HR.out]; exact H1.out; exact h2; rintro e w2 ⟨rfl, h5, h6⟩))
      all_goals go_wp2
      all_goals go_ret
      all_goals exact ⟨rfl, h5, (hoW.mono (by simp)).trans ((Only.of_below (ps := [p]) (below_of_drew h4)).trans h6 (by simp)) (by simp)⟩
    · have hcm : decide (0 ≤ cmpI x.natAbs m) = false := by unfold cmpI; rw [if_pos (by omega)]; rfl
      have hres : r.natAbs = m - x.natAbs := by rw [hr]; rw [Hb.out] at hb; unfold signed; split <;> simp_all <;> omega
      have hsg : (neg = true → r ≤ 0) ∧ (neg = false → 0 ≤ r) := by
        rw [hr]; unfold signed; constructor <;> intro h <;> subst h <;> simp <;> omega
      have HR := Lib.hid hres; clear hres
      have HS := Lib.hid hsg; clear hsg
      have HC0 := fun k => big_compare (w.drewN k) a1 a (rep x.natAbs) (rep m) n1 n cap1 cap (hl1.drewN k) (hl.drewN k) (rep_lim _) (rep_lim _) (rep_norm _) (rep_norm _) Hn1.out Hn.out (by omega) (by omega)
      simp only [val_rep] at HC0
      have HCm := Lib.hid HC0; clear HC0
      clear hr hb
      go_enter Tryz.func153, Tryz.ntmps153
      go_wp2_with fail
      refine (HCm.out 0).mono ?_
      rintro e w1 ⟨rfl, k1, rfl⟩
      have hW : Only [] w (w.drewN k1) := (Only.refl _ _).drewN _
      go_wp2_with fail
      refine (big_less' _ a a1 m x.natAbs n n1 cap cap1 (hl.drewN k1) (hl1.drewN k1) Hn.out Hn1.out (by omega) (by omega)).mono ?_
      rintro e w1 ⟨a2, c2, s2, rfl, h1, h2, h3, h4⟩
      have H1 := Lib.hid h1; clear h1
      go_wp2_with fail
      refine (big_made _ p v r _ _ _ _ ((hp.drewN k1).below h4) (by rw [HR.out]; exact h3) (by rw [HR.out]; exact H1.out) h2 HS.out).mono ?_
      rintro e w2 ⟨rfl, h5, h6⟩
      go_wp2
      go_ret
      exact ⟨rfl, h5, (hW.mono (by simp)).trans ((Only.of_below (ps := [p]) h4).trans h6 (by simp)) (by simp)⟩

set_option maxHeartbeats 800000 in
set_option maxRecDepth 100000 in
theorem int_add (w : World) (p q r : Nat) (v x y : Int) (hp : IntAt w p v) (hq : IntAt w q x) (hr : IntAt w r y) (hs : (rep x.natAbs).length ≤ 68719476736) (ht : (rep y.natAbs).length ≤ 68719476736) :
    Calls Tryz.prog 72 #[.pointer (some ⟨p, 0, none⟩), .pointer (some ⟨q, 0, none⟩), .pointer (some ⟨r, 0, none⟩)] w fun e w' => IntRes w w' e p (x + y) := by
  obtain ⟨b, a, n, cap, Hb, Hn, hc, hl, hcells⟩ := hr.use
  obtain ⟨c0, c1⟩ := hcells w (Only.refl _ _)
  clear hcells
  rw [← Hn.out] at ht
  have hfin := fun W h1 h2 h3 => int_plus W p q v x b a y.natAbs n cap h1 h2 h3 Hn.out hc hs ht
  rw [Hb.out, signed_of, ← Hb.out] at hfin
  have HF := Lib.hid hfin; clear hfin
  go_enter Tryz.func72, Tryz.ntmps72
  go_wp2
  go_region_with (go_at_call 153; refine (HF.out _ ?_ ?_ ?_).mono ?_; exact hp.drew; exact hq.drew; exact hl.drew; rintro e w2 ⟨rfl, h5, h6⟩)
  all_goals go_wp2
  all_goals go_ret
  all_goals exact ⟨rfl, h5, Only.of_drew h6⟩

set_option maxHeartbeats 800000 in
set_option maxRecDepth 100000 in
theorem int_sub (w : World) (p q r : Nat) (v x y : Int) (hp : IntAt w p v) (hq : IntAt w q x) (hr : IntAt w r y) (hs : (rep x.natAbs).length ≤ 68719476736) (ht : (rep y.natAbs).length ≤ 68719476736) :
    Calls Tryz.prog 106 #[.pointer (some ⟨p, 0, none⟩), .pointer (some ⟨q, 0, none⟩), .pointer (some ⟨r, 0, none⟩)] w fun e w' => IntRes w w' e p (x - y) := by
  obtain ⟨b, a, n, cap, Hb, Hn, hc, hl, hcells⟩ := hr.use
  obtain ⟨c0, c1⟩ := hcells w (Only.refl _ _)
  clear hcells
  rw [← Hn.out] at ht
  have hfin := fun W h1 h2 h3 => int_plus W p q v x (!b) a y.natAbs n cap h1 h2 h3 Hn.out hc hs ht
  rw [Hb.out, signed_not, ← Hb.out, ← Int.sub_eq_add_neg] at hfin
  have HF := Lib.hid hfin; clear hfin
  go_enter Tryz.func106, Tryz.ntmps106
  go_wp2
  go_region_with (go_at_call 153; refine (HF.out _ ?_ ?_ ?_).mono ?_; exact hp.drew; exact hq.drew; exact hl.drew; rintro e w2 ⟨rfl, h5, h6⟩)
  all_goals go_wp2
  all_goals go_ret
  all_goals exact ⟨rfl, h5, Only.of_drew h6⟩

end Go.Proofs.YtbffpkmfhkphdaaGreatDoor
