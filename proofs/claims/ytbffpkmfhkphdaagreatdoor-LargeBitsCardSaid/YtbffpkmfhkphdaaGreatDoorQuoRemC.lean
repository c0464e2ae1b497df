/- The walks of QuoRem and Mod of package big's integers. -/
import Derived.Test.YtbffpkmfhkphdaaGreatDoorPlusC
namespace Go.Proofs.YtbffpkmfhkphdaaGreatDoor
open Go Go.RowKit Limb

theorem big_quotient' (w : World) (a b : Option Addr) (x y n m : Nat) (ca cb : Nat) (ha : Lay .u32 w a (rep x)) (hb : Lay .u32 w b (rep y)) (hn : n = (rep x).length) (hm : m = (rep y).length)
    (lx : n ≤ 274877906944) (ly : m ≤ 274877906944) (hca : n ≤ ca) (hy : 0 < y) :
    Calls Tryz.prog 162 #[.slice a n ca, .slice b m cb] w fun e w' => ∃ a ca s b cb t, e = .returned (.tuple #[.slice a s ca, .slice b t cb]) ∧ s = (rep (x / y)).length ∧ t = (rep (x % y)).length ∧ s ≤ ca ∧ t ≤ cb ∧ Lay .u32 w' a (rep (x / y)) ∧ Lay .u32 w' b (rep (x % y)) ∧ Below w.heap.size w w' := by
  have := big_quotient w a b (rep x) (rep y) n m ca cb ha hb (rep_lim _) (rep_lim _) (rep_norm _) (rep_norm _) hn hm lx ly hca (by rw [val_rep]; exact hy)
  rw [val_rep, val_rep] at this
  exact this.mono fun e w' ⟨a, ca, b, cb, h1, h2, h3, h4, h5, h6⟩ => ⟨a, ca, _, b, cb, _, h1, rfl, rfl, h2, h3, h4, h5, h6⟩

/-- The answer of QuoRem: two integers are set. -/
def IntRes2 (w w' : World) (e : Ending) (p r : Nat) (y z : Int) : Prop :=
  e = .returned (.tuple #[.pointer (some ⟨p, 0, none⟩), .pointer (some ⟨r, 0, none⟩)]) ∧ IntAt w' p y ∧ IntAt w' r z ∧ Only [p, r] w w'

theorem tdiv_abs (x y : Int) : (x.tdiv y).natAbs = x.natAbs / y.natAbs := Int.natAbs_tdiv x y
theorem tmod_abs (x y : Int) : (x.tmod y).natAbs = x.natAbs % y.natAbs := Int.natAbs_tmod x y
theorem tdiv_sign {x y : Int} : ((!(decide (x < 0) == decide (y < 0))) = true → x.tdiv y ≤ 0) ∧ ((!(decide (x < 0) == decide (y < 0))) = false → 0 ≤ x.tdiv y) := by
  constructor <;> intro h <;> by_cases hx : x < 0 <;> by_cases hy : y < 0 <;> simp [hx, hy] at h
  · have e : x.tdiv y = -((-x).tdiv y) := by rw [Int.neg_tdiv, Int.neg_neg]
    have := Int.tdiv_nonneg (a := -x) (b := y) (by omega) (by omega)
    omega
  · have e : x.tdiv y = -(x.tdiv (-y)) := by rw [Int.tdiv_neg, Int.neg_neg]
    have := Int.tdiv_nonneg (a := x) (b := -y) (by omega) (by omega)
    omega
  · have e : x.tdiv y = (-x).tdiv (-y) := by rw [Int.neg_tdiv, Int.tdiv_neg, Int.neg_neg]
    rw [e]; exact Int.tdiv_nonneg (by omega) (by omega)
  · exact Int.tdiv_nonneg (by omega) (by omega)
theorem tmod_sign {x y : Int} : (decide (x < 0) = true → x.tmod y ≤ 0) ∧ (decide (x < 0) = false → 0 ≤ x.tmod y) := by
  constructor <;> intro h <;> simp at h
  · have e : x.tmod y = -((-x).tmod y) := by rw [Int.neg_tmod, Int.neg_neg]
    have := Int.tmod_nonneg (a := -x) y (by omega)
    omega
  · exact Int.tmod_nonneg y h

set_option maxHeartbeats 1600000 in
set_option maxRecDepth 100000 in
theorem int_quorem (w : World) (p q r s : Nat) (v u x y : Int) (hp : IntAt w p v) (hq : IntAt w q x) (hr : IntAt w r y) (hs : IntAt w s u) (hps : p ≠ s) (hy : y ≠ 0) (lx : (rep x.natAbs).length ≤ 68719476736) (ly : (rep y.natAbs).length ≤ 68719476736) :
    Calls Tryz.prog 166 #[.pointer (some ⟨p, 0, none⟩), .pointer (some ⟨q, 0, none⟩), .pointer (some ⟨r, 0, none⟩), .pointer (some ⟨s, 0, none⟩)] w fun e w' => IntRes2 w w' e p s (x.tdiv y) (x.tmod y) := by
  obtain ⟨b1, a1, n1, cap1, Hb1, Hn1, hc1, hl1, hcells1⟩ := hq.use
  obtain ⟨b2, a2, n2, cap2, Hb2, Hn2, hc2, hl2, hcells2⟩ := hr.use
  rw [← Hn1.out] at lx
  rw [← Hn2.out] at ly
  obtain ⟨c0, c1⟩ := hcells1 w (Only.refl _ _)
  obtain ⟨d0, d1⟩ := hcells2 w (Only.refl _ _)
  clear hcells1 hcells2
  have hsq := @tdiv_sign x y
  have hsr := @tmod_sign x y
  rw [← Hb1.out, ← Hb2.out] at hsq
  rw [← Hb1.out] at hsr
  have HQ := Lib.hid hsq; clear hsq
  have HR := Lib.hid hsr; clear hsr
  have AQ := Lib.hid (tdiv_abs x y)
  have AR := Lib.hid (tmod_abs x y)
  have hy0 : 0 < y.natAbs := by omega
  go_enter Tryz.func166, Tryz.ntmps166
  go_wp2
  go_quiet (fail)
  go_wp2
  obtain ⟨W, hW⟩ : ∃ W, W = w.drewN nq := ⟨_, rfl⟩
  have k1 : Lay .u32 W a1 (rep x.natAbs) := by rw [hW]; exact hl1
  have k2 : Lay .u32 W a2 (rep y.natAbs) := by rw [hW]; exact hl2
  have kp : IntAt W p v := by rw [hW]; exact hp
  have ks : IntAt W s u := by rw [hW]; exact hs
  have e1 : W.cell? ⟨q, 1, none⟩ = some (.slice a1 n1 cap1) := by rw [hW]; exact c1
  have f1 : W.cell? ⟨r, 1, none⟩ = some (.slice a2 n2 cap2) := by rw [hW]; exact d1
  have hoW : Only [p, s] w W := by rw [hW]; exact (Only.refl _ _).drewN _
  rw [← hW]
  clear hW c0 c1 d0 d1
  go_upto_region 2 with fail
  go_cut [12, 13] (fun q r w' => ∃ a ca s b cb t, q = .slice a s ca ∧ r = .slice b t cb ∧ Hid (s = (rep (x.natAbs / y.natAbs)).length) ∧ Hid (t = (rep (x.natAbs % y.natAbs)).length) ∧ s ≤ ca ∧ t ≤ cb ∧ Lay .u32 w' a (rep (x.natAbs / y.natAbs)) ∧ Lay .u32 w' b (rep (x.natAbs % y.natAbs)) ∧ Below W.heap.size W w')
  case first =>
    go_wp2_with fail
    go_region_with (go_at_call 162; refine (big_quotient' _ a1 a2 x.natAbs y.natAbs n1 n2 cap1 cap2 ?_ ?_ Hn1.out Hn2.out (by omega) (by omega) hc1 hy0).mono ?_; exact k1.drew; exact k2.drew; rintro e w1 ⟨a3, c3, s3, b3, cb3, t3, rfl, h1, h2, h3, h4, h5, h6, h7⟩; have H1 := Lib.hid h1; clear h1; have H2 := Lib.hid h2; clear h2)
    all_goals go_wp2
    all_goals go_meet
    all_goals exact ⟨_, _, _, _, _, _, rfl, rfl, H1, H2, h3, h4, h5, h6, below_of_drew h7⟩
  case rest =>
    obtain ⟨a3, c3, s3, b3, cb3, t3, rfl, rfl, H1, H2, h3, h4, h5, h6, h7⟩ := hcut
    go_wp2_with fail
    refine (big_made _ p v (x.tdiv y) _ _ _ _ (kp.below h7) (by rw [AQ.out]; exact h5) (by rw [AQ.out]; exact H1.out) h3 HQ.out).mono ?_
    rintro e w2 ⟨rfl, h8, h9⟩
    have ib := IntBlocks.one (kp.below h7)
    go_wp2_with fail
    refine (big_made _ s u (x.tmod y) _ _ _ _ ((ks.below h7).only h9 (by simp; exact fun e => hps e.symm) ib) (by rw [AR.out]; exact h6.only h9 (h6.notInt ib)) (by rw [AR.out]; exact H2.out) h4 HR.out).mono ?_
    rintro e w3 ⟨rfl, h10, h11⟩
    go_wp2
    go_ret2
    refine ⟨rfl, h8.only h11 (by simp; exact hps) (IntBlocks.one ((ks.below h7).only h9 (by simp; exact fun e => hps e.symm) ib)), h10, ?_⟩
    exact hoW.trans (((Only.of_below (ps := [p, s]) h7).trans h9 (by simp)).trans h11 (by simp)) (by simp)

end Go.Proofs.YtbffpkmfhkphdaaGreatDoor
