/- The walk of Mul of package big's integers. -/
import Derived.Test.YtbffpkmfhkphdaaGreatDoorPlusC
import Derived.Test.YtbffpkmfhkphdaaGreatDoorGNat2
namespace Go.Proofs.YtbffpkmfhkphdaaGreatDoor
open Go Go.RowKit Limb

theorem big_times' (w : World) (a b : Option Addr) (x y n m : Nat) (ca cb : Nat) (ha : Lay .u32 w a (rep x)) (hb : Lay .u32 w b (rep y)) (hn : n = (rep x).length) (hm : m = (rep y).length)
    (lx : n ≤ 1099511627776) (ly : m ≤ 1099511627776) :
    Calls Tryz.prog 163 #[.slice a n ca, .slice b m cb] w fun e w' => ∃ a c s, e = .returned (.slice a s c) ∧ s = (rep (x * y)).length ∧ s ≤ c ∧ Lay .u32 w' a (rep (x * y)) ∧ Below w.heap.size w w' := by
  have := big_times w a b (rep x) (rep y) n m ca cb ha hb (rep_lim _) (rep_lim _) hn hm lx ly
  rw [val_rep, val_rep] at this
  exact this.mono fun e w' ⟨a, c, h1, h2, _, h4, h5⟩ => ⟨a, c, _, h1, rfl, h2, h4, h5⟩

set_option maxHeartbeats 1600000 in
set_option maxRecDepth 100000 in
theorem int_mul (w : World) (p q r : Nat) (v x y : Int) (hp : IntAt w p v) (hq : IntAt w q x) (hr : IntAt w r y) (hpq : p ≠ q) (hpr : p ≠ r) (hs : (rep x.natAbs).length ≤ 68719476736) (ht : (rep y.natAbs).length ≤ 68719476736) :
    Calls Tryz.prog 104 #[.pointer (some ⟨p, 0, none⟩), .pointer (some ⟨q, 0, none⟩), .pointer (some ⟨r, 0, none⟩)] w fun e w' => IntRes w w' e p (x * y) := by
  obtain ⟨b1, a1, n1, cap1, Hb1, Hn1, hc1, hl1, hcells1⟩ := hq.use
  obtain ⟨b2, a2, n2, cap2, Hb2, Hn2, hc2, hl2, hcells2⟩ := hr.use
  rw [← Hn1.out] at hs
  rw [← Hn2.out] at ht
  have h1 : ∀ w', Only [p] w w' → w'.cell? ⟨q, 0, none⟩ = some (.bool b1) ∧ w'.cell? ⟨q, 1, none⟩ = some (.slice a1 n1 cap1) ∧ w'.cell? ⟨r, 0, none⟩ = some (.bool b2) ∧ w'.cell? ⟨r, 1, none⟩ = some (.slice a2 n2 cap2) := by
    intro w' ho
    have cq := fun i => World.cell?_of_block (a := ⟨q, i, none⟩) (ho.block q hq.lt (by simp; exact fun e => hpq e.symm))
    have cr := fun i => World.cell?_of_block (a := ⟨r, i, none⟩) (ho.block r hr.lt (by simp; exact fun e => hpr e.symm))
    rw [cq, cq, cr, cr]
    exact ⟨(hcells1 w (Only.refl _ _)).1, (hcells1 w (Only.refl _ _)).2, (hcells2 w (Only.refl _ _)).1, (hcells2 w (Only.refl _ _)).2⟩
  clear hcells1 hcells2
  obtain ⟨z, hz⟩ : ∃ z, z = x * y := ⟨_, rfl⟩
  rw [← hz]
  have hres : z.natAbs = x.natAbs * y.natAbs := by rw [hz, Int.natAbs_mul]
  have hsg : ((b1 != b2) = true → z ≤ 0) ∧ ((b1 != b2) = false → 0 ≤ z) := by
    rw [hz, Hb1.out, Hb2.out]
    constructor <;> intro h <;> by_cases hx : x < 0 <;> by_cases hy : y < 0 <;> simp [hx, hy] at h
    · exact Int.mul_nonpos_of_nonpos_of_nonneg (by omega) (by omega)
    · exact Int.mul_nonpos_of_nonneg_of_nonpos (by omega) (by omega)
    · exact Int.mul_nonneg_of_nonpos_of_nonpos (by omega) (by omega)
    · exact Int.mul_nonneg (by omega) (by omega)
  have HR := Lib.hid hres; clear hres
  have HS := Lib.hid hsg; clear hsg hz
  have H1 := Lib.hid h1; clear h1
  obtain ⟨c0, c1, d0, d1⟩ := H1.out w (Only.refl _ _)
  go_enter Tryz.func104, Tryz.ntmps104
  go_wp2
  go_region_held3 (fun w' => w'.cell? ⟨q, 0, none⟩ = some (.bool b1) ∧ w'.cell? ⟨q, 1, none⟩ = some (.slice a1 n1 cap1) ∧ w'.cell? ⟨r, 0, none⟩ = some (.bool b2) ∧ w'.cell? ⟨r, 1, none⟩ = some (.slice a2 n2 cap2))
    (first | exact H1.out _ (Only.refl _ _).drew | exact H1.out _ (Only.of_below (below_of_drew hb1)) | exact H1.out _ hb2)
    (first | (go_at_call 163; refine (big_times' _ a1 a2 x.natAbs y.natAbs n1 n2 cap1 cap2 ?_ ?_ Hn1.out Hn2.out (by omega) (by omega)).mono ?_; exact hl1.drew; exact hl2.drew; rintro e w1 ⟨a3, c3, s3, rfl, hh, h2, h3, hb1⟩; have HH := Lib.hid hh; clear hh) | (go_at_call 148; refine (big_made _ p v z _ _ _ _ ?_ ?_ ?_ ?_ HS.out).mono ?_; exact hp.drew.below hb1; rw [HR.out]; exact h3; rw [HR.out]; exact HH.out; exact h2; rintro e w2 ⟨rfl, h5, h6⟩; have hb2 := (Only.of_below (ps := [p]) (below_of_drew hb1)).trans h6 (by simp)))
  all_goals go_wp2
  all_goals go_ret
  all_goals exact ⟨rfl, h5, hb2⟩

end Go.Proofs.YtbffpkmfhkphdaaGreatDoor
