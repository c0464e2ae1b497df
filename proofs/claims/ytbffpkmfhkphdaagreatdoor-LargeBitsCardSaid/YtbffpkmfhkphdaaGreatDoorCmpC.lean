/- The walk of Cmp of package big's integers. -/
import Derived.Test.YtbffpkmfhkphdaaGreatDoorGInt
namespace Go.Proofs.YtbffpkmfhkphdaaGreatDoor
open Go Go.RowKit Limb

def cmpZ (x y : Int) : Int := if x < y then -1 else if x = y then 0 else 1

theorem cmpZ_pos {x y : Int} (hx : 0 ≤ x) (hy : 0 ≤ y) : cmpI x.natAbs y.natAbs = cmpZ x y := by
  unfold cmpI cmpZ; split <;> split <;> (try split) <;> omega
theorem cmpZ_neg {x y : Int} (hx : x < 0) (hy : y < 0) : cmpI y.natAbs x.natAbs = cmpZ x y := by
  unfold cmpI cmpZ; split <;> split <;> (try split) <;> omega

set_option maxHeartbeats 800000 in
set_option maxRecDepth 100000 in
theorem int_cmp (w : World) (p q : Nat) (x y : Int) (hp : IntAt w p x) (hq : IntAt w q y) (hs : (rep x.natAbs).length ≤ 68719476736) (ht : (rep y.natAbs).length ≤ 68719476736) :
    Calls Tryz.prog 105 #[.pointer (some ⟨p, 0, none⟩), .pointer (some ⟨q, 0, none⟩)] w fun e w' => e = .returned (.int .i64 (cmpZ x y)) ∧ ∃ n, w' = w.drewN n := by
  obtain ⟨b1, a1, n1, cap1, Hb1, Hn1, hc1, hl1, hcells1⟩ := hp.use
  obtain ⟨b2, a2, n2, cap2, Hb2, Hn2, hc2, hl2, hcells2⟩ := hq.use
  obtain ⟨c0, c1⟩ := hcells1 w (Only.refl _ _)
  obtain ⟨d0, d1⟩ := hcells2 w (Only.refl _ _)
  clear hcells1 hcells2
  rw [← Hn1.out] at hs
  rw [← Hn2.out] at ht
  by_cases hx : x < 0 <;> by_cases hy : y < 0
  · obtain rfl : b1 = true := by rw [Hb1.out]; simpa using hx
    obtain rfl : b2 = true := by rw [Hb2.out]; simpa using hy
    have hcmp := fun W (h1 : Lay .u32 W a1 (rep x.natAbs)) (h2 : Lay .u32 W a2 (rep y.natAbs)) m => big_compare (W.drewN m) a2 a1 (rep y.natAbs) (rep x.natAbs) n2 n1 cap2 cap1 (h2.drewN m) (h1.drewN m) (rep_lim _) (rep_lim _) (rep_norm _) (rep_norm _) Hn2.out Hn1.out (by omega) (by omega)
    simp only [val_rep, cmpZ_neg hx hy] at hcmp
    have HC := Lib.hid hcmp; clear hcmp hx hy
    go_enter Tryz.func105, Tryz.ntmps105
    go_wp2
    go_quiet (fail)
    go_wp2
    obtain ⟨W, hW⟩ : ∃ W, W = w.drewN nq := ⟨_, rfl⟩
    have k1 : Lay .u32 W a1 (rep x.natAbs) := by rw [hW]; exact hl1
    have k2 : Lay .u32 W a2 (rep y.natAbs) := by rw [hW]; exact hl2
    have e1 : W.cell? ⟨p, 1, none⟩ = some (.slice a1 n1 cap1) := by rw [hW]; exact c1
    have f1 : W.cell? ⟨q, 1, none⟩ = some (.slice a2 n2 cap2) := by rw [hW]; exact d1
    rw [← hW]
    have HW := Lib.hid hW; clear hW c0 c1 d0 d1
    go_quiet ((go_at_call 182; exact Calls.quiet_of (HC.out W k1 k2 _)))
    go_wp2
    go_ret
    exact ⟨rfl, by rw [HW.out]; simp only [World.drewN_drewN]; exact ⟨_, rfl⟩⟩
  · obtain rfl : b1 = true := by rw [Hb1.out]; simpa using hx
    obtain rfl : b2 = false := by rw [Hb2.out]; simpa using hy
    have e : cmpZ x y = -1 := by unfold cmpZ; rw [if_pos (by omega)]
    rw [e]
    clear e hx hy
    go_enter Tryz.func105, Tryz.ntmps105
    go_wp2
    go_quiet (fail)
    go_wp2
    go_ret
    exact ⟨rfl, by first | exact ⟨_, rfl⟩ | (simp only [World.drewN_drewN]; exact ⟨_, rfl⟩)⟩
  · obtain rfl : b1 = false := by rw [Hb1.out]; simpa using hx
    obtain rfl : b2 = true := by rw [Hb2.out]; simpa using hy
    have e : cmpZ x y = 1 := by unfold cmpZ; rw [if_neg (by omega), if_neg (by omega)]
    rw [e]
    clear e hx hy
    go_enter Tryz.func105, Tryz.ntmps105
    go_wp2
    go_quiet (fail)
    go_wp2
    go_ret
    exact ⟨rfl, by first | exact ⟨_, rfl⟩ | (simp only [World.drewN_drewN]; exact ⟨_, rfl⟩)⟩
  · obtain rfl : b1 = false := by rw [Hb1.out]; simpa using hx
    obtain rfl : b2 = false := by rw [Hb2.out]; simpa using hy
    have hcmp := fun W (h1 : Lay .u32 W a1 (rep x.natAbs)) (h2 : Lay .u32 W a2 (rep y.natAbs)) m => big_compare (W.drewN m) a1 a2 (rep x.natAbs) (rep y.natAbs) n1 n2 cap1 cap2 (h1.drewN m) (h2.drewN m) (rep_lim _) (rep_lim _) (rep_norm _) (rep_norm _) Hn1.out Hn2.out (by omega) (by omega)
    simp only [val_rep, cmpZ_pos (Int.not_lt.1 hx) (Int.not_lt.1 hy)] at hcmp
    have HC := Lib.hid hcmp; clear hcmp hx hy
    go_enter Tryz.func105, Tryz.ntmps105
    go_wp2
    go_quiet (fail)
    go_wp2
    obtain ⟨W, hW⟩ : ∃ W, W = w.drewN nq := ⟨_, rfl⟩
    have k1 : Lay .u32 W a1 (rep x.natAbs) := by rw [hW]; exact hl1
    have k2 : Lay .u32 W a2 (rep y.natAbs) := by rw [hW]; exact hl2
    have e1 : W.cell? ⟨p, 1, none⟩ = some (.slice a1 n1 cap1) := by rw [hW]; exact c1
    have f1 : W.cell? ⟨q, 1, none⟩ = some (.slice a2 n2 cap2) := by rw [hW]; exact d1
    rw [← hW]
    have HW := Lib.hid hW; clear hW c0 c1 d0 d1
    go_quiet ((go_at_call 182; exact Calls.quiet_of (HC.out W k1 k2 _)))
    go_wp2
    go_ret
    exact ⟨rfl, by rw [HW.out]; simp only [World.drewN_drewN]; exact ⟨_, rfl⟩⟩

end Go.Proofs.YtbffpkmfhkphdaaGreatDoor
