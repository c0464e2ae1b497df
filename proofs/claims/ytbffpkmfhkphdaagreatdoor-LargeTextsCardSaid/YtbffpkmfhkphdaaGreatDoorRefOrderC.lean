/- The walk of the reference's order. -/
import Derived.Test.YtbffpkmfhkphdaaGreatDoorGX07
set_option linter.unusedVariables false
set_option linter.unusedSimpArgs false
namespace Go.Proofs.YtbffpkmfhkphdaaGreatDoor
open Go Go.RowKit Limb

theorem order_ge {x y : Nat} (h : y ≤ x) : 0 ≤ cmpI x y := by unfold cmpI; rw [if_neg (by omega)]; split <;> omega
theorem order_lt {x y : Nat} (h : x < y) : cmpI x y < 0 := by unfold cmpI; rw [if_pos h]; omega

set_option maxHeartbeats 800000 in
set_option maxRecDepth 100000 in
theorem ref_order (w : World) (a b : Option Addr) (xs ys : List Nat) (n m ca cb : Nat) (ha : Lay .u32 w a xs) (hb : Lay .u32 w b ys) (hx : Lim xs) (hy : Lim ys) (nx : Norm xs) (ny : Norm ys)
    (hn : n = xs.length) (hm : m = ys.length) (ln : n ≤ 9223372036854775807) (lm : m ≤ 9223372036854775807) :
    Calls Tryz.prog 87 #[.slice a n ca, .slice b m cb] w fun e w' => e = .returned (.int .i64 (cmpI (val xs) (val ys))) ∧ ∃ q, w' = w.drewN q := by
  rcases Nat.lt_trichotomy n m with h | h | h
  · rw [cmp_len_lt hx hy ny (by omega)]
    clear hn hm
    have hq : ((n : Int) != (m : Int)) = true := by rw [bne_iff_ne]; omega
    go_enter Tryz.func87, Tryz.ntmps87
    go_wp2
    go_ret
    exact ⟨rfl, 0, rfl⟩
  · obtain ⟨b1, off1, hix, hcx, _⟩ := ha.use 22 60 Tryz.underlying22 size32 ca
    obtain ⟨b2, off2, hiy, hcy, _⟩ := hb.use 22 60 Tryz.underlying22 size32 cb
    subst h
    rw [← hn] at hix hcx
    rw [← hm] at hiy hcy
    have Hn := Lib.hid hn; clear hn
    have Hm := Lib.hid hm; clear hm
    have HX := Lib.hid hix; clear hix
    have HY := Lib.hid hiy; clear hiy
    have HCX := Lib.hid hcx; clear hcx
    have HCY := Lib.hid hcy; clear hcy
    go_enter Tryz.func87, Tryz.ntmps87
    go_wp2
    go_loopw [5] (fun i wr => ∃ (k : Nat), k ≤ n ∧ i = .int .i64 ((k : Int) - 1) ∧ xs.drop k = ys.drop k ∧ ∃ q, wr = w.drewN q) (fun i _ => ((intOf i) + 1).toNat)
    case atStart => exact ⟨n, Nat.le_refl _, rfl, by rw [List.drop_of_length_le (by rw [Hn.out]; exact Nat.le_refl _), List.drop_of_length_le (by rw [Hm.out]; exact Nat.le_refl _)], 0, rfl⟩
    case round =>
      obtain ⟨k, hk, rfl, hd, q, rfl⟩ := hrel
      have Hd := Lib.hid hd; clear hd
      by_cases h0 : k = 0
      · have hv : Hid (xs = ys) := by have := Hd.out; rw [h0] at this; unfold Hid; simpa using this
        subst h0
        go_wp2
        go_ret
        exact ⟨by rw [hv.out]; simp [cmpI], q, rfl⟩
      · obtain ⟨j, rfl⟩ : ∃ j, k = j + 1 := ⟨k - 1, by omega⟩
        have hj : ((j + 1 : Nat) : Int) - 1 = (j : Int) := by omega
        rw [hj]
        clear hj h0
        have ix := fun q => HX.out (w.drewN q) .i64 j (by omega) (by omega)
        have iy := fun q => HY.out (w.drewN q) .i64 j (by omega) (by omega)
        simp only [Int.toNat_natCast] at ix iy
        have cx := HCX.out w (Below.refl _ _) j (by omega)
        have cy := HCY.out w (Below.refl _ _) j (by omega)
        have hat := cmp_at hx hy (by rw [← Hn.out, ← Hm.out]) (k := j) (by rw [← Hn.out]; omega) Hd.out
        have h1 := hx.wd j
        have h2 := hy.wd j
        have HA := Lib.hid hat; clear hat
        rcases Nat.lt_trichotomy (wd xs j) (wd ys j) with h | h | h
        · have hq : (((wd xs j : Nat) : Int) != ((wd ys j : Nat) : Int)) = true := by rw [bne_iff_ne]; omega
          have hv := Lib.hid (HA.out.1 h)
          go_wp2
          go_quiet (fail)
          go_wp2
          go_quiet (fail)
          go_wp2
          go_ret
          rw [hv.out]
          exact ⟨rfl, by first | exact ⟨_, rfl⟩ | (simp only [World.drewN_drewN]; exact ⟨_, rfl⟩)⟩
        · have hq : (((wd xs j : Nat) : Int) != ((wd ys j : Nat) : Int)) = false := by rw [bne_eq_false_iff_eq]; omega
          have hv := Lib.hid (HA.out.2.2 h)
          clear h
          go_wp2
          go_quiet (fail)
          go_wp2
          go_roundw
          case rel => exact ⟨j, by omega, rfl, hv.out, by first | exact ⟨_, rfl⟩ | (simp only [World.drewN_drewN]; exact ⟨_, rfl⟩)⟩
          case measure => first | (simp [intOf]; done) | (simp [intOf]; omega)
        · have hq : (((wd xs j : Nat) : Int) != ((wd ys j : Nat) : Int)) = true := by rw [bne_iff_ne]; omega
          have hv := Lib.hid (HA.out.2.1 h)
          go_wp2
          go_quiet (fail)
          go_wp2
          go_quiet (fail)
          go_wp2
          go_ret
          rw [hv.out]
          exact ⟨rfl, by first | exact ⟨_, rfl⟩ | (simp only [World.drewN_drewN]; exact ⟨_, rfl⟩)⟩
  · rw [cmp_len_gt hx hy nx (by omega)]
    clear hn hm
    have hq : ((n : Int) != (m : Int)) = true := by rw [bne_iff_ne]; omega
    go_enter Tryz.func87, Tryz.ntmps87
    go_wp2
    go_ret
    exact ⟨rfl, 0, rfl⟩

end Go.Proofs.YtbffpkmfhkphdaaGreatDoor
