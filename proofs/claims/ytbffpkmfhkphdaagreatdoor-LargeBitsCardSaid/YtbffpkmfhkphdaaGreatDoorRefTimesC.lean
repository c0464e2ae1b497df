/- The walk of the reference's times: a product. -/
import Derived.Test.YtbffpkmfhkphdaaGreatDoorGNat2
import Derived.Test.YtbffpkmfhkphdaaGreatDoorGRefA
namespace Go.Proofs.YtbffpkmfhkphdaaGreatDoor
open Go Go.RowKit Limb

theorem times_row {zs zs0 xs ys : List Nat} {k jj : Nat} (hl : zs.length = zs0.length) (hk : k + jj ≤ zs.length) (hj : ys.length ≤ jj)
    (hs : ∀ t, k + jj ≤ t → wd zs t = wd zs0 t) (h0 : val zs0 = val (xs.take k) * val ys)
    (h : val (zs.take (k + jj)) + 0 * W (k + jj) = val (zs0.take (k + jj)) + wd xs k * val (ys.take jj) * W k) : val zs = val (xs.take (k + 1)) * val ys := by
  have e1 := val_take_drop zs (k + jj) hk
  have e2 := val_take_drop zs0 (k + jj) (by omega)
  have e3 : zs.drop (k + jj) = zs0.drop (k + jj) := by
    apply ext_wd (by simp [hl])
    intro i _
    rw [wd_drop, wd_drop]; exact hs _ (by omega)
  rw [e3] at e1
  rw [List.take_of_length_le hj, Nat.zero_mul, Nat.add_zero] at h
  rw [val_take_succ xs, Nat.add_mul, Nat.mul_comm (W k), Nat.mul_right_comm, ← h0]
  omega

set_option maxHeartbeats 1600000 in
set_option maxRecDepth 1000000 in
theorem ref_times (w : World) (a b : Option Addr) (xs ys : List Nat) (n m ca cb : Nat) (ha : Lay .u32 w a xs) (hb : Lay .u32 w b ys) (hx : Lim xs) (hy : Lim ys) (hn : n = xs.length) (hm : m = ys.length)
    (ln : n ≤ 1099511627776) (lm : m ≤ 1099511627776) :
    Calls Tryz.prog 89 #[.slice a n ca, .slice b m cb] w fun e w' => NatRes w w' e (val xs * val ys) := by
  obtain ⟨b1, off1, hix, hcx, _⟩ := ha.use 22 60 Tryz.underlying22 size32 ca
  obtain ⟨b2, off2, hiy, hcy, _⟩ := hb.use 22 60 Tryz.underlying22 size32 cb
  rw [← hn] at hix hcx
  rw [← hm] at hiy hcy
  have Hn := Lib.hid hn; clear hn
  have Hm := Lib.hid hm; clear hm
  have HX := Lib.hid hix; clear hix
  have HCX := Lib.hid hcx; clear hcx
  have HY := Lib.hid hiy; clear hiy
  have HCY := Lib.hid hcy; clear hcy
  go_enter Tryz.func89, Tryz.ntmps89
  go_wp2_with (at_make; refine wpList_make_row rfl _ _ _ rfl 60 (.int .u32 0) 4 Tryz.underlying22 info32 rfl _ _ _ _ (n + m) (n + m) rfl rfl (by simp) (by simp) (by omega) (by omega) (by omega) ?_; intro w1 g hg1 hg2 hrow hbel)
  go_loopw [6] (fun i wr => ∃ (k : Nat) (zs : List Nat), k ≤ n ∧ i = .int .i64 k ∧ Hid (zs.length = n + m) ∧ Lim zs ∧ Row wr g 60 (nums .u32 zs) ∧
      Hid (val zs = val (xs.take k) * val ys) ∧ Hid (∀ t, k + m ≤ t → wd zs t = 0) ∧ Below w.heap.size w wr) (fun i _ => n - (intOf i).toNat)
  case atStart => exact ⟨0, List.replicate (n + m) 0, by omega, rfl, Lib.hid (by simp), Lim.replicate _ (by decide), by rw [nums_replicate]; exact hrow, Lib.hid (by simp [val, val_replicate]), Lib.hid (fun t _ => wd_replicate _ _), hbel⟩
  case round =>
    obtain ⟨k, zs0, hk, rfl, Hzl, hzlim, hr, Hv, H0, hbl⟩ := hrel
    clear hrow hbel
    have h1 := hx.wd k
    by_cases hlt : k < n
    · have ix := fun (W : World) => HX.out W .i64 k (by omega) (by omega)
      simp only [Int.toNat_natCast] at ix
      obtain ⟨wo, hwo⟩ : ∃ wo : World, wo = wr := ⟨_, rfl⟩
      subst hwo
      go_wp2
      go_loopw [7, 8] (fun c j wr => ∃ (jj cc : Nat) (zs : List Nat), jj ≤ m + 1 ∧ Hid (jj = m + 1 → cc = 0) ∧ j = .int .i64 jj ∧ c = .int .u64 cc ∧ cc < 4294967296 ∧ Hid (zs.length = n + m) ∧ Lim zs ∧ Row wr g 60 (nums .u32 zs) ∧
          Hid (∀ t, k + jj ≤ t → wd zs t = wd zs0 t) ∧ Hid (val (zs.take (k + jj)) + cc * W (k + jj) = val (zs0.take (k + jj)) + wd xs k * val (ys.take jj) * W k) ∧ Below w.heap.size w wr) (fun _ j _ => m + 1 - (intOf j).toNat)
      case atStart => exact ⟨0, 0, zs0, by omega, Lib.hid (fun _ => rfl), rfl, rfl, by omega, Lib.hid Hzl.out, hzlim, hr, Lib.hid (fun _ _ => rfl), Lib.hid (by simp [val]), hbl⟩
      case round =>
        obtain ⟨j, c, zs, hj, Hj, rfl, rfl, hc, Hzl2, hzlim2, hr2, Hs, Hv2, hbl2⟩ := hrel
        clear hr hbl
        have h2 := hy.wd j
        have h3 := hzlim2.wd (k + j)
        by_cases hgo : j < m ∨ 0 < c
        · have jm : j ≤ m := by have := Hj.out; omega
          have hcell := hr2.cell (i := k + j) (by rw [Hzl2.out]; omega)
          have hfk := hr2.free (k + j)
          have ig := row_index (P := Tryz.prog) Tryz.underlying22 size32 g (n + m) (n + m) .i64 ((k : Int) + (j : Int)) (k + j) (by omega) (by omega)
          have hst := Lib.hid (times_in' (by rw [Hzl2.out]; omega) (Hs.out _ (Nat.le_refl _)) Hv2.out)
          obtain ⟨t, ht⟩ : ∃ t, t = wd xs k * wd ys j + wd zs (k + j) + c := ⟨_, rfl⟩
          have tb : t < 18446744073709551616 := by
            rw [ht]
            have := Nat.mul_le_mul (show wd xs k ≤ 4294967295 by omega) (show wd ys j ≤ 4294967295 by omega); omega
          rw [← ht] at hst
          obtain ⟨d, hd⟩ : ∃ d, d = t % 4294967296 := ⟨_, rfl⟩
          obtain ⟨c2, hc2⟩ : ∃ c2, c2 = t / 4294967296 := ⟨_, rfl⟩
          rw [← hd, ← hc2] at hst
          have ed : (t : Int) % 4294967296 = (d : Int) := by omega
          have ec : (t : Int) / 4294967296 = (c2 : Int) := by omega
          have dl : d < 4294967296 := by omega
          have cl : c2 < 4294967296 := by omega
          have hs2 : Hid (∀ t, k + (j + 1) ≤ t → wd (zs.set (k + j) d) t = wd zs0 t) := Lib.hid (fun t h => by rw [wd_set (by rw [Hzl2.out]; omega), if_neg (by omega)]; exact Hs.out t (by omega))
          by_cases hjm : j < m
          · have iy := fun (W : World) => HY.out W .i64 j (by omega) (by omega)
            simp only [Int.toNat_natCast] at iy
            have cx := HCX.out wr hbl2 k hlt
            have cy := HCY.out wr hbl2 j hjm
            have d1 : decide (j < m) = true := by rw [decide_eq_true_eq]; exact hjm
            obtain ⟨p, hp⟩ : ∃ p, p = wd xs k * wd ys j := ⟨_, rfl⟩
            have ep : ((wd xs k : Nat) : Int) * ((wd ys j : Nat) : Int) = (p : Int) := by rw [hp, Int.natCast_mul]
            rw [← hp] at ht
            have pb : p < 18446744073709551616 := by omega
            have et : ((wd zs (k + j) : Nat) : Int) + (c : Int) + (p : Int) = (t : Int) := by omega
            have hlast : Hid (j + 1 = m + 1 → c2 = 0) := Lib.hid (fun e => by omega)
            clear hd hc2 hp ht hgo
            go_wp2
            go_quiet (fail)
            go_wp2
            go_roundw
            case rel => exact ⟨j + 1, c2, zs.set (k + j) d, by omega, hlast, by go_num, rfl, cl, Lib.hid (by rw [List.length_set, Hzl2.out]), hzlim2.set dl, (hr2.drewN _).store _ _ _ rfl, hs2, hst, below_store (below_drewN hbl2 _) hg1 _⟩
            case measure => simp [intOf]; omega
          · have ej : j = m := by omega
            have z1 := wd_ge (l := ys) (i := j) (by rw [← Hm.out]; omega)
            have z2 : wd zs (k + j) = 0 := by rw [Hs.out _ (Nat.le_refl _)]; exact H0.out _ (by omega)
            rw [z1, z2, Nat.mul_zero] at ht
            have d1 : decide (j < m) = false := by rw [decide_eq_false_iff_not]; exact hjm
            have d2 : decide (0 < c) = true := by rw [decide_eq_true_eq]; omega
            have et : ((wd zs (k + j) : Nat) : Int) + (c : Int) = (t : Int) := by omega
            have hlast : Hid (j + 1 = m + 1 → c2 = 0) := Lib.hid (fun e => by omega)
            have jm1 : j + 1 ≤ m + 1 := by omega
            clear hd hc2 ht hgo z1 z2 ej
            go_wp2
            go_roundw
            case rel => exact ⟨j + 1, c2, zs.set (k + j) d, jm1, hlast, by go_num, rfl, cl, Lib.hid (by rw [List.length_set, Hzl2.out]), hzlim2.set dl, hr2.store _ _ _ rfl, hs2, hst, below_store hbl2 hg1 _⟩
            case measure => simp [intOf]; omega
        · have z : c = 0 := by omega
          subst z
          have d1 : decide (j < m) = false := by rw [decide_eq_false_iff_not]; omega
          have hvn := Lib.hid (times_row (by rw [Hzl2.out, Hzl.out]) (by rw [Hzl2.out]; omega) (by rw [← Hm.out]; omega) Hs.out Hv.out Hv2.out)
          have hz2 : Hid (∀ t, k + 1 + m ≤ t → wd zs t = 0) := Lib.hid (fun t h => by rw [Hs.out t (by omega)]; exact H0.out t (by omega))
          clear hgo
          go_wp2
          go_roundw
          case rel => exact ⟨k + 1, zs, by omega, by go_num, Lib.hid Hzl2.out, hzlim2, hr2, hvn, hz2, hbl2⟩
          case measure => simp [intOf]; omega
    · obtain rfl : k = n := by omega
      have hl2 := hr.lay
      have hle2 := rep_val_le hzlim
      have hval : Hid (val zs0 = val xs * val ys) := by
        have h := Hv.out
        rw [List.take_of_length_le (by rw [Hn.out]; omega)] at h
        exact h
      go_wp2_with (go_at_call 101; refine (ref_cut _ _ zs0 _ _ (by assumption) (by assumption) (by rw [Hzl.out]) (by omega) (by omega)).mono ?_; rintro e w' ⟨rfl, rfl⟩)
      go_ret
      rw [Hzl.out] at hle2
      rw [← hval.out]
      exact ⟨_, _, rfl, hle2, by omega, hl2.norm hzlim, hbl⟩

end Go.Proofs.YtbffpkmfhkphdaaGreatDoor
