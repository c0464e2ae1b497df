/- The walk of the reference's less: a difference. The walks of the reference's made, Of and Neg. The walk of the reference's times: a product. The walk of the law's is, where an answer is the document's. -/
import Derived.Test.YtbffpkmfhkphdaaGreatDoorGX08
import Derived.Test.YtbffpkmfhkphdaaGreatDoorGX19
import Derived.Test.YtbffpkmfhkphdaaGreatDoorGX30
import Derived.Test.YtbffpkmfhkphdaaGreatDoorGX06
set_option linter.unusedVariables false
set_option linter.unusedSimpArgs false
namespace Go.Proofs.YtbffpkmfhkphdaaGreatDoor
open Go Go.RowKit Limb

/-- A difference, in memory of its own. -/
def LessRes (w w' : World) (e : Ending) (N : Nat) : Prop :=
  ∃ a cap, e = .returned (.slice a (rep N).length cap) ∧ (rep N).length ≤ cap ∧ Lay .u32 w' a (rep N) ∧ Below w.heap.size w w' ∧ Fresh w a

set_option maxHeartbeats 1600000 in
set_option maxRecDepth 1000000 in
theorem ref_less (w : World) (a b : Option Addr) (xs ys : List Nat) (n m ca cb : Nat) (ha : Lay .u32 w a xs) (hb : Lay .u32 w b ys) (hx : Lim xs) (hy : Lim ys) (hn : n = xs.length) (hm : m = ys.length)
    (ln : n ≤ 1099511627776) (hle : val ys ≤ val xs) (hmn : m ≤ n) :
    Calls Tryz.prog 88 #[.slice a n ca, .slice b m cb] w fun e w' => LessRes w w' e (val xs - val ys) := by
  obtain ⟨b1, off1, hix, hcx, _⟩ := ha.use 22 60 Tryz.underlying22 size32 ca
  obtain ⟨b2, off2, hiy, hcy, _⟩ := hb.use 22 60 Tryz.underlying22 size32 cb
  rw [← hn] at hix hcx
  rw [← hm] at hiy hcy
  have Hn := Lib.hid hn; clear hn
  have Hm := Lib.hid hm; clear hm
  have HX := Lib.hid hix; clear hix
  have HCX := Lib.hid hcx; clear hcx
  have HY := Lib.hid hiy; clear hiy
  have HCY := Lib.hid hcy; clear hcy
  go_enter Tryz.func88, Tryz.ntmps88
  go_wp2_with (at_make; refine wpList_make_row rfl _ _ _ rfl 60 (.int .u32 0) 4 Tryz.underlying22 info32 rfl _ _ _ _ n n rfl rfl rfl rfl (by omega) (by omega) (by omega) ?_; intro w1 g hg1 hg2 hrow hbel)
  go_loopw [6, 7] (fun c i wr => ∃ (k cc : Nat) (zs : List Nat), k ≤ n ∧ i = .int .i64 k ∧ c = .int .i64 cc ∧ cc ≤ 1 ∧ Hid (zs.length = n) ∧ Lim zs ∧ Row wr g 60 (nums .u32 zs) ∧
      Hid (val (zs.take k) + val (ys.take k) = val (xs.take k) + cc * W k) ∧ Below w.heap.size w wr) (fun _ i _ => n - (intOf i).toNat)
  case atStart => exact ⟨0, 0, List.replicate n 0, by omega, rfl, rfl, by omega, Lib.hid (by simp), Lim.replicate _ (by decide), by rw [nums_replicate]; exact hrow, Lib.hid (by simp [val]), hbel⟩
  case round =>
    obtain ⟨k, c, zs, hk, rfl, rfl, hc1, Hzl, hzlim, hr, Hv, hbl⟩ := hrel
    clear hrow hbel
    have h1 := hx.wd k
    have h2 := hy.wd k
    by_cases hlt : k < n
    · have hcell := hr.cell (i := k) (by rw [Hzl.out]; omega)
      have hfk := hr.free k
      have ix := HX.out wr .i64 k (by omega) (by omega)
      rw [Int.toNat_natCast] at ix
      have cx : wr.cell? ⟨b1, off1 + k, none⟩ = some (.int .u32 (wd xs k : Nat)) := HCX.out wr hbl k hlt
      have ig := row_index (P := Tryz.prog) Tryz.underlying22 size32 g n n .i64 (k : Int) k rfl hlt
      have hst := Lib.hid (less_step (by rw [Hzl.out]; exact hlt) hc1 h1 h2 Hv.out)
      obtain ⟨d, hd⟩ : ∃ d, d = (wd xs k + 4294967296 - wd ys k - c) % 4294967296 := ⟨_, rfl⟩
      rw [← hd] at hst
      have dl : d < 4294967296 := by omega
      by_cases hkm : k < m
      · have iy := HY.out wr .i64 k (by omega) (by omega)
        rw [Int.toNat_natCast] at iy
        have cy := HCY.out wr hbl k hkm
        have d1 : decide (k < m) = true := by rw [decide_eq_true_eq]; exact hkm
        by_cases hbw : wd xs k < wd ys k + c
        · have eb : (if wd xs k < wd ys k + c then 1 else 0) = 1 := if_pos hbw
          have ev : (wd xs k : Int) - (c : Int) - (wd ys k : Nat) + 4294967296 = (d : Int) := by omega
          have et : decide ((wd xs k : Int) - (c : Int) - (wd ys k : Nat) < 0) = true := by rw [decide_eq_true_eq]; omega
          rw [eb] at hst
          clear hd eb hbw
          go_wp2
          go_roundw
          case rel => exact ⟨k + 1, 1, zs.set k d, by omega, by go_num, rfl, by omega, Lib.hid (by rw [List.length_set, Hzl.out]), hzlim.set dl, hr.store _ _ _ rfl, hst, below_store hbl hg1 _⟩
          case measure => simp [intOf]; omega
        · have eb : (if wd xs k < wd ys k + c then 1 else 0) = 0 := if_neg hbw
          have ev : (wd xs k : Int) - (c : Int) - (wd ys k : Nat) = (d : Int) := by omega
          have et : decide ((wd xs k : Int) - (c : Int) - (wd ys k : Nat) < 0) = false := by rw [decide_eq_false_iff_not]; omega
          have et2 : ¬ (d : Int) < 0 := by omega
          rw [eb] at hst
          clear hd eb hbw
          go_wp2
          go_roundw
          case rel => exact ⟨k + 1, 0, zs.set k d, by omega, by go_num, rfl, by omega, Lib.hid (by rw [List.length_set, Hzl.out]), hzlim.set dl, hr.store _ _ _ rfl, hst, below_store hbl hg1 _⟩
          case measure => simp [intOf]; omega
      · have z2 := wd_ge (l := ys) (i := k) (by rw [← Hm.out]; omega)
        have d1 : decide (k < m) = false := by rw [decide_eq_false_iff_not]; exact hkm
        by_cases hbw : wd xs k < wd ys k + c
        · have eb : (if wd xs k < wd ys k + c then 1 else 0) = 1 := if_pos hbw
          have ev : (wd xs k : Int) - (c : Int) + 4294967296 = (d : Int) := by omega
          have et : decide ((wd xs k : Int) - (c : Int) < 0) = true := by rw [decide_eq_true_eq]; omega
          rw [eb] at hst
          clear hd eb hbw z2
          go_wp2
          go_roundw
          case rel => exact ⟨k + 1, 1, zs.set k d, by omega, by go_num, rfl, by omega, Lib.hid (by rw [List.length_set, Hzl.out]), hzlim.set dl, hr.store _ _ _ rfl, hst, below_store hbl hg1 _⟩
          case measure => simp [intOf]; omega
        · have eb : (if wd xs k < wd ys k + c then 1 else 0) = 0 := if_neg hbw
          have ev : (wd xs k : Int) - (c : Int) = (d : Int) := by omega
          have et : decide ((wd xs k : Int) - (c : Int) < 0) = false := by rw [decide_eq_false_iff_not]; omega
          have et2 : ¬ (d : Int) < 0 := by omega
          rw [eb] at hst
          clear hd eb hbw z2
          go_wp2
          go_roundw
          case rel => exact ⟨k + 1, 0, zs.set k d, by omega, by go_num, rfl, by omega, Lib.hid (by rw [List.length_set, Hzl.out]), hzlim.set dl, hr.store _ _ _ rfl, hst, below_store hbl hg1 _⟩
          case measure => simp [intOf]; omega
    · obtain rfl : k = n := by omega
      have hl2 := hr.lay
      have hle2 := rep_val_le hzlim
      have hval := Lib.hid (less_end hzlim Hzl.out (by rw [Hn.out]) (by rw [← Hm.out]; exact hmn) hle Hv.out)
      clear h1 h2
      go_wp2_with (go_at_call 101; refine (ref_cut _ _ zs _ _ (by assumption) (by assumption) (by rw [Hzl.out]) (by omega) (by omega)).mono ?_; rintro e w' ⟨rfl, rfl⟩)
      go_ret
      rw [Hzl.out] at hle2
      rw [← hval.out]
      exact ⟨_, _, rfl, hle2, hl2.norm hzlim, hbl, fun b off e => by simp only [Option.some.injEq, Addr.mk.injEq] at e; omega⟩

end Go.Proofs.YtbffpkmfhkphdaaGreatDoor

namespace Go.Proofs.YtbffpkmfhkphdaaGreatDoor
open Go Go.RowKit Limb

set_option maxHeartbeats 800000 in
set_option maxRecDepth 100000 in
theorem ref_made (w : World) (neg : Bool) (a : Option Addr) (l : List Nat) (n cap : Nat) (z : Int) (hlay : Lay .u32 w a l) (hlim : Lim l) (hn : n = l.length) (hm : n ≤ 9223372036854775807) (hc : n ≤ cap) (hz : val l = z.natAbs)
    (hs : (neg = true → z ≤ 0) ∧ (neg = false → 0 ≤ z)) :
    Calls Tryz.prog 79 #[.bool neg, .slice a n cap] w fun e w' => ∃ u, e = .returned u ∧ ApiV w' u z ∧ Below w.heap.size w w' := by
  obtain ⟨W, hWe⟩ : ∃ W, W = w.alloc (.cells #[.bool false, .slice none 0 0] 24) := ⟨_, rfl⟩
  have r0 : Row W w.heap.size 24 [.bool false, .slice none 0 0] := by rw [hWe]; unfold Row; exact heap_alloc_new _ _
  have hW : Below w.heap.size w W := by rw [hWe]; exact (Below.refl _ _).alloc (Nat.le_refl _) _
  have HWe := Lib.hid hWe; clear hWe
  have hlW := hlay.below hW
  have hcut := ref_cut W a l n cap hlW hlim hn hm hc
  have hle := rep_val_le hlim
  rw [← hn] at hle
  have hln := hlW.norm hlim
  rw [hz] at hcut hle hln
  have k0 := r0.cell_at 0
  have k1 := r0.cell_at 1
  have k2 := r0.free 0
  have k3 := r0.free 1
  simp only [List.getElem?_cons_zero, List.getElem?_cons_succ] at k0 k1
  obtain ⟨m, hm'⟩ : ∃ m, m = (rep z.natAbs).length := ⟨_, rfl⟩
  rw [← hm'] at hcut hle
  have hm0 : m = 0 ↔ z = 0 := by rw [hm', rep_length_zero]; omega
  have HM0 := Lib.hid hm0; clear hm0
  have HM := Lib.hid hm'; clear hm'
  have HC := Lib.hid hcut; clear hcut
  have hfin : ∀ b : Bool, b = decide (z < 0) → ApiV ((W.setCell ⟨w.heap.size, 0, none⟩ (.bool b)).setCell ⟨w.heap.size, 1, none⟩ (.slice a m cap)) (.agg #[.bool b, .slice a m cap]) z ∧ Below w.heap.size w ((W.setCell ⟨w.heap.size, 0, none⟩ (.bool b)).setCell ⟨w.heap.size, 1, none⟩ (.slice a m cap)) := by
    intro b hb
    refine ⟨⟨a, cap, by rw [hb, HM.out], by rw [← HM.out]; omega, hln.pair r0 _ _⟩, below_store (below_store hW (Nat.le_refl _) _) (Nat.le_refl _) _⟩
  have HF := Lib.hid hfin; clear hfin
  have he : ∀ b : Bool, (W.setCell ⟨w.heap.size, 0, none⟩ (.bool b)).cell? ⟨w.heap.size, 0, none⟩ = some (.bool b) ∧ ((W.setCell ⟨w.heap.size, 0, none⟩ (.bool b)).setCell ⟨w.heap.size, 1, none⟩ (.slice a m cap)).cell? ⟨w.heap.size, 1, none⟩ = some (.slice a m cap) := fun b => ⟨(r0.store_any 0 _).cell_at 0, ((r0.store_any 0 _).store_any 1 _).cell_at 1⟩
  have HE := Lib.hid he; clear he
  have hs1 := hs.1
  have hs2 := hs.2
  clear hz hn hs hlay hlW hln r0
  cases neg with
  | false =>
    have h0 := hs2 rfl
    obtain ⟨e0, e1⟩ := HE.out false
    clear hs1 hs2
    go_enter Tryz.func79, Tryz.ntmps79
    go_wp2_with fail
    rw [← HWe.out]
    refine HC.out.mono ?_
    rintro e w' ⟨rfl, rfl⟩
    go_wp2_with fail
    (try simp only [Exit.inBlock, Exit.then])
    refine bodyPost_ret (v := .agg #[.bool false, .slice a m cap]) (by simp [results, Tryz.results79, go_sem, e0, e1]) rfl ?_
    exact ⟨_, rfl, HF.out false (by simp; omega)⟩
  | true =>
    have h0 := hs1 rfl
    clear hs1 hs2
    by_cases hz : m = 0
    · have hzz := Lib.hid (HM0.out.1 hz)
      obtain ⟨e0, e1⟩ := HE.out false
      have d1 : decide (0 < m) = false := by rw [decide_eq_false_iff_not]; omega
      have HF1 := Lib.hid (HF.out false (by rw [hzz.out]; rfl))
      clear hz
      go_enter Tryz.func79, Tryz.ntmps79
      go_wp2_with fail
      rw [← HWe.out]
      refine HC.out.mono ?_
      rintro e w' ⟨rfl, rfl⟩
      go_wp2_with fail
      (try simp only [Exit.inBlock, Exit.then])
      refine bodyPost_ret (v := .agg #[.bool false, .slice a m cap]) (by simp [results, Tryz.results79, go_sem, e0, e1]) rfl ?_
      exact ⟨_, rfl, HF1.out⟩
    · obtain ⟨e0, e1⟩ := HE.out true
      have d1 : decide (0 < m) = true := by rw [decide_eq_true_eq]; omega
      have HF1 := Lib.hid (HF.out true (by have := HM0.out; simp; omega))
      clear hz
      go_enter Tryz.func79, Tryz.ntmps79
      go_wp2_with fail
      rw [← HWe.out]
      refine HC.out.mono ?_
      rintro e w' ⟨rfl, rfl⟩
      go_wp2_with fail
      (try simp only [Exit.inBlock, Exit.then])
      refine bodyPost_ret (v := .agg #[.bool true, .slice a m cap]) (by simp [results, Tryz.results79, go_sem, e0, e1]) rfl ?_
      exact ⟨_, rfl, HF1.out⟩

end Go.Proofs.YtbffpkmfhkphdaaGreatDoor

namespace Go.Proofs.YtbffpkmfhkphdaaGreatDoor
open Go Go.RowKit Limb

theorem times_row {zs zs0 xs ys : List Nat} {k jj : Nat} (hl : zs.length = zs0.length) (hk : k + jj ≤ zs.length) (hj : ys.length ≤ jj)
    (hs : ∀ t, k + jj ≤ t → wd zs t = wd zs0 t) (h0 : val zs0 = val (xs.take k) * val ys)
    (h : val (zs.take (k + jj)) + 0 * W (k + jj) = val (zs0.take (k + jj)) + wd xs k * val (ys.take jj) * W k) : val zs = val (xs.take (k + 1)) * val ys := by
  have e1 := val_take_drop zs (k + jj) hk
  have e2 := val_take_drop zs0 (k + jj) (by omega)
  have e3 : zs.drop (k + jj) = zs0.drop (k + jj) := by
    apply ext_wd (by simp [hl])
    intro i _
    rw [wd_drop, wd_drop]; exact hs _ (by omega)
  rw [e3] at e1
  rw [List.take_of_length_le hj, Nat.zero_mul, Nat.add_zero] at h
  rw [val_take_succ xs, Nat.add_mul, Nat.mul_comm (W k), Nat.mul_right_comm, ← h0]
  omega

set_option maxHeartbeats 1600000 in
set_option maxRecDepth 1000000 in
theorem ref_times (w : World) (a b : Option Addr) (xs ys : List Nat) (n m ca cb : Nat) (ha : Lay .u32 w a xs) (hb : Lay .u32 w b ys) (hx : Lim xs) (hy : Lim ys) (hn : n = xs.length) (hm : m = ys.length)
    (ln : n ≤ 1099511627776) (lm : m ≤ 1099511627776) :
    Calls Tryz.prog 89 #[.slice a n ca, .slice b m cb] w fun e w' => NatRes w w' e (val xs * val ys) := by
  obtain ⟨b1, off1, hix, hcx, _⟩ := ha.use 22 60 Tryz.underlying22 size32 ca
  obtain ⟨b2, off2, hiy, hcy, _⟩ := hb.use 22 60 Tryz.underlying22 size32 cb
  rw [← hn] at hix hcx
  rw [← hm] at hiy hcy
  have Hn := Lib.hid hn; clear hn
  have Hm := Lib.hid hm; clear hm
  have HX := Lib.hid hix; clear hix
  have HCX := Lib.hid hcx; clear hcx
  have HY := Lib.hid hiy; clear hiy
  have HCY := Lib.hid hcy; clear hcy
  go_enter Tryz.func89, Tryz.ntmps89
  go_wp2_with (at_make; refine wpList_make_row rfl _ _ _ rfl 60 (.int .u32 0) 4 Tryz.underlying22 info32 rfl _ _ _ _ (n + m) (n + m) rfl rfl (by simp) (by simp) (by omega) (by omega) (by omega) ?_; intro w1 g hg1 hg2 hrow hbel)
  go_loopw [6] (fun i wr => ∃ (k : Nat) (zs : List Nat), k ≤ n ∧ i = .int .i64 k ∧ Hid (zs.length = n + m) ∧ Lim zs ∧ Row wr g 60 (nums .u32 zs) ∧
      Hid (val zs = val (xs.take k) * val ys) ∧ Hid (∀ t, k + m ≤ t → wd zs t = 0) ∧ Below w.heap.size w wr) (fun i _ => n - (intOf i).toNat)
  case atStart => exact ⟨0, List.replicate (n + m) 0, by omega, rfl, Lib.hid (by simp), Lim.replicate _ (by decide), by rw [nums_replicate]; exact hrow, Lib.hid (by simp [val, val_replicate]), Lib.hid (fun t _ => wd_replicate _ _), hbel⟩
  case round =>
    obtain ⟨k, zs0, hk, rfl, Hzl, hzlim, hr, Hv, H0, hbl⟩ := hrel
    clear hrow hbel
    have h1 := hx.wd k
    by_cases hlt : k < n
    · have ix := fun (W : World) => HX.out W .i64 k (by omega) (by omega)
      simp only [Int.toNat_natCast] at ix
      obtain ⟨wo, hwo⟩ : ∃ wo : World, wo = wr := ⟨_, rfl⟩
      subst hwo
      go_wp2
      go_loopw [7, 8] (fun c j wr => ∃ (jj cc : Nat) (zs : List Nat), jj ≤ m + 1 ∧ Hid (jj = m + 1 → cc = 0) ∧ j = .int .i64 jj ∧ c = .int .u64 cc ∧ cc < 4294967296 ∧ Hid (zs.length = n + m) ∧ Lim zs ∧ Row wr g 60 (nums .u32 zs) ∧
          Hid (∀ t, k + jj ≤ t → wd zs t = wd zs0 t) ∧ Hid (val (zs.take (k + jj)) + cc * W (k + jj) = val (zs0.take (k + jj)) + wd xs k * val (ys.take jj) * W k) ∧ Below w.heap.size w wr) (fun _ j _ => m + 1 - (intOf j).toNat)
      case atStart => exact ⟨0, 0, zs0, by omega, Lib.hid (fun _ => rfl), rfl, rfl, by omega, Lib.hid Hzl.out, hzlim, hr, Lib.hid (fun _ _ => rfl), Lib.hid (by simp [val]), hbl⟩
      case round =>
        obtain ⟨j, c, zs, hj, Hj, rfl, rfl, hc, Hzl2, hzlim2, hr2, Hs, Hv2, hbl2⟩ := hrel
        clear hr hbl
        have h2 := hy.wd j
        have h3 := hzlim2.wd (k + j)
        by_cases hgo : j < m ∨ 0 < c
        · have jm : j ≤ m := by have := Hj.out; omega
          have hcell := hr2.cell (i := k + j) (by rw [Hzl2.out]; omega)
          have hfk := hr2.free (k + j)
          have ig := row_index (P := Tryz.prog) Tryz.underlying22 size32 g (n + m) (n + m) .i64 ((k : Int) + (j : Int)) (k + j) (by omega) (by omega)
          have hst := Lib.hid (times_in' (by rw [Hzl2.out]; omega) (Hs.out _ (Nat.le_refl _)) Hv2.out)
          obtain ⟨t, ht⟩ : ∃ t, t = wd xs k * wd ys j + wd zs (k + j) + c := ⟨_, rfl⟩
          have tb : t < 18446744073709551616 := by
            rw [ht]
            have := Nat.mul_le_mul (show wd xs k ≤ 4294967295 by omega) (show wd ys j ≤ 4294967295 by omega); omega
          rw [← ht] at hst
          obtain ⟨d, hd⟩ : ∃ d, d = t % 4294967296 := ⟨_, rfl⟩
          obtain ⟨c2, hc2⟩ : ∃ c2, c2 = t / 4294967296 := ⟨_, rfl⟩
          rw [← hd, ← hc2] at hst
          have ed : (t : Int) % 4294967296 = (d : Int) := by omega
          have ec : (t : Int) / 4294967296 = (c2 : Int) := by omega
          have dl : d < 4294967296 := by omega
          have cl : c2 < 4294967296 := by omega
          have hs2 : Hid (∀ t, k + (j + 1) ≤ t → wd (zs.set (k + j) d) t = wd zs0 t) := Lib.hid (fun t h => by rw [wd_set (by rw [Hzl2.out]; omega), if_neg (by omega)]; exact Hs.out t (by omega))
          by_cases hjm : j < m
          · have iy := fun (W : World) => HY.out W .i64 j (by omega) (by omega)
            simp only [Int.toNat_natCast] at iy
            have cx := HCX.out wr hbl2 k hlt
            have cy := HCY.out wr hbl2 j hjm
            have d1 : decide (j < m) = true := by rw [decide_eq_true_eq]; exact hjm
            obtain ⟨p, hp⟩ : ∃ p, p = wd xs k * wd ys j := ⟨_, rfl⟩
            have ep : ((wd xs k : Nat) : Int) * ((wd ys j : Nat) : Int) = (p : Int) := by rw [hp, Int.natCast_mul]
            rw [← hp] at ht
            have pb : p < 18446744073709551616 := by omega
            have et : ((wd zs (k + j) : Nat) : Int) + (c : Int) + (p : Int) = (t : Int) := by omega
            have hlast : Hid (j + 1 = m + 1 → c2 = 0) := Lib.hid (fun e => by omega)
            clear hd hc2 hp ht hgo
            go_wp2
            go_quiet (fail)
            go_wp2
            go_roundw
            case rel => exact ⟨j + 1, c2, zs.set (k + j) d, by omega, hlast, by go_num, rfl, cl, Lib.hid (by rw [List.length_set, Hzl2.out]), hzlim2.set dl, (hr2.drewN _).store _ _ _ rfl, hs2, hst, below_store (below_drewN hbl2 _) hg1 _⟩
            case measure => simp [intOf]; omega
          · have ej : j = m := by omega
            have z1 := wd_ge (l := ys) (i := j) (by rw [← Hm.out]; omega)
            have z2 : wd zs (k + j) = 0 := by rw [Hs.out _ (Nat.le_refl _)]; exact H0.out _ (by omega)
            rw [z1, z2, Nat.mul_zero] at ht
            have d1 : decide (j < m) = false := by rw [decide_eq_false_iff_not]; exact hjm
            have d2 : decide (0 < c) = true := by rw [decide_eq_true_eq]; omega
            have et : ((wd zs (k + j) : Nat) : Int) + (c : Int) = (t : Int) := by omega
            have hlast : Hid (j + 1 = m + 1 → c2 = 0) := Lib.hid (fun e => by omega)
            have jm1 : j + 1 ≤ m + 1 := by omega
            clear hd hc2 ht hgo z1 z2 ej
            go_wp2
            go_roundw
            case rel => exact ⟨j + 1, c2, zs.set (k + j) d, jm1, hlast, by go_num, rfl, cl, Lib.hid (by rw [List.length_set, Hzl2.out]), hzlim2.set dl, hr2.store _ _ _ rfl, hs2, hst, below_store hbl2 hg1 _⟩
            case measure => simp [intOf]; omega
        · have z : c = 0 := by omega
          subst z
          have d1 : decide (j < m) = false := by rw [decide_eq_false_iff_not]; omega
          have hvn := Lib.hid (times_row (by rw [Hzl2.out, Hzl.out]) (by rw [Hzl2.out]; omega) (by rw [← Hm.out]; omega) Hs.out Hv.out Hv2.out)
          have hz2 : Hid (∀ t, k + 1 + m ≤ t → wd zs t = 0) := Lib.hid (fun t h => by rw [Hs.out t (by omega)]; exact H0.out t (by omega))
          clear hgo
          go_wp2
          go_roundw
          case rel => exact ⟨k + 1, zs, by omega, by go_num, Lib.hid Hzl2.out, hzlim2, hr2, hvn, hz2, hbl2⟩
          case measure => simp [intOf]; omega
    · obtain rfl : k = n := by omega
      have hl2 := hr.lay
      have hle2 := rep_val_le hzlim
      have hval : Hid (val zs0 = val xs * val ys) := by
        have h := Hv.out
        rw [List.take_of_length_le (by rw [Hn.out]; omega)] at h
        exact h
      go_wp2_with (go_at_call 101; refine (ref_cut _ _ zs0 _ _ (by assumption) (by assumption) (by rw [Hzl.out]) (by omega) (by omega)).mono ?_; rintro e w' ⟨rfl, rfl⟩)
      go_ret
      rw [Hzl.out] at hle2
      rw [← hval.out]
      exact ⟨_, _, rfl, hle2, by omega, hl2.norm hzlim, hbl⟩

end Go.Proofs.YtbffpkmfhkphdaaGreatDoor

namespace Go.Proofs.YtbffpkmfhkphdaaGreatDoor
open Go Go.RowKit Limb

theorem same_nil (w : World) : Calls Tryz.prog 15 #[.agg #[.bool false, .slice none 0 0], .agg #[.bool false, .slice none 0 0]] w fun e w' => e = .returned (.bool true) ∧ Below w.heap.size w w' :=
  law_same w false none none [] 0 0 0 (Lay.nil _ _ _) (Lay.nil _ _ _) rfl (by decide)

set_option maxRecDepth 100000 in
theorem is_no (w : World) (b : Bool) (a : Option Addr) (n c : Nat) :
    Calls Tryz.prog 13 #[.bool false, .agg #[.bool false, .slice none 0 0], .int .i64 1, .agg #[.bool b, .slice a n c]] w fun e w' => e = .returned (.bool true) ∧ Below w.heap.size w w' := by
  obtain ⟨W, hWe, r0, r1, hW, hsz⟩ := rows2 w 24 (.bool false) (.slice none 0 0) (.bool b) (.slice a n c)
  have HWe := Lib.hid hWe; clear hWe
  have k0 := r0.cell_at 0
  have k1 := r0.cell_at 1
  simp only [List.getElem?_cons_zero, List.getElem?_cons_succ] at k0 k1
  clear r0 r1
  go_enter Tryz.func13, Tryz.ntmps13
  go_wp2_with fail
  rw [← HWe.out]
  refine (same_nil W).mono ?_
  rintro e w1 ⟨rfl, hb⟩
  go_wp2_with fail
  go_ret
  exact ⟨rfl, hW.trans (hb.mono hW.size)⟩

set_option maxRecDepth 100000 in
theorem is_long (w : World) (b : Bool) (a : Option Addr) (n c : Nat) (hn : 1024 < n) :
    Calls Tryz.prog 13 #[.bool true, .agg #[.bool false, .slice none 0 0], .int .i64 2, .agg #[.bool b, .slice a n c]] w fun e w' => e = .returned (.bool true) ∧ Below w.heap.size w w' := by
  obtain ⟨W, hWe, r0, r1, hW, hsz⟩ := rows2 w 24 (.bool false) (.slice none 0 0) (.bool b) (.slice a n c)
  have HWe := Lib.hid hWe; clear hWe
  have k0 := r0.cell_at 0
  have k1 := r0.cell_at 1
  have k2 := r1.cell_at 0
  have k3 := r1.cell_at 1
  simp only [List.getElem?_cons_zero, List.getElem?_cons_succ] at k0 k1 k2 k3
  have d1 : decide (1024 < n) = true := by rw [decide_eq_true_eq]; exact hn
  clear r0 r1
  go_enter Tryz.func13, Tryz.ntmps13
  go_wp2_with fail
  rw [← HWe.out]
  refine (same_nil W).mono ?_
  rintro e w1 ⟨rfl, hb⟩
  go_wp2_with fail
  go_ret
  exact ⟨rfl, hW.trans (hb.mono hW.size)⟩

set_option maxRecDepth 100000 in
theorem is_ok (w : World) (b : Bool) (a a' : Option Addr) (l : List Nat) (n c c' : Nat) (h1 : Lay .u32 w a l) (h2 : Lay .u32 w a' l) (hl : n = l.length) (hn : n ≤ 1024) :
    Calls Tryz.prog 13 #[.bool true, .agg #[.bool b, .slice a n c], .int .i64 0, .agg #[.bool b, .slice a' n c']] w fun e w' => e = .returned (.bool true) ∧ Below w.heap.size w w' := by
  obtain ⟨W, hWe, r0, r1, hW, hsz⟩ := rows2 w 24 (.bool b) (.slice a n c) (.bool b) (.slice a' n c')
  have HWe := Lib.hid hWe; clear hWe
  have k0 := r0.cell_at 0
  have k1 := r0.cell_at 1
  have k2 := r1.cell_at 0
  have k3 := r1.cell_at 1
  simp only [List.getElem?_cons_zero, List.getElem?_cons_succ] at k0 k1 k2 k3
  have d1 : decide (1024 < n) = false := by rw [decide_eq_false_iff_not]; omega
  have HS := Lib.hid (law_same W b a a' l n c c' (h1.below hW) (h2.below hW) hl (by omega))
  clear r0 r1 hl h1 h2
  go_enter Tryz.func13, Tryz.ntmps13
  go_wp2_with fail
  rw [← HWe.out]
  refine HS.out.mono ?_
  rintro e w1 ⟨rfl, hb⟩
  go_wp2_with fail
  go_ret
  exact ⟨rfl, hW.trans (hb.mono hW.size)⟩

end Go.Proofs.YtbffpkmfhkphdaaGreatDoor
