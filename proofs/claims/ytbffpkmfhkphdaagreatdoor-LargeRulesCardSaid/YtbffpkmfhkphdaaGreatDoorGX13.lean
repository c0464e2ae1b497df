/- The walk of SetBytes of package big's integers. The walk of Cmp of package big's integers. The walk of the reference's bit. -/
import Derived.Test.YtbffpkmfhkphdaaGreatDoorNegC
import Derived.Test.YtbffpkmfhkphdaaGreatDoorGX05
set_option linter.unusedVariables false
set_option linter.unusedSimpArgs false
namespace Go.Proofs.YtbffpkmfhkphdaaGreatDoor
open Go Go.RowKit Limb

theorem size8 (W : World) : (sizeOf 5).run Tryz.prog W = .ok 1 W := by kernel_rfl
theorem info8 : (Tryz.prog.info? 5).map (fun i => (i.zero, i.size, i.bytes)) = some (some (.int .u8 0), 1, 1) := by kernel_rfl

theorem row_index {P : Program} {t e : TypeId} (ht : P.underlying t = some (.slice e)) (hs : ∀ W, (sizeOf e).run P W = .ok 1 W) (g n cap : Nat) (k : IntKind) (i : Int) (d : Nat) (hi : i = d) (hd : d < n) (W : World) :
    (Instr.indexAt t (.slice (some ⟨g, 0, none⟩) n cap) (.int k i)).run P W = .ok (.pointer (some ⟨g, d, none⟩)) W := by
  subst hi
  simp [Instr.indexAt, run_underlying ht, asIntOf, hd, hs, Result.andThen, Addr.add]
  intro h; omega

theorem pow8 (r : Nat) : (2 : Nat) ^ (8 * r) = 256 ^ r := by rw [Nat.pow_mul]

theorem setb_or {z b r : Nat} (hr : r < 4) (hz : z < 256 ^ r) (hb : b < 256) : bits .or .u32 (z : Int) ((b * 256 ^ r : Nat) : Int) = ((z + b * 256 ^ r : Nat) : Int) ∧ b * 256 ^ r < 4294967296 := by
  have h := pow256_le hr
  have h2 := Nat.mul_le_mul_right (256 ^ r) (show b ≤ 255 by omega)
  rw [Nat.pow_succ] at h
  have h3 : b * 256 ^ r < 4294967296 := by have : 0 < 256 ^ r := Nat.pow_pos (by decide); omega
  refine ⟨?_, h3⟩
  rw [u32_or_nat _ _ (by omega) h3, Nat.or_comm, ← pow8, nat_join (8 * r) _ _ (Nat.mul_mod_left _ _) (by rw [pow8]; exact hz), Nat.add_comm]

set_option maxHeartbeats 1600000 in
set_option maxRecDepth 100000 in
theorem int_setbytes (w : World) (p : Nat) (v : Int) (a : Option Addr) (bs : List Nat) (L cap : Nat) (hp : IntAt w p v) (hlay : Lay .u8 w a bs) (hL : L = bs.length) (hlim : ∀ i, wd bs i < 256) (hm : L ≤ 1099511627776) :
    Calls Tryz.prog 146 #[.pointer (some ⟨p, 0, none⟩), .slice a L cap] w fun e w' => IntRes w w' e p (bval (fun i => wd bs (L - 1 - i)) L : Nat) := by
  obtain ⟨b1, off1, hix, hcx, _⟩ := hlay.use 72 5 Tryz.underlying72 size8 cap
  rw [← hL] at hix hcx
  have HL := Lib.hid hL; clear hL
  have HX := Lib.hid hix; clear hix
  have HCX := Lib.hid hcx; clear hcx
  obtain ⟨m, hm1, hm2⟩ : ∃ m, 4 * m ≤ L + 3 ∧ L ≤ 4 * m := ⟨(L + 3) / 4, by omega, by omega⟩
  have em : ((L : Int) + 3) / 4 = m := by omega
  go_enter Tryz.func146, Tryz.ntmps146
  go_wp2_with (at_make; refine wpList_make_row rfl _ _ _ rfl 60 (.int .u32 0) 4 Tryz.underlying115 info32 rfl _ _ _ _ m m rfl rfl (by omega) (by omega) (by omega) (by omega) (by omega) ?_; intro w1 g hg1 hg2 hrow hbel)
  go_loopw [14] (fun i wr => ∃ (k : Nat) (xs : List Nat), k ≤ L ∧ i = .int .i64 k ∧ Laid (fun i => wd bs (L - 1 - i)) xs m k ∧ Row wr g 60 (nums .u32 xs) ∧ Below w.heap.size w wr) (fun i _ => L - (intOf i).toNat)
  case atStart => exact ⟨0, List.replicate m 0, by omega, rfl, Laid.start _ _, by rw [nums_replicate]; exact hrow, hbel⟩
  case round =>
    obtain ⟨k, xs, hk, rfl, hD, hr, hbl⟩ := hrel
    have HD := Lib.hid hD; clear hD
    by_cases hlt : k < L
    · obtain ⟨d, hd⟩ : ∃ d, d = k / 4 := ⟨_, rfl⟩
      obtain ⟨r, hrr⟩ : ∃ r, r = k % 4 := ⟨_, rfl⟩
      have e1 : (k : Int) / 4 = d := by omega
      have e2 : (k : Int) % 4 = r := by omega
      have d_lt : d < m := by omega
      have r_lt : r < 4 := by omega
      have hstep := HD.out.step (hlim _) (by omega)
      have hnew := HD.out.new_lt (hlim _)
      have hhere := HD.out.here
      rw [← hd, ← hrr] at hstep hnew hhere
      have hpl := pow256_le r_lt
      obtain ⟨eor, hsm⟩ := setb_or r_lt hhere (hlim (L - 1 - k))
      have Hd := Lib.hid hd; clear hd
      have Hr := Lib.hid hrr; clear hrr
      have HS := Lib.hid hstep; clear hstep
      have ix := HX.out wr.drew .i64 ((L : Int) - 1 - k) (by omega) (by omega)
      rw [show ((L : Int) - 1 - k).toNat = L - 1 - k from by omega] at ix
      have cx := HCX.out wr hbl (L - 1 - k) (by omega)
      have hcell := hr.cell (i := d) (by rw [HD.out.len]; omega)
      have hfk := hr.free d
      have b_b := hlim (L - 1 - k)
      obtain ⟨bv, hbv⟩ : ∃ bv, bv = wd bs (L - 1 - k) := ⟨_, rfl⟩
      rw [← hbv] at cx b_b eor hsm HS hnew
      clear hbv
      have ep : (2 : Int) ^ (8 * r) = ((256 ^ r : Nat) : Int) := by rw [← pow8, Int.natCast_pow]; rfl
      have esh : (bv : Int) * 2 ^ (8 * r) = ((bv * 256 ^ r : Nat) : Int) := by rw [ep, Int.natCast_mul]
      obtain ⟨t, ht⟩ : ∃ t, t = bv * 256 ^ r := ⟨_, rfl⟩
      rw [← ht] at eor hsm HS hnew esh
      clear ep ht
      have ig := row_index (P := Tryz.prog) Tryz.underlying115 size32 g m m .i64 ((k : Int) / 4) d e1 d_lt
      clear e1
      go_wp2
      go_region
      go_wp2
      go_roundw
      case rel => exact ⟨k + 1, xs.set d (wd xs d + t), by omega, by go_num, HS.out, (hr.store _ _ _ (by omega)).drew, (below_store hbl hg1 _).drew⟩
      case measure => simp [intOf]; omega
    · obtain rfl : k = L := by omega
      have hl2 := hr.lay
      have hlim2 := HD.out.lim
      have hlen := HD.out.len
      have hle2 := rep_val_le hlim2
      have heq := HD.out.eq
      have Heq := Lib.hid heq; clear heq
      have Hlen := Lib.hid hlen; clear hlen
      go_wp2_with fail
      refine (big_norm _ _ xs _ _ hl2 hlim2 Hlen.out.symm (by omega) (by omega)).mono ?_
      rintro e w' ⟨rfl, rfl⟩
      rw [Heq.out] at hle2 ⊢
      rw [Hlen.out] at hle2
      have hln := hl2.norm hlim2
      rw [Heq.out] at hln
      go_wp2_with fail
      refine (big_made _ p v _ _ _ _ _ (hp.only (ps := []) (Only.of_below hbl) (by simp) (IntBlocks.nil _)) (by rw [Int.natAbs_natCast]; exact hln) (by rw [Int.natAbs_natCast]) hle2 ⟨fun h => (by simp at h), fun _ => Int.natCast_nonneg _⟩).mono ?_
      rintro e w2 ⟨rfl, h5, h6⟩
      go_wp2
      go_ret
      exact ⟨rfl, h5, (Only.of_below hbl).trans h6 (by simp)⟩

end Go.Proofs.YtbffpkmfhkphdaaGreatDoor

namespace Go.Proofs.YtbffpkmfhkphdaaGreatDoor
open Go Go.RowKit Limb

def cmpZ (x y : Int) : Int := if x < y then -1 else if x = y then 0 else 1

theorem cmpZ_pos {x y : Int} (hx : 0 ≤ x) (hy : 0 ≤ y) : cmpI x.natAbs y.natAbs = cmpZ x y := by
  unfold cmpI cmpZ; split <;> split <;> (try split) <;> omega
theorem cmpZ_neg {x y : Int} (hx : x < 0) (hy : y < 0) : cmpI y.natAbs x.natAbs = cmpZ x y := by
  unfold cmpI cmpZ; split <;> split <;> (try split) <;> omega

set_option maxHeartbeats 800000 in
set_option maxRecDepth 100000 in
theorem int_cmp (w : World) (p q : Nat) (x y : Int) (hp : IntAt w p x) (hq : IntAt w q y) (hs : (rep x.natAbs).length ≤ 68719476736) (ht : (rep y.natAbs).length ≤ 68719476736) :
    Calls Tryz.prog 105 #[.pointer (some ⟨p, 0, none⟩), .pointer (some ⟨q, 0, none⟩)] w fun e w' => e = .returned (.int .i64 (cmpZ x y)) ∧ ∃ n, w' = w.drewN n := by
  obtain ⟨b1, a1, n1, cap1, Hb1, Hn1, hc1, hl1, hcells1⟩ := hp.use
  obtain ⟨b2, a2, n2, cap2, Hb2, Hn2, hc2, hl2, hcells2⟩ := hq.use
  obtain ⟨c0, c1⟩ := hcells1 w (Only.refl _ _)
  obtain ⟨d0, d1⟩ := hcells2 w (Only.refl _ _)
  clear hcells1 hcells2
  rw [← Hn1.out] at hs
  rw [← Hn2.out] at ht
  by_cases hx : x < 0 <;> by_cases hy : y < 0
  · obtain rfl : b1 = true := by rw [Hb1.out]; simpa using hx
    obtain rfl : b2 = true := by rw [Hb2.out]; simpa using hy
    have hcmp := fun W (h1 : Lay .u32 W a1 (rep x.natAbs)) (h2 : Lay .u32 W a2 (rep y.natAbs)) m => big_compare (W.drewN m) a2 a1 (rep y.natAbs) (rep x.natAbs) n2 n1 cap2 cap1 (h2.drewN m) (h1.drewN m) (rep_lim _) (rep_lim _) (rep_norm _) (rep_norm _) Hn2.out Hn1.out (by omega) (by omega)
    simp only [val_rep, cmpZ_neg hx hy] at hcmp
    have HC := Lib.hid hcmp; clear hcmp hx hy
    go_enter Tryz.func105, Tryz.ntmps105
    go_wp2
    go_quiet (fail)
    go_wp2
    obtain ⟨W, hW⟩ : ∃ W, W = w.drewN nq := ⟨_, rfl⟩
    have k1 : Lay .u32 W a1 (rep x.natAbs) := by rw [hW]; exact hl1
    have k2 : Lay .u32 W a2 (rep y.natAbs) := by rw [hW]; exact hl2
    have e1 : W.cell? ⟨p, 1, none⟩ = some (.slice a1 n1 cap1) := by rw [hW]; exact c1
    have f1 : W.cell? ⟨q, 1, none⟩ = some (.slice a2 n2 cap2) := by rw [hW]; exact d1
    rw [← hW]
    have HW := Lib.hid hW; clear hW c0 c1 d0 d1
    go_quiet ((go_at_call 182; exact Calls.quiet_of (HC.out W k1 k2 _)))
    go_wp2
    go_ret
    exact ⟨rfl, by rw [HW.out]; simp only [World.drewN_drewN]; exact ⟨_, rfl⟩⟩
  · obtain rfl : b1 = true := by rw [Hb1.out]; simpa using hx
    obtain rfl : b2 = false := by rw [Hb2.out]; simpa using hy
    have e : cmpZ x y = -1 := by unfold cmpZ; rw [if_pos (by omega)]
    rw [e]
    clear e hx hy
    go_enter Tryz.func105, Tryz.ntmps105
    go_wp2
    go_quiet (fail)
    go_wp2
    go_ret
    exact ⟨rfl, by first | exact ⟨_, rfl⟩ | (simp only [World.drewN_drewN]; exact ⟨_, rfl⟩)⟩
  · obtain rfl : b1 = false := by rw [Hb1.out]; simpa using hx
    obtain rfl : b2 = true := by rw [Hb2.out]; simpa using hy
    have e : cmpZ x y = 1 := by unfold cmpZ; rw [if_neg (by omega), if_neg (by omega)]
    rw [e]
    clear e hx hy
    go_enter Tryz.func105, Tryz.ntmps105
    go_wp2
    go_quiet (fail)
    go_wp2
    go_ret
    exact ⟨rfl, by first | exact ⟨_, rfl⟩ | (simp only [World.drewN_drewN]; exact ⟨_, rfl⟩)⟩
  · obtain rfl : b1 = false := by rw [Hb1.out]; simpa using hx
    obtain rfl : b2 = false := by rw [Hb2.out]; simpa using hy
    have hcmp := fun W (h1 : Lay .u32 W a1 (rep x.natAbs)) (h2 : Lay .u32 W a2 (rep y.natAbs)) m => big_compare (W.drewN m) a1 a2 (rep x.natAbs) (rep y.natAbs) n1 n2 cap1 cap2 (h1.drewN m) (h2.drewN m) (rep_lim _) (rep_lim _) (rep_norm _) (rep_norm _) Hn1.out Hn2.out (by omega) (by omega)
    simp only [val_rep, cmpZ_pos (Int.not_lt.1 hx) (Int.not_lt.1 hy)] at hcmp
    have HC := Lib.hid hcmp; clear hcmp hx hy
    go_enter Tryz.func105, Tryz.ntmps105
    go_wp2
    go_quiet (fail)
    go_wp2
    obtain ⟨W, hW⟩ : ∃ W, W = w.drewN nq := ⟨_, rfl⟩
    have k1 : Lay .u32 W a1 (rep x.natAbs) := by rw [hW]; exact hl1
    have k2 : Lay .u32 W a2 (rep y.natAbs) := by rw [hW]; exact hl2
    have e1 : W.cell? ⟨p, 1, none⟩ = some (.slice a1 n1 cap1) := by rw [hW]; exact c1
    have f1 : W.cell? ⟨q, 1, none⟩ = some (.slice a2 n2 cap2) := by rw [hW]; exact d1
    rw [← hW]
    have HW := Lib.hid hW; clear hW c0 c1 d0 d1
    go_quiet ((go_at_call 182; exact Calls.quiet_of (HC.out W k1 k2 _)))
    go_wp2
    go_ret
    exact ⟨rfl, by rw [HW.out]; simp only [World.drewN_drewN]; exact ⟨_, rfl⟩⟩

end Go.Proofs.YtbffpkmfhkphdaaGreatDoor

namespace Go.Proofs.YtbffpkmfhkphdaaGreatDoor
open Go Go.RowKit Limb

set_option maxHeartbeats 400000 in
set_option maxRecDepth 100000 in
theorem ref_bit (w : World) (a : Option Addr) (l : List Nat) (n cap i : Nat) (hlay : Lay .u32 w a l) (hlim : Lim l) (hn : n = l.length) (hm : n ≤ 9223372036854775807) (hi : i ≤ 9223372036854775807) :
    Calls Tryz.prog 91 #[.slice a n cap, .int .i64 i] w fun e w' => e = .returned (.int .u32 (val l / 2 ^ i % 2 : Nat)) ∧ w = w' := by
  obtain ⟨b, off, hix, hcell, hb⟩ := hlay.use 22 60 Tryz.underlying22 size32 cap
  rw [← hn] at hix hcell
  have eb : val l / 2 ^ i % 2 = wd l (i / 32) / 2 ^ (i % 32) % 2 := by
    rw [← bit_of, rep_wd, wd_val hlim]
  rw [eb]
  obtain ⟨d, hd⟩ : ∃ d, d = i / 32 := ⟨_, rfl⟩
  obtain ⟨r, hr⟩ : ∃ r, r = i % 32 := ⟨_, rfl⟩
  have e1 : (i : Int) / 32 = d := by omega
  have e2 : (i : Int) % 32 = r := by omega
  rw [← hd, ← hr]
  have d_le : d ≤ 9223372036854775807 := by omega
  have r_lt : r < 32 := by omega
  clear hd hr eb
  have h1 := hlim.wd d
  by_cases hdn : d < n
  · have ix := hix w .i64 d (by omega) (by omega)
    have cx := hcell w (Below.refl _ _) d hdn
    rw [Int.toNat_natCast] at ix
    have d1 : decide (n ≤ d) = false := by rw [decide_eq_false_iff_not]; omega
    obtain ⟨x, hx⟩ : ∃ x, x = wd l d := ⟨_, rfl⟩
    rw [← hx] at h1 cx ⊢
    clear hix hcell hn hx hlim hlay
    have ep : (2 : Int) ^ r = ((2 ^ r : Nat) : Int) := by rw [Int.natCast_pow]; rfl
    obtain ⟨pw, hpw⟩ : ∃ pw, pw = 2 ^ r := ⟨_, rfl⟩
    have hp0 : 0 < pw := by rw [hpw]; exact Nat.pow_pos (by decide)
    rw [← hpw] at ep ⊢
    clear hpw
    obtain ⟨y, hy⟩ : ∃ y, y = x / pw := ⟨_, rfl⟩
    have ey : (x : Int) / (pw : Int) = (y : Int) := by rw [hy, Int.natCast_ediv]
    have yl : y < 4294967296 := by rw [hy]; exact Nat.lt_of_le_of_lt (Nat.div_le_self _ _) h1
    rw [← hy]
    clear hy
    go_enter Tryz.func91, Tryz.ntmps91
    go_wp2
    go_ret
    exact ⟨by first | rfl | (rw [Int.natCast_emod]; rfl), rfl⟩
  · have hz := wd_ge (l := l) (i := d) (by omega)
    have d1 : decide (n ≤ d) = true := by rw [decide_eq_true_eq]; omega
    rw [hz, Nat.zero_div]
    clear hix hcell hn hz hlim hlay h1
    go_enter Tryz.func91, Tryz.ntmps91
    go_wp2
    go_ret
    exact ⟨rfl, rfl⟩

end Go.Proofs.YtbffpkmfhkphdaaGreatDoor
