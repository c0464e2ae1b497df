/- The walk of big.many: a number times a digit. The walk of FillBytes of package big's integers. The walk of Mul of package big's integers. -/
import Derived.Test.YtbffpkmfhkphdaaGreatDoorGX05
import Derived.Test.YtbffpkmfhkphdaaGreatDoorGX06
import Derived.Test.YtbffpkmfhkphdaaGreatDoorGX13
import Derived.Test.YtbffpkmfhkphdaaGreatDoorPlusC
set_option linter.unusedVariables false
set_option linter.unusedSimpArgs false
namespace Go.Proofs.YtbffpkmfhkphdaaGreatDoor
open Go Go.RowKit Limb

/-- One word of a product by a digit more. -/
theorem many_step {xs zs : List Nat} {k c d : Nat} (hz : k < zs.length) (h : val (zs.take k) + c * W k = val (xs.take k) * d) :
    val ((zs.set k ((c + wd xs k * d) % 4294967296)).take (k + 1)) + ((c + wd xs k * d) / 4294967296) * W (k + 1) = val (xs.take (k + 1)) * d := by
  rw [val_set_take _ hz, val_take_succ xs, W_succ]
  have hd := Nat.div_add_mod (c + wd xs k * d) 4294967296
  generalize (c + wd xs k * d) / 4294967296 = q at *
  generalize (c + wd xs k * d) % 4294967296 = r at *
  have k2 := congrArg (fun t => W k * t) hd
  simp only [Nat.mul_add] at k2
  have e1 : W k * (4294967296 * q) = q * (4294967296 * W k) := by rw [Nat.mul_comm, Nat.mul_right_comm, Nat.mul_comm (4294967296 * _)]
  have e2 : (val (xs.take k) + W k * wd xs k) * d = val (xs.take k) * d + W k * (wd xs k * d) := by rw [Nat.add_mul, Nat.mul_assoc]
  have e3 : W k * c = c * W k := Nat.mul_comm _ _
  omega

set_option maxHeartbeats 1600000 in
set_option maxRecDepth 100000 in
theorem big_many (w : World) (a : Option Addr) (xs : List Nat) (n ca d : Nat) (ha : Lay .u32 w a xs) (hx : Lim xs) (hn : n = xs.length) (ln : n ≤ 1099511627776) (hd : d < 4294967296) :
    Calls Tryz.prog 284 #[.slice a n ca, .int .u64 d] w fun e w' => NatRes w w' e (val xs * d) := by
  obtain ⟨b1, off1, hix, hcx, _⟩ := ha.use 115 60 Tryz.underlying115 size32 ca
  rw [← hn] at hix hcx
  have Hn := Lib.hid hn; clear hn
  have HX := Lib.hid hix; clear hix
  have HCX := Lib.hid hcx; clear hcx
  go_enter Tryz.func284, Tryz.ntmps284
  go_wp2_with (at_make; refine wpList_make_row rfl _ _ _ rfl 60 (.int .u32 0) 4 Tryz.underlying115 info32 rfl _ _ _ _ (n + 1) (n + 1) rfl rfl (by simp) (by simp) (by omega) (by omega) (by omega) ?_; intro w1 g hg1 hg2 hrow hbel)
  go_loopw [6, 15] (fun cv i wr => ∃ (k c : Nat) (zs : List Nat), k ≤ n ∧ i = .int .i64 k ∧ cv = .int .u64 c ∧ c < 4294967296 ∧ zs.length = n + 1 ∧ Lim zs ∧ Row wr g 60 (nums .u32 zs) ∧ Hid (val (zs.take k) + c * Limb.W k = val (xs.take k) * d) ∧ Below w.heap.size w wr) (fun _ i _ => n - (intOf i).toNat)
  case atStart => exact ⟨0, 0, List.replicate (n + 1) 0, by omega, rfl, rfl, by decide, by simp, Lim.replicate _ (by decide), by rw [nums_replicate]; exact hrow, Lib.hid (by simp [val]), hbel⟩
  case round =>
    obtain ⟨k, c, zs, hk, rfl, rfl, hc, hzl, hzlim, hr, Hv, hbl⟩ := hrel
    have Hzl := Lib.hid hzl; clear hzl
    clear hrow hbel
    by_cases hlt : k < n
    · have ix := HX.out wr .i64 k (by omega) (by omega)
      rw [Int.toNat_natCast] at ix
      have cx := HCX.out wr hbl k hlt
      have hcell := hr.cell (i := k) (by rw [Hzl.out]; omega)
      have hfk := hr.free k
      have ig := row_index (P := Tryz.prog) Tryz.underlying115 size32 g (n + 1) (n + 1) .i64 (k : Int) k rfl (by omega)
      have hst := many_step (d := d) (by rw [Hzl.out]; omega) Hv.out
      have hxl := hx.wd k
      obtain ⟨x, hxe⟩ : ∃ x, x = wd xs k := ⟨_, rfl⟩
      rw [← hxe] at cx hst hxl
      obtain ⟨m, hm⟩ : ∃ m, m = x * d := ⟨_, rfl⟩
      have hmul : x * d ≤ 4294967295 * 4294967295 := Nat.mul_le_mul (by omega) (by omega)
      have eM : (x : Int) * (d : Int) = (m : Int) := by rw [hm, Int.natCast_mul]
      rw [← hm] at hst hmul
      obtain ⟨t, ht⟩ : ∃ t, t = c + m := ⟨_, rfl⟩
      rw [← ht] at hst
      have eT : (c : Int) + (m : Int) = (t : Int) := by omega
      have eM2 : IntKind.u64.wrap ((x : Int) * (d : Int)) = (m : Int) := by rw [eM, IntKind.wrap_u64]; omega
      have eT2 : IntKind.u64.wrap ((c : Int) + (m : Int)) = (t : Int) := by rw [eT, IntKind.wrap_u64]; omega
      have tl : t < 18446744073709551616 := by omega
      obtain ⟨r, hre⟩ : ∃ r, r = t % 4294967296 := ⟨_, rfl⟩
      obtain ⟨q, hqe⟩ : ∃ q, q = t / 4294967296 := ⟨_, rfl⟩
      rw [← hre, ← hqe] at hst
      have er : (t : Int) % 4294967296 = (r : Int) := by omega
      have eq : (t : Int) / 4294967296 = (q : Int) := by omega
      have rl : r < 4294967296 := by omega
      have ql : q < 4294967296 := by omega
      have Hst := Lib.hid hst
      clear hst hm ht hre hqe hmul hxe
      go_wp2
      go_roundw
      case rel => exact ⟨k + 1, q, zs.set k r, by omega, by go_num, rfl, ql, by rw [List.length_set, Hzl.out], hzlim.set rl, hr.store _ _ _ rfl, Hst.out, below_store hbl hg1 _⟩
      case measure => simp [intOf]; omega
    · obtain rfl : k = n := by omega
      have hcell := hr.cell (i := k) (by rw [Hzl.out]; omega)
      have hfk := hr.free k
      have ig := row_index (P := Tryz.prog) Tryz.underlying115 size32 g (k + 1) (k + 1) .i64 (k : Int) k rfl (by omega)
      have ec : (c : Int) % 4294967296 = (c : Int) := by omega
      have hr2 := hr.store k (c : Int) c rfl
      have hl2 := hr2.lay
      have hlim2 := hzlim.set (i := k) hc
      have hle2 := rep_val_le hlim2
      have hval : Hid (val (zs.set k c) = val xs * d) := by
        have h := Hv.out
        have h2 := val_set_take (l := zs) c (show k < zs.length by rw [Hzl.out]; omega)
        rw [List.take_of_length_le (show (zs.set k c).length ≤ k + 1 by rw [List.length_set, Hzl.out]; omega)] at h2
        rw [List.take_of_length_le (show xs.length ≤ k by rw [← Hn.out]; omega)] at h
        unfold Hid
        rw [h2, ← h, Nat.mul_comm c]
      have hbl2 := below_store hbl hg1 (i := k) (.int .u32 (c : Int))
      go_wp2_with (go_at_call 236; refine (big_norm _ _ (zs.set k c) _ _ (by assumption) (by assumption) (by rw [List.length_set, Hzl.out]) (by omega) (by omega)).mono ?_; rintro e w' ⟨rfl, rfl⟩)
      go_ret
      rw [List.length_set, Hzl.out] at hle2
      rw [← hval.out]
      exact ⟨_, _, rfl, hle2, by omega, hl2.norm hlim2, hbl2⟩

end Go.Proofs.YtbffpkmfhkphdaaGreatDoor

namespace Go.Proofs.YtbffpkmfhkphdaaGreatDoor
open Go Go.RowKit Limb

theorem Lay.notRow {w : World} {a : Option Addr} {l bs : List Nat} {g : Nat} {e : TypeId} {K K' : IntKind} (h : Lay K w a l) (hr : Row w g e (nums K' bs)) (hk : K ≠ K') : 0 < l.length → ∀ b off, a = some ⟨b, off, none⟩ → b ∉ [g] := by
  intro hl b off e hm
  rw [List.mem_singleton] at hm
  subst hm
  obtain ⟨b', off', h1, h2⟩ := h
  have h3 := (h1 hl).1
  rw [e] at h3
  simp only [Option.some.injEq, Addr.mk.injEq, and_true] at h3
  obtain ⟨rfl, rfl⟩ := h3
  have h4 := h2 0 hl
  rw [hr.cell_at] at h4
  obtain ⟨hlt, h5⟩ := List.getElem?_eq_some_iff.1 h4
  rw [nums_length] at hlt
  simp only [nums, List.getElem_map] at h5
  injection h5 with h6
  exact hk h6.symm

set_option maxHeartbeats 1600000 in
set_option maxRecDepth 100000 in
theorem int_fillbytes (w : World) (q g : Nat) (z : Int) (bs : List Nat) (L cap : Nat) (hq : IntAt w q z) (hr : Row w g 5 (nums .u8 bs)) (hL : bs.length = L) (hqg : q ≠ g) (hm : L ≤ 1099511627776) (hs : (rep z.natAbs).length ≤ 68719476736) :
    Calls Tryz.prog 147 #[.pointer (some ⟨q, 0, none⟩), .slice (some ⟨g, 0, none⟩) L cap] w fun e w' => e = .returned (.slice (some ⟨g, 0, none⟩) L cap) ∧ Only [g] w w' ∧
      ∃ bs', Row w' g 5 (nums .u8 bs') ∧ bs'.length = L ∧ ∀ j, j < L → wd bs' (L - 1 - j) = byt (rep z.natAbs) j := by
  obtain ⟨b, a, n, cap1, Hb, Hn, hc, hl, hcells⟩ := hq.use
  have hng := hl.notRow hr (by decide)
  have h1 : ∀ w', Only [g] w w' → w'.cell? ⟨q, 1, none⟩ = some (.slice a n cap1) ∧ Lay .u32 w' a (rep z.natAbs) := by
    intro w' ho
    rw [World.cell?_of_block (a := ⟨q, 1, none⟩) (ho.block q hq.lt (by simp; exact hqg))]
    exact ⟨(hcells w (Only.refl _ _)).2, hl.only ho hng⟩
  rw [← Hn.out] at hs
  have H1 := Lib.hid h1; clear h1 hcells hng
  have HL := Lib.hid hL; clear hL
  go_enter Tryz.func147, Tryz.ntmps147
  go_wp2
  go_loopw [8] (fun i wr => ∃ (k : Nat) (bs' : List Nat), k ≤ L ∧ i = .int .i64 k ∧ bs'.length = L ∧ Row wr g 5 (nums .u8 bs') ∧ (∀ j, j < k → wd bs' (L - 1 - j) = byt (rep z.natAbs) j) ∧ Only [g] w wr) (fun i _ => L - (intOf i).toNat)
  case atStart => exact ⟨0, bs, by omega, rfl, HL.out, hr, fun j hj => absurd hj (by omega), Only.refl _ _⟩
  case round =>
    obtain ⟨k, bs', hk, rfl, hl', hr', hd, ho⟩ := hrel
    obtain ⟨c1, hlr⟩ := H1.out wr ho
    have HL' := Lib.hid hl'; clear hl'
    have HD := Lib.hid hd; clear hd
    by_cases hlt : k < L
    · obtain ⟨d, hd⟩ : ∃ d, d = k / 4 := ⟨_, rfl⟩
      obtain ⟨r, hrr⟩ : ∃ r, r = k % 4 := ⟨_, rfl⟩
      have e1 : (k : Int) / 4 = d := by omega
      have e2 : (k : Int) % 4 = r := by omega
      have r_lt : r < 4 := by omega
      have b_x := (rep_lim z.natAbs).wd d
      have hby : byt (rep z.natAbs) k = wd (rep z.natAbs) d / 256 ^ r % 256 := by unfold byt; rw [← hd, ← hrr]
      have HB := Lib.hid hby; clear hby
      have Hd := Lib.hid hd; clear hd
      clear hrr
      have hdig := big_digit wr a (rep z.natAbs) n cap1 ((k : Int) / 4) hlr (rep_lim _) Hn.out (by omega) (by omega)
      rw [e1, Int.toNat_natCast] at hdig
      obtain ⟨x, hx⟩ : ∃ x, x = wd (rep z.natAbs) d := ⟨_, rfl⟩
      rw [← hx] at b_x hdig HB
      have HDg := Lib.hid hdig; clear hdig hx
      have ep : (2 : Int) ^ (8 * r) = ((256 ^ r : Nat) : Int) := by rw [← pow8, Int.natCast_pow]; rfl
      obtain ⟨pw, hpw⟩ : ∃ pw, pw = 256 ^ r := ⟨_, rfl⟩
      have hp0 : 0 < pw := by rw [hpw]; exact Nat.pow_pos (by decide)
      rw [← hpw] at ep HB
      clear hpw
      have ig := row_index (P := Tryz.prog) Tryz.underlying72 size8 g L cap .i64 ((L : Int) - 1 - k) (L - 1 - k) (by omega) (by omega)
      have hcell := hr'.cell (i := L - 1 - k) (by rw [HL'.out]; omega)
      have hfk := hr'.free (L - 1 - k)
      have q0 : (0 : Int) ≤ (x : Int) / (pw : Int) := by rw [← Int.natCast_ediv]; exact Int.natCast_nonneg _
      go_wp2_with (go_at_call 237; (try simp only [e1]); refine HDg.out.mono ?_; rintro e w' ⟨rfl, rfl⟩)
      go_roundw
      case rel => exact ⟨k + 1, bs'.set (L - 1 - k) (x / pw % 256), by omega, by go_num, by rw [List.length_set, HL'.out], hr'.store _ _ _ (by rw [Int.natCast_emod, Int.natCast_ediv]; rfl), fun j hj => by
        rw [wd_set (by rw [HL'.out]; omega)]
        by_cases hjk : j = k
        · rw [hjk, if_pos rfl, HB.out]
        · rw [if_neg (by omega)]; exact HD.out j (by omega), ho.setCell (by simp) _⟩
      case measure => simp [intOf]; omega
    · obtain rfl : k = L := by omega
      go_wp2
      go_ret
      exact ⟨rfl, ho, bs', hr', HL'.out, HD.out⟩

end Go.Proofs.YtbffpkmfhkphdaaGreatDoor

namespace Go.Proofs.YtbffpkmfhkphdaaGreatDoor
open Go Go.RowKit Limb

theorem big_times' (w : World) (a b : Option Addr) (x y n m : Nat) (ca cb : Nat) (ha : Lay .u32 w a (rep x)) (hb : Lay .u32 w b (rep y)) (hn : n = (rep x).length) (hm : m = (rep y).length)
    (lx : n ≤ 1099511627776) (ly : m ≤ 1099511627776) :
    Calls Tryz.prog 163 #[.slice a n ca, .slice b m cb] w fun e w' => ∃ a c s, e = .returned (.slice a s c) ∧ s = (rep (x * y)).length ∧ s ≤ c ∧ Lay .u32 w' a (rep (x * y)) ∧ Below w.heap.size w w' := by
  have := big_times w a b (rep x) (rep y) n m ca cb ha hb (rep_lim _) (rep_lim _) hn hm lx ly
  rw [val_rep, val_rep] at this
  exact this.mono fun e w' ⟨a, c, h1, h2, _, h4, h5⟩ => ⟨a, c, _, h1, rfl, h2, h4, h5⟩

set_option maxHeartbeats 1600000 in
set_option maxRecDepth 100000 in
theorem int_mul (w : World) (p q r : Nat) (v x y : Int) (hp : IntAt w p v) (hq : IntAt w q x) (hr : IntAt w r y) (hpq : p ≠ q) (hpr : p ≠ r) (hs : (rep x.natAbs).length ≤ 68719476736) (ht : (rep y.natAbs).length ≤ 68719476736) :
    Calls Tryz.prog 104 #[.pointer (some ⟨p, 0, none⟩), .pointer (some ⟨q, 0, none⟩), .pointer (some ⟨r, 0, none⟩)] w fun e w' => IntRes w w' e p (x * y) := by
  obtain ⟨b1, a1, n1, cap1, Hb1, Hn1, hc1, hl1, hcells1⟩ := hq.use
  obtain ⟨b2, a2, n2, cap2, Hb2, Hn2, hc2, hl2, hcells2⟩ := hr.use
  rw [← Hn1.out] at hs
  rw [← Hn2.out] at ht
  have h1 : ∀ w', Only [p] w w' → w'.cell? ⟨q, 0, none⟩ = some (.bool b1) ∧ w'.cell? ⟨q, 1, none⟩ = some (.slice a1 n1 cap1) ∧ w'.cell? ⟨r, 0, none⟩ = some (.bool b2) ∧ w'.cell? ⟨r, 1, none⟩ = some (.slice a2 n2 cap2) := by
    intro w' ho
    have cq := fun i => World.cell?_of_block (a := ⟨q, i, none⟩) (ho.block q hq.lt (by simp; exact fun e => hpq e.symm))
    have cr := fun i => World.cell?_of_block (a := ⟨r, i, none⟩) (ho.block r hr.lt (by simp; exact fun e => hpr e.symm))
    rw [cq, cq, cr, cr]
    exact ⟨(hcells1 w (Only.refl _ _)).1, (hcells1 w (Only.refl _ _)).2, (hcells2 w (Only.refl _ _)).1, (hcells2 w (Only.refl _ _)).2⟩
  clear hcells1 hcells2
  obtain ⟨z, hz⟩ : ∃ z, z = x * y := ⟨_, rfl⟩
  rw [← hz]
  have hres : z.natAbs = x.natAbs * y.natAbs := by rw [hz, Int.natAbs_mul]
  have hsg : ((b1 != b2) = true → z ≤ 0) ∧ ((b1 != b2) = false → 0 ≤ z) := by
    rw [hz, Hb1.out, Hb2.out]
    constructor <;> intro h <;> by_cases hx : x < 0 <;> by_cases hy : y < 0 <;> simp [hx, hy] at h
    · exact Int.mul_nonpos_of_nonpos_of_nonneg (by omega) (by omega)
    · exact Int.mul_nonpos_of_nonneg_of_nonpos (by omega) (by omega)
    · exact Int.mul_nonneg_of_nonpos_of_nonpos (by omega) (by omega)
    · exact Int.mul_nonneg (by omega) (by omega)
  have HR := Lib.hid hres; clear hres
  have HS := Lib.hid hsg; clear hsg hz
  have H1 := Lib.hid h1; clear h1
  obtain ⟨c0, c1, d0, d1⟩ := H1.out w (Only.refl _ _)
  go_enter Tryz.func104, Tryz.ntmps104
  go_wp2
  go_region_held3 (fun w' => w'.cell? ⟨q, 0, none⟩ = some (.bool b1) ∧ w'.cell? ⟨q, 1, none⟩ = some (.slice a1 n1 cap1) ∧ w'.cell? ⟨r, 0, none⟩ = some (.bool b2) ∧ w'.cell? ⟨r, 1, none⟩ = some (.slice a2 n2 cap2))
    (first | exact H1.out _ (Only.refl _ _).drew | exact H1.out _ (Only.of_below (below_of_drew hb1)) | exact H1.out _ hb2)
    (first | (go_at_call 163; refine (big_times' _ a1 a2 x.natAbs y.natAbs n1 n2 cap1 cap2 ?_ ?_ Hn1.out Hn2.out (by omega) (by omega)).mono ?_; exact hl1.drew; exact hl2.drew; rintro e w1 ⟨a3, c3, s3, rfl, hh, h2, h3, hb1⟩; have HH := Lib.hid hh; clear hh) | (go_at_call 148; refine (big_made _ p v z _ _ _ _ ?_ ?_ ?_ ?_ HS.out).mono ?_; exact hp.drew.below hb1; rw [HR.out]; exact h3; rw [HR.out]; exact HH.out; exact h2; rintro e w2 ⟨rfl, h5, h6⟩; have hb2 := (Only.of_below (ps := [p]) (below_of_drew hb1)).trans h6 (by simp)))
  all_goals go_wp2
  all_goals go_ret
  all_goals exact ⟨rfl, h5, hb2⟩

end Go.Proofs.YtbffpkmfhkphdaaGreatDoor
