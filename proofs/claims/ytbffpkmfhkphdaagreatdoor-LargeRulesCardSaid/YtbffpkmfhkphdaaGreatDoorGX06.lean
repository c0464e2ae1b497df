/- The walk of big.times: a product. The walk of big.right: a number over a power of 2. complement and words of package large: a range over a function. -/
import Derived.Test.YtbffpkmfhkphdaaGreatDoorGX05
import Derived.Test.YtbffpkmfhkphdaaGreatDoorGX01
import Derived.RangeFuncBox
import Derived.RangeFuncLeaves
import Derived.Shelf.Abstract
import Derived.WalkKit
import Derived.OwnWalkIn
import Derived.TacticsInMore
import Derived.LoopNIn
import Derived.LoopIn
import Derived.Maps.AppendAt
import Derived.Test.YtbffpkmfhkphdaaGreatDoorGX03
set_option linter.unusedVariables false
set_option linter.unusedSimpArgs false
namespace Go.Proofs.YtbffpkmfhkphdaaGreatDoor
open Go Go.RowKit Limb

/-- One word of a word's product with a number, put to what lies there: at i + j. -/
theorem times_in {zs ys : List Nat} {i j c a S : Nat} (hz : i + j < zs.length)
    (h : val (zs.take (i + j)) + c * W (i + j) = S + a * val (ys.take j) * W i) :
    val ((zs.set (i + j) ((a * wd ys j + wd zs (i + j) + c) % 4294967296)).take (i + (j + 1))) + (a * wd ys j + wd zs (i + j) + c) / 4294967296 * W (i + (j + 1)) =
      S + wd zs (i + j) * W (i + j) + a * val (ys.take (j + 1)) * W i := by
  rw [← Nat.add_assoc, val_set_take _ hz, val_take_succ, W_succ]
  have hd := Nat.div_add_mod (a * wd ys j + wd zs (i + j) + c) 4294967296
  generalize (a * wd ys j + wd zs (i + j) + c) / 4294967296 = q at *
  generalize (a * wd ys j + wd zs (i + j) + c) % 4294967296 = r at *
  have k2 := congrArg (fun t => W (i + j) * t) hd
  simp only [Nat.mul_add] at k2
  have e1 : W (i + j) * (4294967296 * q) = q * (4294967296 * W (i + j)) := by rw [Nat.mul_comm, Nat.mul_right_comm, Nat.mul_comm (4294967296 * _)]
  have e2 : a * (val (ys.take j) + W j * wd ys j) * W i = a * val (ys.take j) * W i + W (i + j) * (a * wd ys j) := by
    rw [Nat.mul_add, Nat.add_mul, W_add]
    congr 1
    rw [Nat.mul_left_comm a, Nat.mul_right_comm, Nat.mul_comm (W j) (W i)]
  have e3 : W (i + j) * c = c * W (i + j) := Nat.mul_comm _ _
  have e4 : W (i + j) * wd zs (i + j) = wd zs (i + j) * W (i + j) := Nat.mul_comm _ _
  omega

theorem times_in' {zs zs0 ys : List Nat} {i j c a : Nat} (hz : i + j < zs.length) (hw : wd zs (i + j) = wd zs0 (i + j))
    (h : val (zs.take (i + j)) + c * W (i + j) = val (zs0.take (i + j)) + a * val (ys.take j) * W i) :
    val ((zs.set (i + j) ((a * wd ys j + wd zs (i + j) + c) % 4294967296)).take (i + (j + 1))) + (a * wd ys j + wd zs (i + j) + c) / 4294967296 * W (i + (j + 1)) =
      val (zs0.take (i + (j + 1))) + a * val (ys.take (j + 1)) * W i := by
  rw [times_in hz h, ← Nat.add_assoc, val_take_succ zs0, hw, Nat.mul_comm (wd zs0 _)]

theorem times_out {zs zs0 xs ys : List Nat} {i m c : Nat} (hm : m = ys.length) (hz : i + m < zs.length) (hi : i < xs.length)
    (h0 : val (zs0.take (i + m)) = val (xs.take i) * val ys)
    (h : val (zs.take (i + m)) + c * W (i + m) = val (zs0.take (i + m)) + wd xs i * val (ys.take m) * W i) :
    val ((zs.set (i + m) c).take (i + 1 + m)) = val (xs.take (i + 1)) * val ys := by
  rw [show i + 1 + m = i + m + 1 from by omega, val_set_take _ hz, Nat.mul_comm (W _), h, h0, hm, List.take_length, val_take_succ xs, Nat.add_mul, Nat.mul_comm (W i), Nat.mul_right_comm]

set_option maxHeartbeats 1600000 in
set_option maxRecDepth 100000 in
theorem big_times (w : World) (a b : Option Addr) (xs ys : List Nat) (n m ca cb : Nat) (ha : Lay .u32 w a xs) (hb : Lay .u32 w b ys) (hx : Lim xs) (hy : Lim ys) (hn : n = xs.length) (hm : m = ys.length)
    (ln : n ≤ 1099511627776) (lm : m ≤ 1099511627776) :
    Calls Tryz.prog 163 #[.slice a n ca, .slice b m cb] w fun e w' => NatRes w w' e (val xs * val ys) := by
  obtain ⟨b1, off1, hix, hcx, _⟩ := ha.use 115 60 Tryz.underlying115 size32 ca
  obtain ⟨b2, off2, hiy, hcy, _⟩ := hb.use 115 60 Tryz.underlying115 size32 cb
  rw [← hn] at hix hcx
  rw [← hm] at hiy hcy
  by_cases h0 : n = 0 ∨ m = 0
  · have hv : Hid (val xs * val ys = 0) := by
      unfold Hid
      rcases h0 with h | h
      · rw [List.eq_nil_of_length_eq_zero (hn.symm.trans h)]; simp [val]
      · rw [List.eq_nil_of_length_eq_zero (hm.symm.trans h)]; simp [val]
    have hres : NatRes w w (.returned (.slice none 0 0)) (val xs * val ys) := by rw [hv.out]; exact ⟨none, 0, rfl, by simp [rep_zero], by decide, Lay.nil _ _ _, Below.refl _ _⟩
    clear hix hiy hcx hcy hn hm
    rcases h0 with h | h
    · subst h
      go_enter Tryz.func163, Tryz.ntmps163
      go_wp2
      go_ret
      exact hres
    · subst h
      go_enter Tryz.func163, Tryz.ntmps163
      go_wp2
      all_goals go_ret
      all_goals exact hres
  · have p1 : 0 < n := by omega
    have p2 : 0 < m := by omega
    have q1 : ((n : Int) == 0) = false := by rw [beq_eq_false_iff_ne]; omega
    have q2 : ((m : Int) == 0) = false := by rw [beq_eq_false_iff_ne]; omega
    have Hn := Lib.hid hn; clear hn
    have Hm := Lib.hid hm; clear hm
    have HX := Lib.hid hix; clear hix
    have HCX := Lib.hid hcx; clear hcx
    have HY := Lib.hid hiy; clear hiy
    have HCY := Lib.hid hcy; clear hcy
    clear h0
    go_enter Tryz.func163, Tryz.ntmps163
    go_wp2_with (at_make; refine wpList_make_row rfl _ _ _ rfl 60 (.int .u32 0) 4 Tryz.underlying115 info32 rfl _ _ _ _ (n + m) (n + m) rfl rfl (by simp) (by simp) (by omega) (by omega) (by omega) ?_; intro w1 g hg1 hg2 hrow hbel)
    go_loopw [28] (fun i wr => ∃ (k : Nat) (zs : List Nat), k ≤ n ∧ i = .int .i64 k ∧ zs.length = n + m ∧ Lim zs ∧ Row wr g 60 (nums .u32 zs) ∧
        val (zs.take (k + m)) = val (xs.take k) * val ys ∧ Below w.heap.size w wr) (fun i _ => n - (intOf i).toNat)
    case atStart => exact ⟨0, List.replicate (n + m) 0, by omega, rfl, by simp, Lim.replicate _ (by decide), by rw [nums_replicate]; exact hrow, by simp [val, List.take_replicate, val_replicate], hbel⟩
    case round =>
      obtain ⟨k, zs0, hk, rfl, hzl, hzlim, hr, hv, hbl⟩ := hrel
      have h1 := hx.wd k
      have Hzl := Lib.hid hzl; clear hzl
      have Hv := Lib.hid hv; clear hv
      by_cases hlt : k < n
      · have ix := HX.out wr .i64 k (by omega) (by omega)
        rw [Int.toNat_natCast] at ix
        have cx := HCX.out wr hbl k hlt
        obtain ⟨wo, hwo⟩ : ∃ wo : World, wo = wr := ⟨_, rfl⟩
        subst hwo
        go_wp2
        go_loopw [8, 35] (fun c j wr => ∃ (jj cc : Nat) (zs : List Nat), jj ≤ m ∧ j = .int .i64 jj ∧ c = .int .u64 cc ∧ cc < 4294967296 ∧ zs.length = n + m ∧ Lim zs ∧ Row wr g 60 (nums .u32 zs) ∧
            (∀ i, k + jj ≤ i → wd zs i = wd zs0 i) ∧ val (zs.take (k + jj)) + cc * W (k + jj) = val (zs0.take (k + jj)) + wd xs k * val (ys.take jj) * W k ∧ Below w.heap.size w wr) (fun _ j _ => m - (intOf j).toNat)
        case atStart => exact ⟨0, 0, zs0, by omega, rfl, rfl, by omega, Hzl.out, hzlim, hr, fun _ _ => rfl, by simp [val], hbl⟩
        case round =>
          obtain ⟨j, c, zs, hj, rfl, rfl, hc, hzl2, hzlim2, hr2, hsame, hv2, hbl2⟩ := hrel
          have h2 := hy.wd j
          have h3 := hzlim2.wd (k + j)
          have Hzl2 := Lib.hid hzl2; clear hzl2
          have Hv2 := Lib.hid hv2; clear hv2
          have Hsame := Lib.hid hsame; clear hsame
          by_cases hjt : j < m
          · have iy := HY.out wr .i64 j (by omega) (by omega)
            rw [Int.toNat_natCast] at iy
            have cy := HCY.out wr hbl2 j hjt
            have hcell := hr2.cell (i := k + j) (by rw [Hzl2.out]; omega)
            have hfk := hr2.free (k + j)
            have hp := prod_bound (wd xs k) (wd ys j) (by omega) (by omega) (by omega) (by omega)
            obtain ⟨hp1, hp2⟩ := hp
            go_wp2
            have hb3 : wd xs k * wd ys j + wd zs (k + j) + c < 4294967296 * 4294967296 := by
              have := Nat.mul_le_mul (show wd xs k ≤ 4294967295 by omega) (show wd ys j ≤ 4294967295 by omega); omega
            go_roundw
            case rel => exact ⟨j + 1, (wd xs k * wd ys j + wd zs (k + j) + c) / 4294967296, zs.set (k + j) ((wd xs k * wd ys j + wd zs (k + j) + c) % 4294967296), by omega, by go_num, by go_num, by omega, by rw [List.length_set, Hzl2.out],
              hzlim2.set (by omega), hr2.store _ _ _ (by rw [Int.natCast_emod, Int.natCast_add, Int.natCast_add, Int.natCast_mul]; rfl), fun i hi => by rw [wd_set (by rw [Hzl2.out]; omega), if_neg (by omega)]; exact Hsame.out i (by omega),
              times_in' (by rw [Hzl2.out]; omega) (Hsame.out _ (by omega)) Hv2.out, below_store hbl2 hg1 _⟩
            case measure => simp [intOf]; omega
          · obtain rfl : j = m := by omega
            have hcell := hr2.cell (i := k + j) (by rw [Hzl2.out]; omega)
            have hfk := hr2.free (k + j)
            go_wp2
            go_roundw
            case rel => exact ⟨k + 1, zs.set (k + j) c, by omega, by go_num, by rw [List.length_set, Hzl2.out], hzlim2.set hc, hr2.store _ _ _ rfl,
              times_out Hm.out (by rw [Hzl2.out]; omega) (by rw [← Hn.out]; exact hlt) Hv.out Hv2.out, below_store hbl2 hg1 _⟩
            case measure => simp [intOf]; omega
      · obtain rfl : k = n := by omega
        have hl2 := hr.lay
        have hle2 := rep_val_le hzlim
        have hval : Hid (val zs0 = val xs * val ys) := by
          have h := Hv.out
          rw [List.take_of_length_le (by rw [Hzl.out]; omega), List.take_of_length_le (by rw [Hn.out]; omega)] at h
          exact h
        go_wp2_with (go_at_call 236; refine (big_norm _ _ zs0 _ _ (by assumption) (by assumption) (by rw [Hzl.out]) (by omega) (by omega)).mono ?_; rintro e w' ⟨rfl, rfl⟩)
        go_ret
        rw [Hzl.out] at hle2
        rw [← hval.out]
        exact ⟨_, _, rfl, hle2, by omega, hl2.norm hzlim, hbl⟩

end Go.Proofs.YtbffpkmfhkphdaaGreatDoor

namespace Go.Proofs.YtbffpkmfhkphdaaGreatDoor
open Go Go.RowKit Limb

theorem toN2 (a b : Nat) : ((a : Int) + (b : Int)).toNat = a + b := by omega
theorem toN3 (a b : Nat) : ((a : Int) + (b : Int) + 1).toNat = a + b + 1 := by omega
theorem right_step {xs zs : List Nat} {d r k p v : Nat} (hx : Lim xs) (hz : k < zs.length) (hr : r ≤ 32) (hp : p = 2 ^ r) (hv : v = (wd xs (d + k) + wd xs (d + k + 1) * 4294967296) / p % 4294967296)
    (h : val (zs.take k) = val xs / (2 ^ r * W d) % W k) : val ((zs.set k v).take (k + 1)) = val xs / (2 ^ r * W d) % W (k + 1) := by
  rw [val_set_take _ hz, W_div_mod, h, hv, hp, shr_word hx _ _ _ hr]
theorem right_end {xs zs : List Nat} {d m s r : Nat} (hx : Lim xs) (hl : d + m = xs.length) (hz : zs.length = m) (hs : 2 ^ s = 2 ^ r * W d)
    (h : val (zs.take m) = val xs / (2 ^ r * W d) % W m) : val zs = val xs / 2 ^ s := by
  rw [List.take_of_length_le (by omega), Nat.mod_eq_of_lt, ← hs] at h
  · exact h
  · have h1 := val_lt hx
    rw [← hl, W_add] at h1
    rw [Nat.div_lt_iff_lt_mul (Nat.mul_pos (Nat.pow_pos (by decide)) (W_pos d)), ← Nat.mul_assoc, Nat.mul_right_comm, Nat.mul_comm (W m) (W d)]
    exact Nat.lt_of_lt_of_le h1 (Nat.le_mul_of_pos_right _ (Nat.pow_pos (by decide)))
theorem lost_iff {xs : List Nat} {d r L : Nat} (hx : Lim xs) (hd : d < xs.length) (hr : r ≤ 32) (hv : L = 0 ↔ val (xs.take d) = 0) : (L ||| wd xs d % 2 ^ r) = 0 ↔ val xs % (2 ^ r * W d) = 0 := by
  have e : wd xs d % 2 ^ r = val xs / W d % 2 ^ r := by
    rw [wd_val hx, show 4294967296 = 2 ^ r * 2 ^ (32 - r) from by rw [← Nat.pow_add, show r + (32 - r) = 32 from by omega], Nat.mod_mul_right_mod]
  rw [Nat.or_eq_zero_iff, hv, e, val_take hx, Nat.mul_comm, Nat.mod_mul, Nat.add_eq_zero_iff, Nat.mul_eq_zero]
  have := W_pos d; omega

theorem right_lost {L x r : Nat} (hL : L < 4294967296) (hx : x < 4294967296) (hr : r < 32) :
    bits .or .u32 (L : Int) (bits .and .u32 (x : Int) (((2 ^ r : Nat) : Int) - 1)) = ((L ||| x % 2 ^ r : Nat) : Int) ∧ L ||| x % 2 ^ r < 4294967296 := by
  have h1 : 2 ^ r ≤ 2 ^ 31 := Nat.pow_le_pow_right (by decide) (by omega)
  have h2 : 0 < 2 ^ r := Nat.pow_pos (by decide)
  have e : 2 ^ 31 = 2147483648 := rfl
  have e1 : (((2 ^ r : Nat) : Int) - 1) = ((2 ^ r - 1 : Nat) : Int) := by omega
  have h3 : x % 2 ^ r < 4294967296 := Nat.lt_of_le_of_lt (Nat.mod_le _ _) hx
  rw [e1, u32_and_nat _ _ hx (by omega), Nat.and_two_pow_sub_one_eq_mod, u32_or_nat _ _ hL h3]
  exact ⟨rfl, Nat.or_lt_two_pow (n := 32) hL h3⟩

set_option maxHeartbeats 1600000 in
set_option maxRecDepth 100000 in
theorem big_right (w : World) (a : Option Addr) (xs : List Nat) (n ca s : Nat) (ha : Lay .u32 w a xs) (hx : Lim xs) (nx : Norm xs) (hn : n = xs.length) (hca : n ≤ ca)
    (ln : n ≤ 549755813888) (ls : s ≤ 4294967296) :
    Calls Tryz.prog 150 #[.slice a n ca, .int .u64 s] w fun e w' =>
      ∃ a' cap', e = .returned (.tuple #[.slice a' (rep (val xs / 2 ^ s)).length cap', .bool (decide (val xs % 2 ^ s ≠ 0))]) ∧ (rep (val xs / 2 ^ s)).length ≤ cap' ∧ Lay .u32 w' a' (rep (val xs / 2 ^ s)) ∧ Below w.heap.size w w' := by
  obtain ⟨b1, off1, hix, hcx, _⟩ := ha.use 115 60 Tryz.underlying115 size32 ca
  rw [← hn] at hix hcx
  obtain ⟨d, hd⟩ : ∃ d, d = s / 32 := ⟨_, rfl⟩
  obtain ⟨r, hr⟩ : ∃ r, r = s % 32 := ⟨_, rfl⟩
  have e1 : (s : Int) / 32 = d := by omega
  have e2 : (s : Int) % 32 = r := by omega
  have d_le : d ≤ 134217728 := by omega
  have r_lt : r < 32 := by omega
  have hs : 2 ^ s = 2 ^ r * W d := by rw [hr, hd]; exact pow_split s
  by_cases h0 : n ≤ d
  · have hq : decide (n ≤ d) = true := by simp; omega
    have hlt : val xs < 2 ^ s := by
      rw [hs]
      have h1 := val_lt hx
      have h2 := W_mono (show xs.length ≤ d by omega)
      have h3 := Nat.le_mul_of_pos_left (W d) (Nat.pow_pos (n := r) (show 0 < 2 by decide))
      omega
    have hb : decide (val xs % 2 ^ s ≠ 0) = decide (0 < n) := by
      rw [Nat.mod_eq_of_lt hlt, Bool.eq_iff_iff, decide_eq_true_eq, decide_eq_true_eq, hn]
      have h4 : xs.length = 0 ↔ val xs = 0 := by
        have := rep_length_zero (n := val xs); rwa [rep_val hx nx] at this
      omega
    have hv0 : val xs / 2 ^ s = 0 := Nat.div_eq_of_lt hlt
    have HB := Lib.hid hb; clear hb
    have HV := Lib.hid hv0; clear hv0
    clear hn hd hr hs hlt hix hcx
    go_enter Tryz.func150, Tryz.ntmps150
    go_wp2
    go_ret2
    rw [HB.out, HV.out]
    exact ⟨none, 0, rfl, by simp [rep_zero], Lay.nil _ _ _, Below.refl _ _⟩
  · have hdn : d < n := by omega
    obtain ⟨m, hm1, hm2⟩ : ∃ m, n ≤ d + m ∧ d + m ≤ n := ⟨n - d, by omega, by omega⟩
    obtain ⟨b3, off3, hit, hct, _⟩ := (ha.take d).use 115 60 Tryz.underlying115 size32 ca
    rw [List.length_take, Nat.min_eq_left (by omega)] at hit hct
    have HT := Lib.hid hit; clear hit
    have HCT := Lib.hid hct; clear hct
    have Hn := Lib.hid hn; clear hn
    have HX := Lib.hid hix; clear hix
    have HCX := Lib.hid hcx; clear hcx
    have Hd := Lib.hid hd; clear hd
    have Hr := Lib.hid hr; clear hr
    have Hs := Lib.hid hs; clear hs
    have hd2 : d ≤ ca := by omega
    have hq : decide (n ≤ d) = false := by simp; omega
    clear h0
    go_enter Tryz.func150, Tryz.ntmps150
    go_wp2
    simp only [e2]
    go_loop [8, 31] (fun L i => ∃ (k LL : Nat), k ≤ d ∧ i = .int .i64 k ∧ L = .int .u32 LL ∧ LL < 4294967296 ∧ (LL = 0 ↔ val (xs.take k) = 0)) (fun _ i => d - (intOf i).toNat)
    case atStart => exact ⟨0, 0, by omega, rfl, rfl, by omega, by simp [val]⟩
    case round =>
      obtain ⟨k, L, hk, rfl, rfl, hL, hv⟩ := hrel
      have h1 := hx.wd k
      have Hv := Lib.hid hv; clear hv
      by_cases hlt : k < d
      · have ix := HT.out w .i64 k (by omega) (by omega)
        rw [Int.toNat_natCast] at ix
        have cx := HCT.out w (Below.refl _ _) k (by omega)
        rw [wd_take hlt] at cx
        have eo := u32_or_nat L (wd xs k) hL h1
        go_wp2
        go_round
        case rel => exact ⟨k + 1, L ||| wd xs k, by omega, by go_num, rfl, Nat.or_lt_two_pow (n := 32) hL h1, by rw [Nat.or_eq_zero_iff, Hv.out, val_take_succ, Nat.add_eq_zero_iff, Nat.mul_eq_zero]; have := W_pos k; omega⟩
        case measure => simp [intOf]; omega
      · obtain rfl : k = d := by omega
        clear h1
        have h1 := hx.wd k
        have ix := HX.out w .i64 k (by omega) (by omega)
        rw [Int.toNat_natCast] at ix
        have cx := HCX.out w (Below.refl _ _) k hdn
        obtain ⟨eo, hL2⟩ := right_lost hL h1 r_lt
        obtain ⟨L2, hL2e⟩ : ∃ L2, L2 = L ||| wd xs k % 2 ^ r := ⟨_, rfl⟩
        rw [← hL2e] at eo hL2
        have HL2 := Lib.hid hL2e; clear hL2e
        have ep : (2 : Int) ^ r = ((2 ^ r : Nat) : Int) := by rw [Int.natCast_pow]; rfl
        have hp31 : 2 ^ r ≤ 2147483648 := Nat.pow_le_pow_right (n := 2) (by decide) (show r ≤ 31 by omega)
        have hp0 : 0 < 2 ^ r := Nat.pow_pos (by decide)
        obtain ⟨p, hpe⟩ : ∃ p, p = 2 ^ r := ⟨_, rfl⟩
        rw [← hpe] at eo ep hp31 hp0
        have HP := Lib.hid hpe; clear hpe
        go_wp2_with (at_make; refine wpList_make_row rfl _ _ _ rfl 60 (.int .u32 0) 4 Tryz.underlying115 info32 rfl _ _ _ _ m m rfl rfl (by omega) (by omega) (by omega) (by omega) (by omega) ?_; intro w1 g hg1 hg2 hrow hbel)
        go_loopw [56] (fun i wr => ∃ (j : Nat) (zs : List Nat), j ≤ m ∧ i = .int .i64 j ∧ zs.length = m ∧ Lim zs ∧ Row wr g 60 (nums .u32 zs) ∧
            val (zs.take j) = val xs / (2 ^ r * W k) % W j ∧ Below w.heap.size w wr) (fun i _ => m - (intOf i).toNat)
        case atStart => exact ⟨0, List.replicate m 0, by omega, rfl, by simp, Lim.replicate _ (by decide), by rw [nums_replicate]; exact hrow, by simp [val, W_zero, Nat.mod_one], hbel⟩
        case round =>
          obtain ⟨j, zs, hj, rfl, hzl, hzlim, hrw, hv2, hbl⟩ := hrel
          have Hzl := Lib.hid hzl; clear hzl
          have Hv2 := Lib.hid hv2; clear hv2
          have hxa := ha.below hbl
          clear ix cx
          by_cases hlt2 : j < m
          · have g1 := hx.wd (k + j)
            have g2 := hx.wd (k + j + 1)
            have hcell := hrw.cell (i := j) (by rw [Hzl.out]; omega)
            have hfk := hrw.free j
            have eo2 := or_lo_hi _ _ g1 g2
            go_wp2_with (go_at_call 237; refine (big_digit _ _ xs _ _ _ hxa hx Hn.out (by omega) (by omega)).mono ?_; simp only [toN2, toN3]; rintro e w' ⟨rfl, rfl⟩)
            go_roundw
            case rel => exact ⟨j + 1, zs.set j ((wd xs (k + j) + wd xs (k + j + 1) * 4294967296) / p % 4294967296), by omega, by go_num, by rw [List.length_set, Hzl.out],
              hzlim.set (by omega), hrw.store _ _ _ (by rw [Int.natCast_emod, Int.natCast_ediv, Int.natCast_add, Int.natCast_mul]; rfl), right_step hx (by rw [Hzl.out]; exact hlt2) (by omega) HP.out rfl Hv2.out, below_store hbl hg1 _⟩
            case measure => simp [intOf]; omega
          · obtain rfl : j = m := by omega
            have hl2 := hrw.lay
            have hle2 := rep_val_le hzlim
            have hval := Lib.hid (right_end (m := j) hx (by rw [← Hn.out]; omega) Hzl.out Hs.out Hv2.out)
            have hlo := Lib.hid (lost_iff (r := r) hx (by rw [← Hn.out]; omega) (by omega) Hv.out)
            go_wp2_with (go_at_call 236; refine (big_norm _ _ zs _ _ (by assumption) (by assumption) (by rw [Hzl.out]) (by omega) (by omega)).mono ?_; rintro e w' ⟨rfl, rfl⟩)
            go_ret2
            rw [Hzl.out] at hle2
            rw [← hval.out, Hs.out]
            refine ⟨_, _, congrArg Ending.returned (congrArg Value.tuple ?_), hle2, hl2.norm hzlim, hbl⟩
            have hb : (decide (val xs % (2 ^ r * W k) ≠ 0)) = ((L2 : Int) != 0) := by
              rw [Bool.eq_iff_iff]
              have := hlo.out
              rw [← HL2.out] at this
              simp only [decide_eq_true_eq, bne_iff_ne, ne_eq]
              omega
            rw [hb]; rfl

end Go.Proofs.YtbffpkmfhkphdaaGreatDoor

namespace Go.Proofs.YtbffpkmfhkphdaaGreatDoor
open Go Go.RowKit Go.Shelf Limb

attribute [local go_sem] Oper.semAt_some

/-- A complement's closure: so many words, of which number. -/
structure Closed (w : World) (u : Value) (n : Nat) (z : Int) (Bn Ba : Nat) (neg : Bool) (a : Option Addr) (xs : List Nat) (cap : Nat) : Prop where
  val : u = .func (.func 152) #[] #[.pointer (some ⟨Bn, 0, none⟩), .pointer (some ⟨Ba, 0, none⟩)]
  rn : Row w Bn 3 [.int .i64 n]
  ra : Row w Ba 24 [.bool neg, .slice a xs.length cap]
  lay : Lay .u32 w a xs
  lim : Lim xs
  len : xs.length ≤ n
  num : z = if neg then -(Limb.val xs : Int) else (Limb.val xs : Int)
  pos : neg = true → 0 < Limb.val xs

theorem Closed.below {w w' : World} {u : Value} {n : Nat} {z : Int} {Bn Ba : Nat} {neg : Bool} {a : Option Addr} {xs : List Nat} {cap : Nat} (h : Closed w u n z Bn Ba neg a xs cap) (hb : Below w.heap.size w w') : Closed w' u n z Bn Ba neg a xs cap :=
  ⟨h.val, h.rn.below hb h.rn.lt, h.ra.below hb h.ra.lt, h.lay.below hb, h.lim, h.len, h.num, h.pos⟩

set_option maxRecDepth 100000 in
set_option maxHeartbeats 1000000 in
theorem large_complement (w : World) (neg : Bool) (a : Option Addr) (xs : List Nat) (m cap n : Nat) (hlay : Lay .u32 w a xs) (hlim : Lim xs) (hm : m = xs.length) (hn : m ≤ n) (hp : neg = true → 0 < val xs) (z : Int) (hz : z = if neg then -(val xs : Int) else (val xs : Int)) :
    Calls Tryz.prog 71 #[.agg #[.bool neg, .slice a m cap], .int .i64 n] w fun e w' => ∃ u, e = .returned u ∧ (∃ Bn Ba, Closed w' u n z Bn Ba neg a xs cap) ∧ Below w.heap.size w w' := by
  subst hm
  have hb1 : Below w.heap.size w (w.alloc (.cells #[.bool neg, .slice a xs.length cap] 24)) := (Below.refl _ _).alloc (Nat.le_refl _) _
  have hb2 : Below w.heap.size w ((w.alloc (.cells #[.bool neg, .slice a xs.length cap] 24)).alloc (.cells #[.int .i64 n] 3)) := hb1.alloc (by rw [World.size_alloc]; omega) _
  have ra : Row ((w.alloc (.cells #[.bool neg, .slice a xs.length cap] 24)).alloc (.cells #[.int .i64 n] 3)) w.heap.size 24 [.bool neg, .slice a xs.length cap] := by
    apply Row.alloc; unfold Row; exact heap_alloc_new _ _
  have rn : Row ((w.alloc (.cells #[.bool neg, .slice a xs.length cap] 24)).alloc (.cells #[.int .i64 n] 3)) (w.heap.size + 1) 3 [.int .i64 n] := by
    have h := heap_alloc_new (w.alloc (.cells #[.bool neg, .slice a xs.length cap] 24)) (.cells #[.int .i64 n] 3)
    rw [World.size_alloc] at h; exact h
  have hfin := Lib.hid (show (∃ Bn Ba, Closed _ (.func (.func 152) #[] #[.pointer (some ⟨w.heap.size + 1, 0, none⟩), .pointer (some ⟨w.heap.size, 0, none⟩)]) n z Bn Ba neg a xs cap) ∧ _ from ⟨⟨_, _, ⟨rfl, rn, ra, hlay.below hb2, hlim, hn, hz, hp⟩⟩, hb2⟩)
  clear ra rn hb1 hb2 hz hp
  go_enter Tryz.func71, Tryz.ntmps71
  go_wp2
  go_ret
  exact ⟨_, rfl, hfin.out⟩

set_option maxRecDepth 100000 in
set_option maxHeartbeats 2000000 in
theorem comp_in (F : Fence) (n : Nat) (h5 : F.fn 152) (hro : F.round = none) (hn : 1 ≤ n) (l k : Nat) (z : Int) (u : Value) (w0 : World) (Bn Ba : Nat) (neg : Bool) (a : Option Addr) (xs : List Nat) (cap : Nat) (hk : k ≤ 1099511627776) (H : Closed w0 u k z Bn Ba neg a xs cap) (J Jx : List (Nat × Nat) → World → Prop)
    (hY : ∀ pre x W, J pre W → pre.length < k → YieldAt F (n - 1) Tryz.prog l #[.int .i64 (x.1 : Nat), .int .u32 (x.2 : Nat)] W fun e W' =>
      (e = .returned (.bool true) ∧ J (pre ++ [x]) W' ∧ Below w0.heap.size W W') ∨ (e = .returned (.bool false) ∧ Jx (pre ++ [x]) W'))
    (W : World) (hW : Below w0.heap.size w0 W) (h0 : J [] W) :
    CallsIn F n Tryz.prog 152 #[.func (.yield l) #[] #[], .pointer (some ⟨Bn, 0, none⟩), .pointer (some ⟨Ba, 0, none⟩)] W fun e W' => (∃ v, e = .returned v) ∧
      ((∃ ys, ys = upto (fun j => (j, wd (two k z) j)) k ∧ J ys W') ∨ (∃ pre, (∃ j, j ≤ k ∧ pre = upto (fun j => (j, wd (two k z) j)) j) ∧ Jx pre W')) := by
  obtain ⟨b1, off1, hix, hcx, _⟩ := H.lay.use 22 60 Tryz.underlying22 size32 cap
  obtain ⟨m, hm⟩ : ∃ m, m = xs.length := ⟨_, rfl⟩
  have hrn := fun X (h : Below w0.heap.size w0 X) => (H.rn.below h H.rn.lt).cell_at 0
  have hra := fun X (h : Below w0.heap.size w0 X) => (H.ra.below h H.ra.lt).cell_at 0
  have hra1 := fun X (h : Below w0.heap.size w0 X) => (H.ra.below h H.ra.lt).cell_at 1
  simp only [List.getElem?_cons_zero, List.getElem?_cons_succ] at hrn hra hra1
  have hz := H.num
  have hlen := H.len
  rw [← hm] at hix hcx hra1 hlen
  have hlim := H.lim
  have Hm := Lib.hid hm
  have Hlen := Lib.hid hlen
  have HIX := Lib.hid hix
  have HCX := Lib.hid hcx
  have HRN := Lib.hid hrn
  have HRA := Lib.hid hra
  have HRA1 := Lib.hid hra1
  have c0 := HRN.out W hW
  have Hlim := Lib.hid hlim
  have HY := Lib.hid hY
  clear hix hcx hm hrn hra hra1 H hlim hlen hY
  obtain ⟨T, hT⟩ : ∃ T, T = two k z := ⟨_, rfl⟩
  have hTl := Lib.hid (two_length k z)
  have hTm := Lib.hid (two_lim k z)
  rw [← hT] at hTl hTm ⊢
  cases neg with
  | true =>
    rw [if_pos rfl] at hz
    subst hz
    have hst : Hid (val (T.take 0) + 1 * Limb.W 0 + val (xs.take 0) = Limb.W 0) := Lib.hid (by simp [val, W_zero])
    have HT := Lib.hid hT
    clear hT
    refine callsIn_of_wp Tryz.func152 rfl h5 ?_ hro
    simp only [Tryz.ntmps152, List.size_toArray, List.length_cons, List.length_nil, Nat.reduceAdd, Nat.reduceSub, Array.replicate_succ, Array.replicate_zero, List.push_toArray, List.append_toArray, List.nil_append, List.cons_append]
    gi_wp2
    gi_loopw [4, 9] (fun cv i wr => ∃ j c : Nat, j ≤ k ∧ c ≤ 1 ∧ cv = .int .u64 c ∧ i = .int .i64 j ∧ J (upto (fun j => (j, wd T j)) j) wr ∧ Below w0.heap.size w0 wr ∧ Hid (val (T.take j) + c * Limb.W j + val (xs.take j) = Limb.W j))
      (fun _ i _ => k - (intOf i).toNat)
    case atStart => exact ⟨0, 1, Nat.zero_le _, by omega, rfl, rfl, h0, hW, hst⟩
    case round =>
      obtain ⟨j, c, hj, hc, rfl, rfl, hJ, hB, Hv⟩ := hrel
      clear hst
      by_cases hlt : j < k
      · have c1 := HRA.out wr hB
        have c2 := HRA1.out wr hB
        have dg := comp_digit Hlim.out hlt (by rw [← HT.out]; exact Hv.out)
        rw [← HT.out] at dg
        obtain ⟨x, hx⟩ : ∃ x, x = wd xs j := ⟨_, rfl⟩
        have hxl : x < 4294967296 := by rw [hx]; exact Hlim.out.wd j
        rw [← hx] at dg
        obtain ⟨t, ht⟩ : ∃ t, t = 4294967295 - x + c := ⟨_, rfl⟩
        rw [← ht] at dg
        obtain ⟨d, hd⟩ : ∃ d, d = wd T j := ⟨_, rfl⟩
        rw [← hd] at dg
        obtain ⟨c', hc'⟩ : ∃ c', c' = t / 4294967296 := ⟨_, rfl⟩
        rw [← hc'] at dg
        have e1 : (t : Int) % 4294967296 = (d : Int) := by omega
        have e2 : (t : Int) / 4294967296 = (c' : Int) := by omega
        have e3 := u32_inv hxl
        obtain ⟨y, hy0⟩ : ∃ y, y = 4294967295 - x := ⟨_, rfl⟩
        rw [← hy0] at e3 ht
        have hyl : y < 4294967296 := by omega
        have e4 : IntKind.u64.wrap (y : Int) = (y : Int) := by rw [IntKind.wrap_u64]; omega
        have e5 : IntKind.u64.wrap ((y : Int) + (c : Int)) = (t : Int) := by rw [IntKind.wrap_u64]; omega
        have hc1 : c' ≤ 1 := by omega
        have Hy0 := Lib.hid hy0
        have Hd2 := Lib.hid dg.2
        have Hx := Lib.hid hx
        have Hd := Lib.hid hd
        clear dg hx hd ht hc' hy0 hyl
        obtain ⟨fn, tmps, assign, body, hy, hR⟩ := HY.out _ (j, d) wr hJ (by rw [upto_length]; exact hlt)
        dsimp only at hy
        by_cases hm : j < m
        · have ix := HIX.out wr .i64 j (by omega) (by omega)
          rw [Int.toNat_natCast] at ix
          have cx := HCX.out wr hB j hm
          rw [← Hx.out] at cx
          gi_wp2
          refine hR.mono ?_
          rintro e W3 (⟨rfl, hJ3, hk3⟩ | ⟨rfl, hJx3⟩)
          · gi_wp2
            go_roundw
            case rel => exact ⟨j + 1, c', by omega, hc1, rfl, by go_num, by rw [upto_succ, ← Hd.out]; exact hJ3, hB.trans hk3, Hd2⟩
            case measure => simp [intOf]; omega
          · gi_wp2
            refine bodyPost_ret (results_none rfl _ _ _) rfl ?_
            exact ⟨⟨_, rfl⟩, .inr ⟨_, ⟨j + 1, by omega, rfl⟩, by rw [upto_succ, ← Hd.out]; exact hJx3⟩⟩
        · have hx0 : x = 0 := by rw [Hx.out]; exact wd_ge (by rw [← Hm.out]; omega)
          rw [hx0] at e3
          have e3 : bits .xor .u32 IntKind.u32.max 0 = (y : Int) := e3
          clear hx0
          gi_wp2
          refine hR.mono ?_
          rintro e W3 (⟨rfl, hJ3, hk3⟩ | ⟨rfl, hJx3⟩)
          · gi_wp2
            go_roundw
            case rel => exact ⟨j + 1, c', by omega, hc1, rfl, by go_num, by rw [upto_succ, ← Hd.out]; exact hJ3, hB.trans hk3, Hd2⟩
            case measure => simp [intOf]; omega
          · gi_wp2
            refine bodyPost_ret (results_none rfl _ _ _) rfl ?_
            exact ⟨⟨_, rfl⟩, .inr ⟨_, ⟨j + 1, by omega, rfl⟩, by rw [upto_succ, ← Hd.out]; exact hJx3⟩⟩
      · obtain rfl : j = k := by omega
        gi_wp2
        go_end0
        exact ⟨⟨_, rfl⟩, .inl ⟨_, rfl, hJ⟩⟩
  | false =>
    rw [if_neg (by decide)] at hz
    subst hz
    have hwd : ∀ j, wd T j = wd xs j := fun j => by rw [hT, comp_end Hlim.out (by rw [← Hm.out]; exact Hlen.out), wd_pad]
    have HWD := Lib.hid hwd
    have HT := Lib.hid hT
    clear hT hwd
    refine callsIn_of_wp Tryz.func152 rfl h5 ?_ hro
    simp only [Tryz.ntmps152, List.size_toArray, List.length_cons, List.length_nil, Nat.reduceAdd, Nat.reduceSub, Array.replicate_succ, Array.replicate_zero, List.push_toArray, List.append_toArray, List.nil_append, List.cons_append]
    gi_wp2
    gi_loopw [9] (fun i wr => ∃ j : Nat, j ≤ k ∧ i = .int .i64 j ∧ J (upto (fun j => (j, wd T j)) j) wr ∧ Below w0.heap.size w0 wr)
      (fun i _ => k - (intOf i).toNat)
    case atStart => exact ⟨0, Nat.zero_le _, rfl, h0, hW⟩
    case round =>
      obtain ⟨j, hj, rfl, hJ, hB⟩ := hrel
      by_cases hlt : j < k
      · have c1 := HRA.out wr hB
        have c2 := HRA1.out wr hB
        obtain ⟨d, hd⟩ : ∃ d, d = wd T j := ⟨_, rfl⟩
        have Hd := Lib.hid hd
        have Hx := Lib.hid (hd.trans (HWD.out j))
        clear hd
        obtain ⟨fn, tmps, assign, body, hy, hR⟩ := HY.out _ (j, d) wr hJ (by rw [upto_length]; exact hlt)
        dsimp only at hy
        by_cases hm : j < m
        · have ix := HIX.out wr .i64 j (by omega) (by omega)
          rw [Int.toNat_natCast] at ix
          have cx := HCX.out wr hB j hm
          rw [← Hx.out] at cx
          gi_wp2
          refine hR.mono ?_
          rintro e W3 (⟨rfl, hJ3, hk3⟩ | ⟨rfl, hJx3⟩)
          · gi_wp2
            go_roundw
            case rel => exact ⟨j + 1, by omega, by go_num, by rw [upto_succ, ← Hd.out]; exact hJ3, hB.trans hk3⟩
            case measure => simp [intOf]; omega
          · gi_wp2
            refine bodyPost_ret (results_none rfl _ _ _) rfl ?_
            exact ⟨⟨_, rfl⟩, .inr ⟨_, ⟨j + 1, by omega, rfl⟩, by rw [upto_succ, ← Hd.out]; exact hJx3⟩⟩
        · have hx0 : d = 0 := by rw [Hx.out]; exact wd_ge (by rw [← Hm.out]; omega)
          rw [hx0] at hy
          have hy : _ := hy
          dsimp only [Int.natCast_zero] at hy
          gi_wp2
          refine hR.mono ?_
          rintro e W3 (⟨rfl, hJ3, hk3⟩ | ⟨rfl, hJx3⟩)
          · gi_wp2
            go_roundw
            case rel => exact ⟨j + 1, by omega, by go_num, by rw [upto_succ, ← Hd.out]; exact hJ3, hB.trans hk3⟩
            case measure => simp [intOf]; omega
          · gi_wp2
            refine bodyPost_ret (results_none rfl _ _ _) rfl ?_
            exact ⟨⟨_, rfl⟩, .inr ⟨_, ⟨j + 1, by omega, rfl⟩, by rw [upto_succ, ← Hd.out]; exact hJx3⟩⟩
      · obtain rfl : j = k := by omega
        gi_wp2
        go_end0
        exact ⟨⟨_, rfl⟩, .inl ⟨_, rfl, hJ⟩⟩

end Go.Proofs.YtbffpkmfhkphdaaGreatDoor
