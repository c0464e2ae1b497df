/- The walk of big.less: a difference. The walks of big.word, big.low, big.clone. The walk of big.compare. The walk of big.left: a number times a power of 2. The walks of big.length and big.short. -/
import Derived.Test.YtbffpkmfhkphdaaGreatDoorGX05
import Derived.Test.YtbffpkmfhkphdaaGreatDoorGX04
import Derived.Test.YtbffpkmfhkphdaaGreatDoorShelf
set_option linter.unusedVariables false
set_option linter.unusedSimpArgs false
namespace Go.Proofs.YtbffpkmfhkphdaaGreatDoor
open Go Go.RowKit Limb

/-- One word of a difference. -/
theorem less_step {xs ys zs : List Nat} {k c : Nat} (hz : k < zs.length) (hc : c ≤ 1) (hx : wd xs k < 4294967296) (hy : wd ys k < 4294967296)
    (h : val (zs.take k) + val (ys.take k) = val (xs.take k) + c * W k) :
    val ((zs.set k ((wd xs k + 4294967296 - wd ys k - c) % 4294967296)).take (k + 1)) + val (ys.take (k + 1)) = val (xs.take (k + 1)) + (if wd xs k < wd ys k + c then 1 else 0) * W (k + 1) := by
  rw [val_set_take _ hz, val_take_succ xs, val_take_succ ys, W_succ]
  have key : (wd xs k + 4294967296 - wd ys k - c) % 4294967296 + wd ys k + c = wd xs k + (if wd xs k < wd ys k + c then 1 else 0) * 4294967296 := by
    split <;> omega
  have k2 := congrArg (fun t => W k * t) key
  simp only [Nat.mul_add] at k2
  have e1 : W k * ((if wd xs k < wd ys k + c then 1 else 0) * 4294967296) = (if wd xs k < wd ys k + c then 1 else 0) * (4294967296 * W k) := by
    rw [Nat.mul_comm, Nat.mul_assoc]
  rw [e1] at k2
  have e2 : W k * c = c * W k := Nat.mul_comm _ _
  omega

theorem sub_borrow (x y c : Nat) (hx : x < 4294967296) (hy : y < 4294967296) (hc : c ≤ 1) :
    IntKind.u64.wrap (IntKind.u64.wrap ((x : Int) - (y : Int)) - (c : Int)) / 9223372036854775808 = ((if x < y + c then 1 else 0 : Nat) : Int) := by
  rw [IntKind.wrap_u64, IntKind.wrap_u64]; split <;> omega
theorem sub_low (x y c : Nat) (hx : x < 4294967296) (hy : y < 4294967296) (hc : c ≤ 1) :
    IntKind.u64.wrap (IntKind.u64.wrap ((x : Int) - (y : Int)) - (c : Int)) % 4294967296 = (((x + 4294967296 - y - c) % 4294967296 : Nat) : Int) := by
  rw [IntKind.wrap_u64, IntKind.wrap_u64]; omega
theorem less_end {xs ys zs : List Nat} {n c : Nat} (hz : Lim zs) (hzl : zs.length = n) (hxn : xs.length = n) (hyn : ys.length ≤ n) (hle : val ys ≤ val xs)
    (h : val (zs.take n) + val (ys.take n) = val (xs.take n) + c * W n) : val zs = val xs - val ys := by
  rw [List.take_of_length_le (by omega), List.take_of_length_le (by omega), List.take_of_length_le (by omega)] at h
  have := val_lt hz
  rw [hzl] at this
  cases c with
  | zero => omega
  | succ c => rw [Nat.add_mul] at h; omega

set_option maxHeartbeats 800000 in
set_option maxRecDepth 100000 in
theorem big_less (w : World) (a b : Option Addr) (xs ys : List Nat) (n m ca cb : Nat) (ha : Lay .u32 w a xs) (hb : Lay .u32 w b ys) (hx : Lim xs) (hy : Lim ys) (hn : n = xs.length) (hm : m = ys.length)
    (ln : n ≤ 1099511627776) (hle : val ys ≤ val xs) (hmn : m ≤ n) :
    Calls Tryz.prog 167 #[.slice a n ca, .slice b m cb] w fun e w' => NatRes w w' e (val xs - val ys) := by
  obtain ⟨b1, off1, hix, hcx, _⟩ := ha.use 115 60 Tryz.underlying115 size32 ca
  rw [← hn] at hix hcx
  have Hn := Lib.hid hn; clear hn
  have Hm := Lib.hid hm; clear hm
  have HX := Lib.hid hix; clear hix
  have HCX := Lib.hid hcx; clear hcx
  go_enter Tryz.func167, Tryz.ntmps167
  go_wp2_with (at_make; refine wpList_make_row rfl _ _ _ rfl 60 (.int .u32 0) 4 Tryz.underlying115 info32 rfl _ _ _ _ n n rfl rfl rfl rfl (by omega) (by omega) (by omega) ?_; intro w1 g hg1 hg2 hrow hbel)
  go_loopw [6, 14] (fun c i wr => ∃ (k cc : Nat) (zs : List Nat), k ≤ n ∧ i = .int .i64 k ∧ c = .int .u64 cc ∧ cc ≤ 1 ∧ zs.length = n ∧ Lim zs ∧ Row wr g 60 (nums .u32 zs) ∧
      val (zs.take k) + val (ys.take k) = val (xs.take k) + cc * W k ∧ Below w.heap.size w wr) (fun _ i _ => n - (intOf i).toNat)
  case atStart => exact ⟨0, 0, List.replicate n 0, by omega, rfl, rfl, by omega, by simp, Lim.replicate _ (by decide), by rw [nums_replicate]; exact hrow, by simp [val], hbel⟩
  case round =>
    obtain ⟨k, cc, zs, hk, rfl, rfl, hc1, hzl, hzlim, hr, hv, hbl⟩ := hrel
    have h1 := hx.wd k
    have h2 := hy.wd k
    have Hzl := Lib.hid hzl; clear hzl
    have Hv := Lib.hid hv; clear hv
    by_cases hlt : k < n
    · have hcell := hr.cell (i := k) (by rw [Hzl.out]; omega)
      have hfk := hr.free k
      have ix := fun q => HX.out (wr.drewN q) .i64 k (by omega) (by omega)
      simp only [Int.toNat_natCast] at ix
      have cx : wr.cell? ⟨b1, off1 + k, none⟩ = some (.int .u32 (wd xs k : Nat)) := HCX.out wr hbl k hlt
      have hyb := hb.below hbl
      go_wp2
      go_quiet ((go_at_call 237; exact Calls.quiet_of_same ((big_digit _ _ _ _ _ _ (hyb.drewN _) hy Hm.out (by omega) (by omega)).mono (fun e w' h => ⟨h.1, h.2.symm⟩))))
      go_wp2
      go_roundw
      case rel => exact ⟨k + 1, if wd xs k < wd ys k + cc then 1 else 0, zs.set k ((wd xs k + 4294967296 - wd ys k - cc) % 4294967296), by omega, by go_num, by rw [sub_borrow _ _ _ h1 h2 hc1], by split <;> omega, by rw [List.length_set, Hzl.out],
        hzlim.set (by omega), (hr.drewN _).store _ _ _ (sub_low _ _ _ h1 h2 hc1), less_step (by rw [Hzl.out]; exact hlt) hc1 h1 h2 Hv.out, below_store (below_drewN hbl _) hg1 _⟩
      case measure => simp [intOf]; omega
    · obtain rfl : k = n := by omega
      have hl2 := hr.lay
      have hle2 := rep_val_le hzlim
      have hval := Lib.hid (less_end hzlim Hzl.out (by rw [Hn.out]) (by rw [← Hm.out]; exact hmn) hle Hv.out)
      clear h1 h2
      go_wp2_with (go_at_call 236; refine (big_norm _ _ zs _ _ (by assumption) (by assumption) (by rw [Hzl.out]) (by omega) (by omega)).mono ?_; rintro e w' ⟨rfl, rfl⟩)
      go_ret
      rw [Hzl.out] at hle2
      rw [← hval.out]
      exact ⟨_, _, rfl, hle2, by omega, hl2.norm hzlim, hbl⟩

end Go.Proofs.YtbffpkmfhkphdaaGreatDoor

namespace Go.Proofs.YtbffpkmfhkphdaaGreatDoor
open Go Go.RowKit Limb

theorem lay_two (w : World) (x y : Int) (p q : Nat) (e : TypeId) (hx : x = p) (hy : y = q) : Lay .u32 (w.alloc (.cells #[.int .u32 x, .int .u32 y] e)) (some ⟨w.heap.size, 0, none⟩) [p, q] := by
  refine ⟨w.heap.size, 0, fun _ => ⟨rfl, by rw [World.size_alloc]; omega⟩, fun i hi => ?_⟩
  rw [World.cell?_alloc_at _ _ _ _ rfl]
  subst hx hy
  match i, hi with
  | 0, _ => rfl
  | 1, _ => rfl

set_option maxRecDepth 100000 in
theorem big_word (w : World) (n : Nat) (hn : n < 18446744073709551616) :
    Calls Tryz.prog 238 #[.int .u64 n] w fun e w' => NatRes w w' e n := by
  have hlim : Lim [n % 4294967296, n / 4294967296] := Lim.cons (by omega) (Lim.cons (by omega) Lim.nil)
  have hval : val [n % 4294967296, n / 4294967296] = n := by simp only [val]; omega
  have H := Lib.hid hval; clear hval
  go_enter Tryz.func238, Tryz.ntmps238
  go_wp2_with (go_at_call 236; refine (big_norm _ _ [n % 4294967296, n / 4294967296] _ _ (lay_two _ _ _ _ _ _ (by simp) (by simp)) hlim (by simp) (by simp) (by simp)).mono ?_; rintro e w' ⟨rfl, rfl⟩)
  go_ret
  rw [H.out]
  refine ⟨_, _, rfl, ?_, by decide, ?_, (Below.refl _ _).alloc (Nat.le_refl _) _⟩
  · have := rep_val_le hlim; rw [H.out] at this; simpa using this
  · have := (lay_two w (n % 4294967296 : Nat) (n / 4294967296 : Nat) _ _ 60 rfl rfl).norm hlim
    rw [H.out] at this; simpa using this

set_option maxRecDepth 100000 in
theorem big_low (w : World) (a : Option Addr) (l : List Nat) (n cap : Nat) (hlay : Lay .u32 w a l) (hlim : Lim l) (hn : n = l.length) (hm : n ≤ 9223372036854775807) :
    Calls Tryz.prog 161 #[.slice a n cap] w fun e w' => e = .returned (.int .u64 (val l % 18446744073709551616 : Nat)) ∧ w = w' := by
  obtain ⟨b, off, hix, hcell, hb⟩ := hlay.use 115 60 Tryz.underlying115 size32 cap
  have h0 := hlim.wd 0
  have h1 := hlim.wd 1
  rw [← hn] at hix hcell
  have e : val l % 18446744073709551616 = wd l 0 + wd l 1 * 4294967296 := by
    have := val_take hlim 2
    rw [show W 2 = 18446744073709551616 from rfl] at this
    rw [← this, val_take_succ, val_take_succ]; simp [val, W_zero, W_one, Nat.mul_comm]
  rw [e]
  by_cases c1 : n = 0
  · have z0 := wd_ge (l := l) (i := 0) (by omega)
    have z1 := wd_ge (l := l) (i := 1) (by omega)
    rw [z0, z1]
    clear hix hcell z0 z1 e h0 h1 hn hb
    subst c1
    go_enter Tryz.func161, Tryz.ntmps161
    go_wp2
    go_ret
    exact ⟨rfl, rfl⟩
  · have x0 := hix w .i64 0 (by omega) (by omega)
    have y0 := hcell w (Below.refl _ _) 0 (by omega)
    by_cases c2 : n = 1
    · have z1 := wd_ge (l := l) (i := 1) (by omega)
      rw [z1]
      clear hix hcell z1 e h1 hn hb c1
      subst c2
      simp only [Nat.zero_mul, Nat.add_zero, Int.toNat_zero] at *
      go_enter Tryz.func161, Tryz.ntmps161
      go_wp2
      go_ret
      exact ⟨rfl, rfl⟩
    · have x1 := hix w .i64 1 (by omega) (by omega)
      have y1 := hcell w (Below.refl _ _) 1 (by omega)
      have ho := or_lo_hi (wd l 0) (wd l 1) h0 h1
      clear hix hcell e hn hb
      simp only [Nat.add_zero, Int.toNat_zero, Int.toNat_one] at x0 x1 y0
      have g0 : 0 < n := by omega
      have g1 : (1 : Int) < n := by omega
      clear c1 c2
      go_enter Tryz.func161, Tryz.ntmps161
      go_wp2
      go_ret
      exact ⟨congrArg (fun x => Ending.returned (.int .u64 x)) (by omega), rfl⟩

set_option maxRecDepth 100000 in
theorem big_clone (w : World) (a : Option Addr) (l : List Nat) (n cap : Nat) (hlay : Lay .u32 w a l) (hn : n = l.length) (hm : n ≤ 1099511627776) :
    Calls Tryz.prog 155 #[.slice a n cap] w fun e w' => ∃ a' cap', e = .returned (.slice a' n cap') ∧ n ≤ cap' ∧ Lay .u32 w' a' l ∧ Below w.heap.size w w' := by
  go_enter Tryz.func155, Tryz.ntmps155
  go_wp2_with (at_builtin; refine wpList_append_lay rfl _ _ 115 rfl .u32 w.heap.size 60 (.int .u32 0) 4 Tryz.underlying115 info32 rfl _ 0 [] rfl (World.ownsRow_nil _ _ _ _) a n cap rfl l hlay hn (by omega) (by omega) (by omega) ?_; intro v' w1 hown hbel)
  obtain ⟨a', cap', rfl, hc, hl, hlay', _⟩ := lay_of_owns (K := .u32) (zs := l) (by simpa using hown)
  go_ret
  exact ⟨a', cap', by simp, by omega, hlay', hbel⟩

end Go.Proofs.YtbffpkmfhkphdaaGreatDoor

namespace Go.Proofs.YtbffpkmfhkphdaaGreatDoor
open Go Go.RowKit Limb

/-- -1, 0 or 1. -/
def cmpI (x y : Nat) : Int := if x < y then -1 else if x = y then 0 else 1

theorem cmp_len_lt {xs ys : List Nat} (hx : Lim xs) (hy : Lim ys) (ny : Norm ys) (h : xs.length < ys.length) : cmpI (val xs) (val ys) = -1 := by
  have h1 := val_lt hx
  have h2 : W xs.length ≤ val ys := by rw [← rep_length_lt, rep_val hy ny]; exact h
  unfold cmpI; rw [if_pos (by omega)]
theorem cmp_len_gt {xs ys : List Nat} (hx : Lim xs) (hy : Lim ys) (nx : Norm xs) (h : ys.length < xs.length) : cmpI (val xs) (val ys) = 1 := by
  have h1 := val_lt hy
  have h2 : W ys.length ≤ val xs := by rw [← rep_length_lt, rep_val hx nx]; exact h
  unfold cmpI; rw [if_neg (by omega), if_neg (by omega)]
theorem cmp_at {xs ys : List Nat} (hx : Lim xs) (hy : Lim ys) (hl : xs.length = ys.length) {k : Nat} (hk : k < xs.length) (hd : xs.drop (k + 1) = ys.drop (k + 1)) :
    (wd xs k < wd ys k → cmpI (val xs) (val ys) = -1) ∧ (wd ys k < wd xs k → cmpI (val xs) (val ys) = 1) ∧ (wd xs k = wd ys k → xs.drop k = ys.drop k) := by
  have ex := val_take_drop xs (k + 1) (by omega)
  have ey := val_take_drop ys (k + 1) (by omega)
  rw [val_snoc_wd (by omega)] at ex ey
  have lx := val_lt (hx.take k)
  have ly := val_lt (hy.take k)
  rw [List.length_take, Nat.min_eq_left (by omega)] at lx ly
  rw [hd] at ex
  refine ⟨fun h => ?_, fun h => ?_, fun h => ?_⟩
  · have := Nat.mul_le_mul_left (W k) (show wd xs k + 1 ≤ wd ys k from h)
    rw [Nat.mul_add] at this
    unfold cmpI; rw [if_pos (by omega)]
  · have := Nat.mul_le_mul_left (W k) (show wd ys k + 1 ≤ wd xs k from h)
    rw [Nat.mul_add] at this
    unfold cmpI; rw [if_neg (by omega), if_neg (by omega)]
  · rw [List.drop_eq_getElem_cons hk, List.drop_eq_getElem_cons (by omega : k < ys.length), hd, ← wd_lt hk, ← wd_lt (by omega : k < ys.length), h]

set_option maxHeartbeats 800000 in
set_option maxRecDepth 100000 in
theorem big_compare (w : World) (a b : Option Addr) (xs ys : List Nat) (n m ca cb : Nat) (ha : Lay .u32 w a xs) (hb : Lay .u32 w b ys) (hx : Lim xs) (hy : Lim ys) (nx : Norm xs) (ny : Norm ys)
    (hn : n = xs.length) (hm : m = ys.length) (ln : n ≤ 9223372036854775807) (lm : m ≤ 9223372036854775807) :
    Calls Tryz.prog 182 #[.slice a n ca, .slice b m cb] w fun e w' => e = .returned (.int .i64 (cmpI (val xs) (val ys))) ∧ ∃ q, w' = w.drewN q := by
  rcases Nat.lt_trichotomy n m with h | h | h
  · rw [cmp_len_lt hx hy ny (by omega)]
    clear hn hm
    have hq : ((n : Int) != (m : Int)) = true := by rw [bne_iff_ne]; omega
    go_enter Tryz.func182, Tryz.ntmps182
    go_wp2
    go_ret
    exact ⟨rfl, 0, rfl⟩
  · obtain ⟨b1, off1, hix, hcx, _⟩ := ha.use 115 60 Tryz.underlying115 size32 ca
    obtain ⟨b2, off2, hiy, hcy, _⟩ := hb.use 115 60 Tryz.underlying115 size32 cb
    subst h
    rw [← hn] at hix hcx
    rw [← hm] at hiy hcy
    have Hn := Lib.hid hn; clear hn
    have Hm := Lib.hid hm; clear hm
    have HX := Lib.hid hix; clear hix
    have HY := Lib.hid hiy; clear hiy
    have HCX := Lib.hid hcx; clear hcx
    have HCY := Lib.hid hcy; clear hcy
    go_enter Tryz.func182, Tryz.ntmps182
    go_wp2
    go_loopw [5] (fun i wr => ∃ (k : Nat), k ≤ n ∧ i = .int .i64 ((k : Int) - 1) ∧ xs.drop k = ys.drop k ∧ ∃ q, wr = w.drewN q) (fun i _ => ((intOf i) + 1).toNat)
    case atStart => exact ⟨n, Nat.le_refl _, rfl, by rw [List.drop_of_length_le (by rw [Hn.out]; exact Nat.le_refl _), List.drop_of_length_le (by rw [Hm.out]; exact Nat.le_refl _)], 0, rfl⟩
    case round =>
      obtain ⟨k, hk, rfl, hd, q, rfl⟩ := hrel
      have Hd := Lib.hid hd; clear hd
      by_cases h0 : k = 0
      · have hv : Hid (xs = ys) := by have := Hd.out; rw [h0] at this; unfold Hid; simpa using this
        subst h0
        go_wp2
        go_ret
        exact ⟨by rw [hv.out]; simp [cmpI], q, rfl⟩
      · obtain ⟨j, rfl⟩ : ∃ j, k = j + 1 := ⟨k - 1, by omega⟩
        have hj : ((j + 1 : Nat) : Int) - 1 = (j : Int) := by omega
        rw [hj]
        clear hj h0
        have ix := fun q => HX.out (w.drewN q) .i64 j (by omega) (by omega)
        have iy := fun q => HY.out (w.drewN q) .i64 j (by omega) (by omega)
        simp only [Int.toNat_natCast] at ix iy
        have cx := HCX.out w (Below.refl _ _) j (by omega)
        have cy := HCY.out w (Below.refl _ _) j (by omega)
        have hat := cmp_at hx hy (by rw [← Hn.out, ← Hm.out]) (k := j) (by rw [← Hn.out]; omega) Hd.out
        have h1 := hx.wd j
        have h2 := hy.wd j
        have HA := Lib.hid hat; clear hat
        rcases Nat.lt_trichotomy (wd xs j) (wd ys j) with h | h | h
        · have hq : (((wd xs j : Nat) : Int) != ((wd ys j : Nat) : Int)) = true := by rw [bne_iff_ne]; omega
          have hv := Lib.hid (HA.out.1 h)
          go_wp2
          go_quiet (fail)
          go_wp2
          go_quiet (fail)
          go_wp2
          go_ret
          rw [hv.out]
          exact ⟨rfl, by first | exact ⟨_, rfl⟩ | (simp only [World.drewN_drewN]; exact ⟨_, rfl⟩)⟩
        · have hq : (((wd xs j : Nat) : Int) != ((wd ys j : Nat) : Int)) = false := by rw [bne_eq_false_iff_eq]; omega
          have hv := Lib.hid (HA.out.2.2 h)
          clear h
          go_wp2
          go_quiet (fail)
          go_wp2
          go_roundw
          case rel => exact ⟨j, by omega, rfl, hv.out, by first | exact ⟨_, rfl⟩ | (simp only [World.drewN_drewN]; exact ⟨_, rfl⟩)⟩
          case measure => first | (simp [intOf]; done) | (simp [intOf]; omega)
        · have hq : (((wd xs j : Nat) : Int) != ((wd ys j : Nat) : Int)) = true := by rw [bne_iff_ne]; omega
          have hv := Lib.hid (HA.out.2.1 h)
          go_wp2
          go_quiet (fail)
          go_wp2
          go_quiet (fail)
          go_wp2
          go_ret
          rw [hv.out]
          exact ⟨rfl, by first | exact ⟨_, rfl⟩ | (simp only [World.drewN_drewN]; exact ⟨_, rfl⟩)⟩
  · rw [cmp_len_gt hx hy nx (by omega)]
    clear hn hm
    have hq : ((n : Int) != (m : Int)) = true := by rw [bne_iff_ne]; omega
    go_enter Tryz.func182, Tryz.ntmps182
    go_wp2
    go_ret
    exact ⟨rfl, 0, rfl⟩

end Go.Proofs.YtbffpkmfhkphdaaGreatDoor

namespace Go.Proofs.YtbffpkmfhkphdaaGreatDoor
open Go Go.RowKit Limb

theorem left_low {a r z : Nat} (hr : r < 32) (hz : z < 2 ^ r) : z + a * 2 ^ r % 4294967296 < 4294967296 ∧ a * 2 ^ r % 4294967296 % 2 ^ r = 0 := by
  have e : 4294967296 = 2 ^ r * 2 ^ (32 - r) := by rw [← Nat.pow_add, show r + (32 - r) = 32 from by omega]
  have h1 : a * 2 ^ r % 4294967296 = 2 ^ r * (a % 2 ^ (32 - r)) := by rw [e, Nat.mul_comm a, Nat.mul_mod_mul_left]
  rw [h1]
  have h2 : a % 2 ^ (32 - r) < 2 ^ (32 - r) := Nat.mod_lt _ (Nat.pow_pos (by decide))
  have h3 := Nat.mul_le_mul_left (2 ^ r) (show a % 2 ^ (32 - r) + 1 ≤ 2 ^ (32 - r) from h2)
  rw [← e, Nat.mul_add] at h3
  exact ⟨by omega, Nat.mul_mod_right _ _⟩
theorem left_or {a r z : Nat} (hr : r < 32) (hz : z < 2 ^ r) : bits .or .u32 (z : Int) (((a * 2 ^ r : Nat) : Int) % 4294967296) = ((z + a * 2 ^ r % 4294967296 : Nat) : Int) := by
  have h := left_low (a := a) hr hz
  have e : ((a * 2 ^ r : Nat) : Int) % 4294967296 = ((a * 2 ^ r % 4294967296 : Nat) : Int) := by rw [Int.natCast_emod]; rfl
  rw [e, u32_or_nat _ _ (by omega) (by omega), Nat.or_comm, nat_join r _ _ h.2 hz, Nat.add_comm]
theorem left_t {a r : Nat} (ha : a < 4294967296) (hr : r < 32) : a * 2 ^ r / 4294967296 < 2 ^ r ∧ a * 2 ^ r < 9223372036854775808 ∧ 2 ^ r ≤ 2147483648 := by
  have h1 : 2 ^ r ≤ 2 ^ 31 := Nat.pow_le_pow_right (by decide) (by omega)
  have h2 : 0 < 2 ^ r := Nat.pow_pos (by decide)
  have h3 : a * 2 ^ r ≤ 4294967295 * 2 ^ r := Nat.mul_le_mul_right _ (by omega)
  have e : 2 ^ 31 = 2147483648 := rfl
  exact ⟨by omega, by omega, by omega⟩
theorem left_step {xs zs : List Nat} {d k r : Nat} (hz : d + k + 1 < zs.length) (h : val (zs.take (d + k + 1)) = val (xs.take k) * 2 ^ r * W d) :
    val (((zs.set (d + k) (wd zs (d + k) + wd xs k * 2 ^ r % 4294967296)).set (d + k + 1) (wd xs k * 2 ^ r / 4294967296)).take (d + (k + 1) + 1)) = val (xs.take (k + 1)) * 2 ^ r * W d := by
  rw [show d + (k + 1) + 1 = d + k + 1 + 1 from by omega, val_set_take _ (by rw [List.length_set]; omega), val_set_take _ (by omega), val_take_succ xs]
  rw [val_take_succ] at h
  have hd := Nat.div_add_mod (wd xs k * 2 ^ r) 4294967296
  generalize wd xs k * 2 ^ r / 4294967296 = q at *
  generalize wd xs k * 2 ^ r % 4294967296 = m at *
  have k2 := congrArg (fun t => W (d + k) * t) hd
  simp only [Nat.mul_add] at k2
  have e1 : W (d + k) * (4294967296 * q) = W (d + k + 1) * q := by rw [W_succ, ← Nat.mul_assoc, Nat.mul_comm (W _) 4294967296]
  have e2 : (val (xs.take k) + W k * wd xs k) * 2 ^ r * W d = val (xs.take k) * 2 ^ r * W d + W (d + k) * (wd xs k * 2 ^ r) := by
    rw [Nat.add_mul, Nat.add_mul, W_add]
    congr 1
    rw [Nat.mul_assoc (W k), Nat.mul_comm (W d), Nat.mul_right_comm]
  rw [Nat.mul_add]
  omega

set_option maxHeartbeats 800000 in
set_option maxRecDepth 100000 in
theorem big_left (w : World) (a : Option Addr) (xs : List Nat) (n ca s : Nat) (ha : Lay .u32 w a xs) (hx : Lim xs) (hn : n = xs.length)
    (ln : n ≤ 549755813888) (ls : s ≤ 4294967296) :
    Calls Tryz.prog 149 #[.slice a n ca, .int .u64 s] w fun e w' => NatResC w w' e (val xs * 2 ^ s) (s / 32 + n + 1) := by
  obtain ⟨b1, off1, hix, hcx, _⟩ := ha.use 115 60 Tryz.underlying115 size32 ca
  rw [← hn] at hix hcx
  by_cases h0 : n = 0
  · have hv : Hid (val xs * 2 ^ s = 0) := by
      unfold Hid
      rw [List.eq_nil_of_length_eq_zero (hn.symm.trans h0)]; simp [val]
    have hres : NatResC w w (.returned (.slice none 0 0)) (val xs * 2 ^ s) (s / 32 + 0 + 1) := by rw [hv.out]; exact ⟨none, 0, rfl, by simp [rep_zero], Nat.zero_le _, Lay.nil _ _ _, Below.refl _ _⟩
    clear hix hcx hn
    subst h0
    go_enter Tryz.func149, Tryz.ntmps149
    go_wp2
    go_ret
    exact hres
  · have p1 : 0 < n := by omega
    have q1 : ((n : Int) == 0) = false := by rw [beq_eq_false_iff_ne]; omega
    have Hn := Lib.hid hn; clear hn
    have HX := Lib.hid hix; clear hix
    have HCX := Lib.hid hcx; clear hcx
    clear h0
    obtain ⟨d, hd⟩ : ∃ d, d = s / 32 := ⟨_, rfl⟩
    obtain ⟨r, hr⟩ : ∃ r, r = s % 32 := ⟨_, rfl⟩
    have e1 : (s : Int) / 32 = d := by omega
    have e2 : (s : Int) % 32 = r := by omega
    have d_le : d ≤ 134217728 := by omega
    have r_lt : r < 32 := by omega
    have Hd := Lib.hid hd; clear hd
    have Hr := Lib.hid hr; clear hr
    go_enter Tryz.func149, Tryz.ntmps149
    go_wp2_with (at_make; refine wpList_make_row rfl _ _ _ rfl 60 (.int .u32 0) 4 Tryz.underlying115 info32 rfl _ _ _ _ (d + n + 1) (d + n + 1) rfl rfl (by simp) (by simp) (by omega) (by omega) (by omega) ?_; intro w1 g hg1 hg2 hrow hbel)
    go_loopw [27] (fun i wr => ∃ (k : Nat) (zs : List Nat), k ≤ n ∧ i = .int .i64 k ∧ zs.length = d + n + 1 ∧ Lim zs ∧ Row wr g 60 (nums .u32 zs) ∧
        val (zs.take (d + k + 1)) = val (xs.take k) * 2 ^ r * W d ∧ wd zs (d + k) < 2 ^ r ∧ Below w.heap.size w wr) (fun i _ => n - (intOf i).toNat)
    case atStart => exact ⟨0, List.replicate (d + n + 1) 0, by omega, rfl, by simp, Lim.replicate _ (by decide), by rw [nums_replicate]; exact hrow, by simp [val, List.take_replicate, val_replicate], by rw [wd_replicate]; exact Nat.pow_pos (by decide), hbel⟩
    case round =>
      obtain ⟨k, zs, hk, rfl, hzl, hzlim, hrw, hv, hz, hbl⟩ := hrel
      have h1 := hx.wd k
      have h2 := hzlim.wd (d + k)
      have Hzl := Lib.hid hzl; clear hzl
      have Hv := Lib.hid hv; clear hv
      have Hz := Lib.hid hz; clear hz
      by_cases hlt : k < n
      · have ix := HX.out wr .i64 k (by omega) (by omega)
        rw [Int.toNat_natCast] at ix
        have cx := HCX.out wr hbl k hlt
        have hcell := hrw.cell (i := d + k) (by rw [Hzl.out]; omega)
        have hfk := hrw.free (d + k)
        have hcell2 := hrw.cell (i := d + k + 1) (by rw [Hzl.out]; omega)
        have hfk2 := hrw.free (d + k + 1)
        have et : ((wd xs k : Nat) : Int) * 2 ^ r = ((wd xs k * 2 ^ r : Nat) : Int) := by rw [Int.natCast_mul, Int.natCast_pow]; rfl
        have eo := left_or (a := wd xs k) r_lt Hz.out
        have ht := left_t h1 r_lt
        have hll := left_low (a := wd xs k) r_lt Hz.out
        obtain ⟨t, hte⟩ : ∃ t, t = wd xs k * 2 ^ r := ⟨_, rfl⟩
        have hcl := left_step (xs := xs) (by rw [Hzl.out]; omega) Hv.out
        rw [← hte] at et eo ht hll hcl
        have HT := Lib.hid hte; clear hte
        obtain ⟨ht1, ht2, ht3⟩ := ht
        obtain ⟨hll1, _⟩ := hll
        have HC := Lib.hid hcl; clear hcl
        go_wp2
        go_roundw
        case rel => exact ⟨k + 1, (zs.set (d + k) (wd zs (d + k) + t % 4294967296)).set (d + k + 1) (t / 4294967296), by omega, by go_num, by rw [List.length_set, List.length_set, Hzl.out],
          (hzlim.set hll1).set (by omega), (hrw.store _ _ _ (by first | rfl | omega)).store _ _ _ (by omega), HC.out, by rw [← Nat.add_assoc, wd_set (by rw [List.length_set, Hzl.out]; omega), if_pos rfl]; exact ht1, below_store (below_store hbl hg1 _) hg1 _⟩
        case measure => simp [intOf]; omega
      · obtain rfl : k = n := by omega
        have hl2 := hrw.lay
        have hle2 := rep_val_le hzlim
        have hval : Hid (val zs = val xs * 2 ^ s) := by
          have h := Hv.out
          rw [List.take_of_length_le (by rw [Hzl.out]; omega), List.take_of_length_le (by rw [Hn.out]; omega), W_two, Nat.mul_assoc, ← Nat.pow_add] at h
          have hs : s = r + 32 * d := by rw [Hr.out, Hd.out]; omega
          unfold Hid; rw [h, hs]
        go_wp2_with (go_at_call 236; refine (big_norm _ _ zs _ _ (by assumption) (by assumption) (by rw [Hzl.out]) (by omega) (by omega)).mono ?_; rintro e w' ⟨rfl, rfl⟩)
        go_ret
        rw [Hzl.out] at hle2
        rw [← hval.out]
        exact ⟨_, _, rfl, hle2, by rw [← Hd.out]; exact Nat.le_refl _, hl2.norm hzlim, hbl⟩

end Go.Proofs.YtbffpkmfhkphdaaGreatDoor

namespace Go.Proofs.YtbffpkmfhkphdaaGreatDoor
open Go Go.RowKit Limb

set_option maxRecDepth 100000 in
theorem big_length (w : World) (a : Option Addr) (l : List Nat) (n cap : Nat) (hlay : Lay .u32 w a l) (hlim : Lim l) (hnorm : Norm l) (hn : n = l.length) (hm : n ≤ 1099511627776) :
    Calls Tryz.prog 158 #[.slice a n cap] w fun e w' => e = .returned (.int .i64 (bitsN (val l) : Nat)) ∧ w = w' := by
  obtain ⟨b, off, hix, hcell, hb⟩ := hlay.use 115 60 Tryz.underlying115 size32 cap
  rw [← hn] at hix hcell
  by_cases h : n = 0
  · have hv : bitsN (val l) = 0 := by rw [List.eq_nil_of_length_eq_zero (hn.symm.trans h)]; rfl
    have HV := Lib.hid hv; clear hv
    clear hix hcell hn
    subst h
    go_enter Tryz.func158, Tryz.ntmps158
    go_wp2
    go_ret
    rw [HV.out]
    exact ⟨rfl, rfl⟩
  · obtain ⟨k, rfl⟩ : ∃ k, n = k + 1 := ⟨n - 1, by omega⟩
    have hx := hix w .i64 k (by omega) (by omega)
    have hc := hcell w (Below.refl _ _) k (by omega)
    have hw := hlim.wd k
    rw [Int.toNat_natCast] at hx
    have hne := norm_last hnorm hn.symm
    have hv := Lib.hid (bitsN_val hlim hn.symm hne)
    obtain ⟨_, _, hb32, _⟩ := bitLen32 hw
    clear hix hcell hn hne h
    have e1 : (((k + 1 : Nat) : Int) == 0) = false := by rw [beq_eq_false_iff_ne]; omega
    go_enter Tryz.func158, Tryz.ntmps158
    go_wp2_with (go_at_call 240; refine (Tryz.bits_Len32 _ _ (by omega) (by omega)).mono ?_; rw [Int.toNat_natCast]; rintro e w' ⟨rfl, hw'⟩; subst hw')
    go_ret
    rw [hv.out]
    exact ⟨congrArg (fun x => Ending.returned (.int .i64 x)) (by omega), rfl⟩

theorem short_step {xs qs : List Nat} {k d r : Nat} (hd : 0 < d) (hxl : k + 1 ≤ xs.length) (hql : qs.length = xs.length)
    (h : val (xs.drop (k + 1)) = d * val (qs.drop (k + 1)) + r) :
    val (xs.drop k) = d * val ((qs.set k ((r * 4294967296 + wd xs k) / d)).drop k) + (r * 4294967296 + wd xs k) % d := by
  have e1 : (qs.set k ((r * 4294967296 + wd xs k) / d)).drop k = (r * 4294967296 + wd xs k) / d :: qs.drop (k + 1) := by
    rw [List.drop_eq_getElem_cons (by rw [List.length_set]; omega), List.getElem_set_self, List.drop_set_of_lt (by omega)]
  rw [e1, List.drop_eq_getElem_cons (by omega : k < xs.length), ← wd_lt (by omega), val, val, h]
  have h2 := Nat.div_add_mod (r * 4294967296 + wd xs k) d
  generalize (r * 4294967296 + wd xs k) / d = q at *
  generalize (r * 4294967296 + wd xs k) % d = m at *
  rw [Nat.mul_add, Nat.mul_left_comm, Nat.mul_add]; omega

set_option maxHeartbeats 800000 in
set_option maxRecDepth 100000 in
theorem big_short_row (w : World) (a : Option Addr) (xs : List Nat) (n ca d : Nat) (ha : Lay .u32 w a xs) (hx : Lim xs) (hn : n = xs.length)
    (ln : n ≤ 1099511627776) (hd0 : 0 < d) (hd : d < 4294967296) :
    Calls Tryz.prog 241 #[.slice a n ca, .int .u32 d] w fun e w' =>
      ∃ a' cap', e = .returned (.tuple #[.slice a' (rep (val xs / d)).length cap', .int .u32 (val xs % d : Nat)]) ∧ (rep (val xs / d)).length ≤ cap' ∧ cap' ≤ 4398046511104 ∧ Lay .u32 w' a' (rep (val xs / d)) ∧ Below w.heap.size w w' ∧ ∃ g cs, a' = some ⟨g, 0, none⟩ ∧ Row w' g 60 cs := by
  obtain ⟨b1, off1, hix, hcx, _⟩ := ha.use 115 60 Tryz.underlying115 size32 ca
  rw [← hn] at hix hcx
  have Hn := Lib.hid hn; clear hn
  have HX := Lib.hid hix; clear hix
  have HCX := Lib.hid hcx; clear hcx
  go_enter Tryz.func241, Tryz.ntmps241
  go_wp2_with (at_make; refine wpList_make_row rfl _ _ _ rfl 60 (.int .u32 0) 4 Tryz.underlying115 info32 rfl _ _ _ _ n n rfl rfl rfl rfl (by omega) (by omega) (by omega) ?_; intro w1 g hg1 hg2 hrow hbel)
  go_loopw [7, 8] (fun r i wr => ∃ (k rr : Nat) (qs : List Nat), k ≤ n ∧ i = .int .i64 ((k : Int) - 1) ∧ r = .int .u64 rr ∧ rr < d ∧ qs.length = n ∧ Lim qs ∧ Row wr g 60 (nums .u32 qs) ∧
      val (xs.drop k) = d * val (qs.drop k) + rr ∧ Below w.heap.size w wr) (fun _ i _ => (intOf i + 1).toNat)
  case atStart => exact ⟨n, 0, List.replicate n 0, by omega, rfl, rfl, hd0, by simp, Lim.replicate _ (by decide), by rw [nums_replicate]; exact hrow, by rw [List.drop_of_length_le (by rw [Hn.out]; exact Nat.le_refl _), List.drop_of_length_le (by simp)]; rfl, hbel⟩
  case round =>
    obtain ⟨k, r, qs, hk, rfl, rfl, hr, hql, hqlim, hrw, hv, hbl⟩ := hrel
    have Hql := Lib.hid hql; clear hql
    have Hv := Lib.hid hv; clear hv
    by_cases h0 : k = 0
    · subst h0
      have hl2 := hrw.lay
      have hle2 := rep_val_le hqlim
      have h3 := Hv.out
      simp only [List.drop_zero] at h3
      have hq := Lib.hid (show val qs = val xs / d by rw [h3, Nat.mul_add_div hd0, Nat.div_eq_of_lt hr, Nat.add_zero])
      have hm := Lib.hid (show r = val xs % d by rw [h3, Nat.mul_add_mod, Nat.mod_eq_of_lt hr])
      clear h3
      go_wp2_with (go_at_call 236; refine (big_norm _ _ qs _ _ (by assumption) (by assumption) (by rw [Hql.out]) (by omega) (by omega)).mono ?_; rintro e w' ⟨rfl, rfl⟩)
      go_ret2
      rw [Hql.out] at hle2
      rw [← hq.out, ← hm.out]
      exact ⟨_, _, rfl, hle2, by omega, hl2.norm hqlim, hbl, _, _, rfl, hrw⟩
    · obtain ⟨j, rfl⟩ : ∃ j, k = j + 1 := ⟨k - 1, by omega⟩
      have hj : ((j + 1 : Nat) : Int) - 1 = (j : Int) := by omega
      rw [hj]
      clear hj h0
      have ix := HX.out wr .i64 j (by omega) (by omega)
      rw [Int.toNat_natCast] at ix
      have cx := HCX.out wr hbl j (by omega)
      have hcell := hrw.cell (i := j) (by rw [Hql.out]; omega)
      have hfk := hrw.free j
      have h1 := hx.wd j
      have eo := or_hi_lo (wd xs j) r h1 (by omega)
      have hst := Lib.hid (short_step hd0 (by rw [← Hn.out]; omega) (by rw [Hql.out, Hn.out]) Hv.out)
      obtain ⟨t, ht⟩ : ∃ t, t = r * 4294967296 + wd xs j := ⟨_, rfl⟩
      have et : (r : Int) * 4294967296 + (wd xs j : Nat) = t := by omega
      have htlt : t / d < 4294967296 := by rw [Nat.div_lt_iff_lt_mul hd0]; have := Nat.mul_le_mul_right 4294967296 (show r + 1 ≤ d from hr); omega
      have htm : t % d < d := Nat.mod_lt _ hd0
      have ht64 : t < 18446744073709551616 := by omega
      rw [et] at eo
      rw [← ht] at hst
      have HT := Lib.hid ht; clear ht
      have q0 : (0 : Int) ≤ (t : Int) / (d : Int) := Int.ediv_nonneg (by omega) (by omega)
      have q1 : (t : Int) / (d : Int) < 4294967296 := by rw [← Int.natCast_ediv]; omega
      have q2 : (0 : Int) ≤ (t : Int) % (d : Int) := Int.emod_nonneg _ (by omega)
      have q3 : (t : Int) % (d : Int) < (d : Int) := by rw [← Int.natCast_emod]; omega
      have hdz : d ≠ 0 := by omega
      clear et
      go_wp2
      go_roundw
      case rel => exact ⟨j, t % d, qs.set j (t / d), by omega, by go_num, by rw [Int.natCast_emod], htm, by rw [List.length_set, Hql.out], hqlim.set htlt, hrw.store _ _ _ (by rw [Int.natCast_ediv]), hst.out, below_store hbl hg1 _⟩
      case measure => first | (simp [intOf]; done) | (simp [intOf]; omega)

theorem big_short (w : World) (a : Option Addr) (xs : List Nat) (n ca d : Nat) (ha : Lay .u32 w a xs) (hx : Lim xs) (hn : n = xs.length)
    (ln : n ≤ 1099511627776) (hd0 : 0 < d) (hd : d < 4294967296) :
    Calls Tryz.prog 241 #[.slice a n ca, .int .u32 d] w fun e w' =>
      ∃ a' cap', e = .returned (.tuple #[.slice a' (rep (val xs / d)).length cap', .int .u32 (val xs % d : Nat)]) ∧ (rep (val xs / d)).length ≤ cap' ∧ cap' ≤ 4398046511104 ∧ Lay .u32 w' a' (rep (val xs / d)) ∧ Below w.heap.size w w' :=
  (big_short_row w a xs n ca d ha hx hn ln hd0 hd).mono fun _ _ ⟨a', c', h1, h2, h3, h4, h5, _⟩ => ⟨a', c', h1, h2, h3, h4, h5⟩

end Go.Proofs.YtbffpkmfhkphdaaGreatDoor
