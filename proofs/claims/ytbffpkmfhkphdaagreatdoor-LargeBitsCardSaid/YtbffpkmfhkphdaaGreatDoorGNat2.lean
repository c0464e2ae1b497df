/- The walk of big.less: a difference. The walks of big.word, big.low, big.clone. The walk of big.compare. The walk of big.times: a product. -/
import Derived.Test.YtbffpkmfhkphdaaGreatDoorGNat
namespace Go.Proofs.YtbffpkmfhkphdaaGreatDoor
open Go Go.RowKit Limb

/-- One word of a difference. -/
theorem less_step {xs ys zs : List Nat} {k c : Nat} (hz : k < zs.length) (hc : c ≤ 1) (hx : wd xs k < 4294967296) (hy : wd ys k < 4294967296)
    (h : val (zs.take k) + val (ys.take k) = val (xs.take k) + c * W k) :
    val ((zs.set k ((wd xs k + 4294967296 - wd ys k - c) % 4294967296)).take (k + 1)) + val (ys.take (k + 1)) = val (xs.take (k + 1)) + (if wd xs k < wd ys k + c then 1 else 0) * W (k + 1) := by
  rw [val_set_take _ hz, val_take_succ xs, val_take_succ ys, W_succ]
  have key : (wd xs k + 4294967296 - wd ys k - c) % 4294967296 + wd ys k + c = wd xs k + (if wd xs k < wd ys k + c then 1 else 0) * 4294967296 := by
    split <;> omega
  have k2 := congrArg (fun t => W k * t) key
  simp only [Nat.mul_add] at k2
  have e1 : W k * ((if wd xs k < wd ys k + c then 1 else 0) * 4294967296) = (if wd xs k < wd ys k + c then 1 else 0) * (4294967296 * W k) := by
    rw [Nat.mul_comm, Nat.mul_assoc]
  rw [e1] at k2
  have e2 : W k * c = c * W k := Nat.mul_comm _ _
  omega

theorem sub_borrow (x y c : Nat) (hx : x < 4294967296) (hy : y < 4294967296) (hc : c ≤ 1) :
    IntKind.u64.wrap (IntKind.u64.wrap ((x : Int) - (y : Int)) - (c : Int)) / 9223372036854775808 = ((if x < y + c then 1 else 0 : Nat) : Int) := by
  rw [IntKind.wrap_u64, IntKind.wrap_u64]; split <;> omega
theorem sub_low (x y c : Nat) (hx : x < 4294967296) (hy : y < 4294967296) (hc : c ≤ 1) :
    IntKind.u64.wrap (IntKind.u64.wrap ((x : Int) - (y : Int)) - (c : Int)) % 4294967296 = (((x + 4294967296 - y - c) % 4294967296 : Nat) : Int) := by
  rw [IntKind.wrap_u64, IntKind.wrap_u64]; omega
theorem less_end {xs ys zs : List Nat} {n c : Nat} (hz : Lim zs) (hzl : zs.length = n) (hxn : xs.length = n) (hyn : ys.length ≤ n) (hle : val ys ≤ val xs)
    (h : val (zs.take n) + val (ys.take n) = val (xs.take n) + c * W n) : val zs = val xs - val ys := by
  rw [List.take_of_length_le (by omega), List.take_of_length_le (by omega), List.take_of_length_le (by omega)] at h
  have := val_lt hz
  rw [hzl] at this
  cases c with
  | zero => omega
  | succ c => rw [Nat.add_mul] at h; omega

set_option maxHeartbeats 800000 in
set_option maxRecDepth 100000 in
theorem big_less (w : World) (a b : Option Addr) (xs ys : List Nat) (n m ca cb : Nat) (ha : Lay .u32 w a xs) (hb : Lay .u32 w b ys) (hx : Lim xs) (hy : Lim ys) (hn : n = xs.length) (hm : m = ys.length)
    (ln : n ≤ 1099511627776) (hle : val ys ≤ val xs) (hmn : m ≤ n) :
    Calls Tryz.prog 167 #[.slice a n ca, .slice b m cb] w fun e w' => NatRes w w' e (val xs - val ys) := by
  obtain ⟨b1, off1, hix, hcx, _⟩ := ha.use 115 60 Tryz.underlying115 size32 ca
  rw [← hn] at hix hcx
  have Hn := Lib.hid hn; clear hn
  have Hm := Lib.hid hm; clear hm
  have HX := Lib.hid hix; clear hix
  have HCX := Lib.hid hcx; clear hcx
  go_enter Tryz.func167, Tryz.ntmps167
  go_wp2_with (at_make; refine wpList_make_row rfl _ _ _ rfl 60 (.int .u32 0) 4 Tryz.underlying115 info32 rfl _ _ _ _ n n rfl rfl rfl rfl (by omega) (by omega) (by omega) ?_; intro w1 g hg1 hg2 hrow hbel)
  go_loopw [6, 14] (fun c i wr => ∃ (k cc : Nat) (zs : List Nat), k ≤ n ∧ i = .int .i64 k ∧ c = .int .u64 cc ∧ cc ≤ 1 ∧ zs.length = n ∧ Lim zs ∧ Row wr g 60 (nums .u32 zs) ∧
      val (zs.take k) + val (ys.take k) = val (xs.take k) + cc * W k ∧ Below w.heap.size w wr) (fun _ i _ => n - (intOf i).toNat)
  case atStart => exact ⟨0, 0, List.replicate n 0, by omega, rfl, rfl, by omega, by simp, Lim.replicate _ (by decide), by rw [nums_replicate]; exact hrow, by simp [val], hbel⟩
  case round =>
    obtain ⟨k, cc, zs, hk, rfl, rfl, hc1, hzl, hzlim, hr, hv, hbl⟩ := hrel
    have h1 := hx.wd k
    have h2 := hy.wd k
    have Hzl := Lib.hid hzl; clear hzl
    have Hv := Lib.hid hv; clear hv
    by_cases hlt : k < n
    · have hcell := hr.cell (i := k) (by rw [Hzl.out]; omega)
      have hfk := hr.free k
      have ix := fun q => HX.out (wr.drewN q) .i64 k (by omega) (by omega)
      simp only [Int.toNat_natCast] at ix
      have cx : wr.cell? ⟨b1, off1 + k, none⟩ = some (.int .u32 (wd xs k : Nat)) := HCX.out wr hbl k hlt
      have hyb := hb.below hbl
      go_wp2
      go_quiet ((go_at_call 237; exact Calls.quiet_of_same ((big_digit _ _ _ _ _ _ (hyb.drewN _) hy Hm.out (by omega) (by omega)).mono (fun e w' h => ⟨h.1, h.2.symm⟩))))
      go_wp2
      go_roundw
      case rel => exact ⟨k + 1, if wd xs k < wd ys k + cc then 1 else 0, zs.set k ((wd xs k + 4294967296 - wd ys k - cc) % 4294967296), by omega, by go_num, by rw [sub_borrow _ _ _ h1 h2 hc1], by split <;> omega, by rw [List.length_set, Hzl.out],
        hzlim.set (by omega), (hr.drewN _).store _ _ _ (sub_low _ _ _ h1 h2 hc1), less_step (by rw [Hzl.out]; exact hlt) hc1 h1 h2 Hv.out, below_store (below_drewN hbl _) hg1 _⟩
      case measure => simp [intOf]; omega
    · obtain rfl : k = n := by omega
      have hl2 := hr.lay
      have hle2 := rep_val_le hzlim
      have hval := Lib.hid (less_end hzlim Hzl.out (by rw [Hn.out]) (by rw [← Hm.out]; exact hmn) hle Hv.out)
      clear h1 h2
      go_wp2_with (go_at_call 236; refine (big_norm _ _ zs _ _ (by assumption) (by assumption) (by rw [Hzl.out]) (by omega) (by omega)).mono ?_; rintro e w' ⟨rfl, rfl⟩)
      go_ret
      rw [Hzl.out] at hle2
      rw [← hval.out]
      exact ⟨_, _, rfl, hle2, by omega, hl2.norm hzlim, hbl⟩

end Go.Proofs.YtbffpkmfhkphdaaGreatDoor

namespace Go.Proofs.YtbffpkmfhkphdaaGreatDoor
open Go Go.RowKit Limb

theorem lay_two (w : World) (x y : Int) (p q : Nat) (e : TypeId) (hx : x = p) (hy : y = q) : Lay .u32 (w.alloc (.cells #[.int .u32 x, .int .u32 y] e)) (some ⟨w.heap.size, 0, none⟩) [p, q] := by
  refine ⟨w.heap.size, 0, fun _ => ⟨rfl, by rw [World.size_alloc]; omega⟩, fun i hi => ?_⟩
  rw [World.cell?_alloc_at _ _ _ _ rfl]
  subst hx hy
  match i, hi with
  | 0, _ => rfl
  | 1, _ => rfl

set_option maxRecDepth 100000 in
theorem big_word (w : World) (n : Nat) (hn : n < 18446744073709551616) :
    Calls Tryz.prog 238 #[.int .u64 n] w fun e w' => NatRes w w' e n := by
  have hlim : Lim [n % 4294967296, n / 4294967296] := Lim.cons (by omega) (Lim.cons (by omega) Lim.nil)
  have hval : val [n % 4294967296, n / 4294967296] = n := by simp only [val]; omega
  have H := Lib.hid hval; clear hval
  go_enter Tryz.func238, Tryz.ntmps238
  go_wp2_with (go_at_call 236; refine (big_norm _ _ [n % 4294967296, n / 4294967296] _ _ (lay_two _ _ _ _ _ _ (by simp) (by simp)) hlim (by simp) (by simp) (by simp)).mono ?_; rintro e w' ⟨rfl, rfl⟩)
  go_ret
  rw [H.out]
  refine ⟨_, _, rfl, ?_, by decide, ?_, (Below.refl _ _).alloc (Nat.le_refl _) _⟩
  · have := rep_val_le hlim; rw [H.out] at this; simpa using this
  · have := (lay_two w (n % 4294967296 : Nat) (n / 4294967296 : Nat) _ _ 60 rfl rfl).norm hlim
    rw [H.out] at this; simpa using this

set_option maxRecDepth 100000 in
theorem big_low (w : World) (a : Option Addr) (l : List Nat) (n cap : Nat) (hlay : Lay .u32 w a l) (hlim : Lim l) (hn : n = l.length) (hm : n ≤ 9223372036854775807) :
    Calls Tryz.prog 161 #[.slice a n cap] w fun e w' => e = .returned (.int .u64 (val l % 18446744073709551616 : Nat)) ∧ w = w' := by
  obtain ⟨b, off, hix, hcell, hb⟩ := hlay.use 115 60 Tryz.underlying115 size32 cap
  have h0 := hlim.wd 0
  have h1 := hlim.wd 1
  rw [← hn] at hix hcell
  have e : val l % 18446744073709551616 = wd l 0 + wd l 1 * 4294967296 := by
    have := val_take hlim 2
    rw [show W 2 = 18446744073709551616 from rfl] at this
    rw [← this, val_take_succ, val_take_succ]; simp [val, W_zero, W_one, Nat.mul_comm]
  rw [e]
  by_cases c1 : n = 0
  · have z0 := wd_ge (l := l) (i := 0) (by omega)
    have z1 := wd_ge (l := l) (i := 1) (by omega)
    rw [z0, z1]
    clear hix hcell z0 z1 e h0 h1 hn hb
    subst c1
    go_enter Tryz.func161, Tryz.ntmps161
    go_wp2
    go_ret
    exact ⟨rfl, rfl⟩
  · have x0 := hix w .i64 0 (by omega) (by omega)
    have y0 := hcell w (Below.refl _ _) 0 (by omega)
    by_cases c2 : n = 1
    · have z1 := wd_ge (l := l) (i := 1) (by omega)
      rw [z1]
      clear hix hcell z1 e h1 hn hb c1
      subst c2
      simp only [Nat.zero_mul, Nat.add_zero, Int.toNat_zero] at *
      go_enter Tryz.func161, Tryz.ntmps161
      go_wp2
      go_ret
      exact ⟨rfl, rfl⟩
    · have x1 := hix w .i64 1 (by omega) (by omega)
      have y1 := hcell w (Below.refl _ _) 1 (by omega)
      have ho := or_lo_hi (wd l 0) (wd l 1) h0 h1
      clear hix hcell e hn hb
      simp only [Nat.add_zero, Int.toNat_zero, Int.toNat_one] at x0 x1 y0
      have g0 : 0 < n := by omega
      have g1 : (1 : Int) < n := by omega
      clear c1 c2
      go_enter Tryz.func161, Tryz.ntmps161
      go_wp2
      go_ret
      exact ⟨congrArg (fun x => Ending.returned (.int .u64 x)) (by omega), rfl⟩

set_option maxRecDepth 100000 in
theorem big_clone (w : World) (a : Option Addr) (l : List Nat) (n cap : Nat) (hlay : Lay .u32 w a l) (hn : n = l.length) (hm : n ≤ 1099511627776) :
    Calls Tryz.prog 155 #[.slice a n cap] w fun e w' => ∃ a' cap', e = .returned (.slice a' n cap') ∧ n ≤ cap' ∧ Lay .u32 w' a' l ∧ Below w.heap.size w w' := by
  go_enter Tryz.func155, Tryz.ntmps155
  go_wp2_with (at_builtin; refine wpList_append_lay rfl _ _ 115 rfl .u32 w.heap.size 60 (.int .u32 0) 4 Tryz.underlying115 info32 rfl _ 0 [] rfl (World.ownsRow_nil _ _ _ _) a n cap rfl l hlay hn (by omega) (by omega) (by omega) ?_; intro v' w1 hown hbel)
  obtain ⟨a', cap', rfl, hc, hl, hlay', _⟩ := lay_of_owns (K := .u32) (zs := l) (by simpa using hown)
  go_ret
  exact ⟨a', cap', by simp, by omega, hlay', hbel⟩

end Go.Proofs.YtbffpkmfhkphdaaGreatDoor

namespace Go.Proofs.YtbffpkmfhkphdaaGreatDoor
open Go Go.RowKit Limb

/-- -1, 0 or 1. -/
def cmpI (x y : Nat) : Int := if x < y then -1 else if x = y then 0 else 1

theorem cmp_len_lt {xs ys : List Nat} (hx : Lim xs) (hy : Lim ys) (ny : Norm ys) (h : xs.length < ys.length) : cmpI (val xs) (val ys) = -1 := by
  have h1 := val_lt hx
  have h2 : W xs.length ≤ val ys := by rw [← rep_length_lt, rep_val hy ny]; exact h
  unfold cmpI; rw [if_pos (by omega)]
theorem cmp_len_gt {xs ys : List Nat} (hx : Lim xs) (hy : Lim ys) (nx : Norm xs) (h : ys.length < xs.length) : cmpI (val xs) (val ys) = 1 := by
  have h1 := val_lt hy
  have h2 : W ys.length ≤ val xs := by rw [← rep_length_lt, rep_val hx nx]; exact h
  unfold cmpI; rw [if_neg (by omega), if_neg (by omega)]
theorem cmp_at {xs ys : List Nat} (hx : Lim xs) (hy : Lim ys) (hl : xs.length = ys.length) {k : Nat} (hk : k < xs.length) (hd : xs.drop (k + 1) = ys.drop (k + 1)) :
    (wd xs k < wd ys k → cmpI (val xs) (val ys) = -1) ∧ (wd ys k < wd xs k → cmpI (val xs) (val ys) = 1) ∧ (wd xs k = wd ys k → xs.drop k = ys.drop k) := by
  have ex := val_take_drop xs (k + 1) (by omega)
  have ey := val_take_drop ys (k + 1) (by omega)
  rw [val_snoc_wd (by omega)] at ex ey
  have lx := val_lt (hx.take k)
  have ly := val_lt (hy.take k)
  rw [List.length_take, Nat.min_eq_left (by omega)] at lx ly
  rw [hd] at ex
  refine ⟨fun h => ?_, fun h => ?_, fun h => ?_⟩
  · have := Nat.mul_le_mul_left (W k) (show wd xs k + 1 ≤ wd ys k from h)
    rw [Nat.mul_add] at this
    unfold cmpI; rw [if_pos (by omega)]
  · have := Nat.mul_le_mul_left (W k) (show wd ys k + 1 ≤ wd xs k from h)
    rw [Nat.mul_add] at this
    unfold cmpI; rw [if_neg (by omega), if_neg (by omega)]
  · rw [List.drop_eq_getElem_cons hk, List.drop_eq_getElem_cons (by omega : k < ys.length), hd, ← wd_lt hk, ← wd_lt (by omega : k < ys.length), h]

set_option maxHeartbeats 800000 in
set_option maxRecDepth 100000 in
theorem big_compare (w : World) (a b : Option Addr) (xs ys : List Nat) (n m ca cb : Nat) (ha : Lay .u32 w a xs) (hb : Lay .u32 w b ys) (hx : Lim xs) (hy : Lim ys) (nx : Norm xs) (ny : Norm ys)
    (hn : n = xs.length) (hm : m = ys.length) (ln : n ≤ 9223372036854775807) (lm : m ≤ 9223372036854775807) :
    Calls Tryz.prog 182 #[.slice a n ca, .slice b m cb] w fun e w' => e = .returned (.int .i64 (cmpI (val xs) (val ys))) ∧ ∃ q, w' = w.drewN q := by
  rcases Nat.lt_trichotomy n m with h | h | h
  · rw [cmp_len_lt hx hy ny (by omega)]
    clear hn hm
    have hq : ((n : Int) != (m : Int)) = true := by rw [bne_iff_ne]; omega
    go_enter Tryz.func182, Tryz.ntmps182
    go_wp2
    go_ret
    exact ⟨rfl, 0, rfl⟩
  · obtain ⟨b1, off1, hix, hcx, _⟩ := ha.use 115 60 Tryz.underlying115 size32 ca
    obtain ⟨b2, off2, hiy, hcy, _⟩ := hb.use 115 60 Tryz.underlying115 size32 cb
    subst h
    rw [← hn] at hix hcx
    rw [← hm] at hiy hcy
    have Hn := Lib.hid hn; clear hn
    have Hm := Lib.hid hm; clear hm
    have HX := Lib.hid hix; clear hix
    have HY := Lib.hid hiy; clear hiy
    have HCX := Lib.hid hcx; clear hcx
    have HCY := Lib.hid hcy; clear hcy
    go_enter Tryz.func182, Tryz.ntmps182
    go_wp2
    go_loopw [5] (fun i wr => ∃ (k : Nat), k ≤ n ∧ i = .int .i64 ((k : Int) - 1) ∧ xs.drop k = ys.drop k ∧ ∃ q, wr = w.drewN q) (fun i _ => ((intOf i) + 1).toNat)
    case atStart => exact ⟨n, Nat.le_refl _, rfl, by rw [List.drop_of_length_le (by rw [Hn.out]; exact Nat.le_refl _), List.drop_of_length_le (by rw [Hm.out]; exact Nat.le_refl _)], 0, rfl⟩
    case round =>
      obtain ⟨k, hk, rfl, hd, q, rfl⟩ := hrel
      have Hd := Lib.hid hd; clear hd
      by_cases h0 : k = 0
      · have hv : Hid (xs = ys) := by have := Hd.out; rw [h0] at this; unfold Hid; simpa using this
        subst h0
        go_wp2
        go_ret
        exact ⟨by rw [hv.out]; simp [cmpI], q, rfl⟩
      · obtain ⟨j, rfl⟩ : ∃ j, k = j + 1 := ⟨k - 1, by omega⟩
        have hj : ((j + 1 : Nat) : Int) - 1 = (j : Int) := by omega
        rw [hj]
        clear hj h0
        have ix := fun q => HX.out (w.drewN q) .i64 j (by omega) (by omega)
        have iy := fun q => HY.out (w.drewN q) .i64 j (by omega) (by omega)
        simp only [Int.toNat_natCast] at ix iy
        have cx := HCX.out w (Below.refl _ _) j (by omega)
        have cy := HCY.out w (Below.refl _ _) j (by omega)
        have hat := cmp_at hx hy (by rw [← Hn.out, ← Hm.out]) (k := j) (by rw [← Hn.out]; omega) Hd.out
        have h1 := hx.wd j
        have h2 := hy.wd j
        have HA := Lib.hid hat; clear hat
        rcases Nat.lt_trichotomy (wd xs j) (wd ys j) with h | h | h
        · have hq : (((wd xs j : Nat) : Int) != ((wd ys j : Nat) : Int)) = true := by rw [bne_iff_ne]; omega
          have hv := Lib.hid (HA.out.1 h)
          go_wp2
          go_quiet (fail)
          go_wp2
          go_quiet (fail)
          go_wp2
          go_ret
          rw [hv.out]
          exact ⟨rfl, by first | exact ⟨_, rfl⟩ | (simp only [World.drewN_drewN]; exact ⟨_, rfl⟩)⟩
        · have hq : (((wd xs j : Nat) : Int) != ((wd ys j : Nat) : Int)) = false := by rw [bne_eq_false_iff_eq]; omega
          have hv := Lib.hid (HA.out.2.2 h)
          clear h
          go_wp2
          go_quiet (fail)
          go_wp2
          go_roundw
          case rel => exact ⟨j, by omega, rfl, hv.out, by first | exact ⟨_, rfl⟩ | (simp only [World.drewN_drewN]; exact ⟨_, rfl⟩)⟩
          case measure => first | (simp [intOf]; done) | (simp [intOf]; omega)
        · have hq : (((wd xs j : Nat) : Int) != ((wd ys j : Nat) : Int)) = true := by rw [bne_iff_ne]; omega
          have hv := Lib.hid (HA.out.2.1 h)
          go_wp2
          go_quiet (fail)
          go_wp2
          go_quiet (fail)
          go_wp2
          go_ret
          rw [hv.out]
          exact ⟨rfl, by first | exact ⟨_, rfl⟩ | (simp only [World.drewN_drewN]; exact ⟨_, rfl⟩)⟩
  · rw [cmp_len_gt hx hy nx (by omega)]
    clear hn hm
    have hq : ((n : Int) != (m : Int)) = true := by rw [bne_iff_ne]; omega
    go_enter Tryz.func182, Tryz.ntmps182
    go_wp2
    go_ret
    exact ⟨rfl, 0, rfl⟩

end Go.Proofs.YtbffpkmfhkphdaaGreatDoor

namespace Go.Proofs.YtbffpkmfhkphdaaGreatDoor
open Go Go.RowKit Limb

/-- One word of a word's product with a number, put to what lies there: at i + j. -/
theorem times_in {zs ys : List Nat} {i j c a S : Nat} (hz : i + j < zs.length)
    (h : val (zs.take (i + j)) + c * W (i + j) = S + a * val (ys.take j) * W i) :
    val ((zs.set (i + j) ((a * wd ys j + wd zs (i + j) + c) % 4294967296)).take (i + (j + 1))) + (a * wd ys j + wd zs (i + j) + c) / 4294967296 * W (i + (j + 1)) =
      S + wd zs (i + j) * W (i + j) + a * val (ys.take (j + 1)) * W i := by
  rw [← Nat.add_assoc, val_set_take _ hz, val_take_succ, W_succ]
  have hd := Nat.div_add_mod (a * wd ys j + wd zs (i + j) + c) 4294967296
  generalize (a * wd ys j + wd zs (i + j) + c) / 4294967296 = q at *
  generalize (a * wd ys j + wd zs (i + j) + c) % 4294967296 = r at *
  have k2 := congrArg (fun t => W (i + j) * t) hd
  simp only [Nat.mul_add] at k2
  have e1 : W (i + j) * (4294967296 * q) = q * (4294967296 * W (i + j)) := by rw [Nat.mul_comm, Nat.mul_right_comm, Nat.mul_comm (4294967296 * _)]
  have e2 : a * (val (ys.take j) + W j * wd ys j) * W i = a * val (ys.take j) * W i + W (i + j) * (a * wd ys j) := by
    rw [Nat.mul_add, Nat.add_mul, W_add]
    congr 1
    rw [Nat.mul_left_comm a, Nat.mul_right_comm, Nat.mul_comm (W j) (W i)]
  have e3 : W (i + j) * c = c * W (i + j) := Nat.mul_comm _ _
  have e4 : W (i + j) * wd zs (i + j) = wd zs (i + j) * W (i + j) := Nat.mul_comm _ _
  omega

theorem times_in' {zs zs0 ys : List Nat} {i j c a : Nat} (hz : i + j < zs.length) (hw : wd zs (i + j) = wd zs0 (i + j))
    (h : val (zs.take (i + j)) + c * W (i + j) = val (zs0.take (i + j)) + a * val (ys.take j) * W i) :
    val ((zs.set (i + j) ((a * wd ys j + wd zs (i + j) + c) % 4294967296)).take (i + (j + 1))) + (a * wd ys j + wd zs (i + j) + c) / 4294967296 * W (i + (j + 1)) =
      val (zs0.take (i + (j + 1))) + a * val (ys.take (j + 1)) * W i := by
  rw [times_in hz h, ← Nat.add_assoc, val_take_succ zs0, hw, Nat.mul_comm (wd zs0 _)]

theorem times_out {zs zs0 xs ys : List Nat} {i m c : Nat} (hm : m = ys.length) (hz : i + m < zs.length) (hi : i < xs.length)
    (h0 : val (zs0.take (i + m)) = val (xs.take i) * val ys)
    (h : val (zs.take (i + m)) + c * W (i + m) = val (zs0.take (i + m)) + wd xs i * val (ys.take m) * W i) :
    val ((zs.set (i + m) c).take (i + 1 + m)) = val (xs.take (i + 1)) * val ys := by
  rw [show i + 1 + m = i + m + 1 from by omega, val_set_take _ hz, Nat.mul_comm (W _), h, h0, hm, List.take_length, val_take_succ xs, Nat.add_mul, Nat.mul_comm (W i), Nat.mul_right_comm]

set_option maxHeartbeats 1600000 in
set_option maxRecDepth 100000 in
theorem big_times (w : World) (a b : Option Addr) (xs ys : List Nat) (n m ca cb : Nat) (ha : Lay .u32 w a xs) (hb : Lay .u32 w b ys) (hx : Lim xs) (hy : Lim ys) (hn : n = xs.length) (hm : m = ys.length)
    (ln : n ≤ 1099511627776) (lm : m ≤ 1099511627776) :
    Calls Tryz.prog 163 #[.slice a n ca, .slice b m cb] w fun e w' => NatRes w w' e (val xs * val ys) := by
  obtain ⟨b1, off1, hix, hcx, _⟩ := ha.use 115 60 Tryz.underlying115 size32 ca
  obtain ⟨b2, off2, hiy, hcy, _⟩ := hb.use 115 60 Tryz.underlying115 size32 cb
  rw [← hn] at hix hcx
  rw [← hm] at hiy hcy
  by_cases h0 : n = 0 ∨ m = 0
  · have hv : Hid (val xs * val ys = 0) := by
      unfold Hid
      rcases h0 with h | h
      · rw [List.eq_nil_of_length_eq_zero (hn.symm.trans h)]; simp [val]
      · rw [List.eq_nil_of_length_eq_zero (hm.symm.trans h)]; simp [val]
    have hres : NatRes w w (.returned (.slice none 0 0)) (val xs * val ys) := by rw [hv.out]; exact ⟨none, 0, rfl, by simp [rep_zero], by decide, Lay.nil _ _ _, Below.refl _ _⟩
    clear hix hiy hcx hcy hn hm
    rcases h0 with h | h
    · subst h
      go_enter Tryz.func163, Tryz.ntmps163
      go_wp2
      go_ret
      exact hres
    · subst h
      go_enter Tryz.func163, Tryz.ntmps163
      go_wp2
      all_goals go_ret
      all_goals exact hres
  · have p1 : 0 < n := by omega
    have p2 : 0 < m := by omega
    have q1 : ((n : Int) == 0) = false := by rw [beq_eq_false_iff_ne]; omega
    have q2 : ((m : Int) == 0) = false := by rw [beq_eq_false_iff_ne]; omega
    have Hn := Lib.hid hn; clear hn
    have Hm := Lib.hid hm; clear hm
    have HX := Lib.hid hix; clear hix
    have HCX := Lib.hid hcx; clear hcx
    have HY := Lib.hid hiy; clear hiy
    have HCY := Lib.hid hcy; clear hcy
    clear h0
    go_enter Tryz.func163, Tryz.ntmps163
    go_wp2_with (at_make; refine wpList_make_row rfl _ _ _ rfl 60 (.int .u32 0) 4 Tryz.underlying115 info32 rfl _ _ _ _ (n + m) (n + m) rfl rfl (by simp) (by simp) (by omega) (by omega) (by omega) ?_; intro w1 g hg1 hg2 hrow hbel)
    go_loopw [28] (fun i wr => ∃ (k : Nat) (zs : List Nat), k ≤ n ∧ i = .int .i64 k ∧ zs.length = n + m ∧ Lim zs ∧ Row wr g 60 (nums .u32 zs) ∧
        val (zs.take (k + m)) = val (xs.take k) * val ys ∧ Below w.heap.size w wr) (fun i _ => n - (intOf i).toNat)
    case atStart => exact ⟨0, List.replicate (n + m) 0, by omega, rfl, by simp, Lim.replicate _ (by decide), by rw [nums_replicate]; exact hrow, by simp [val, List.take_replicate, val_replicate], hbel⟩
    case round =>
      obtain ⟨k, zs0, hk, rfl, hzl, hzlim, hr, hv, hbl⟩ := hrel
      have h1 := hx.wd k
      have Hzl := Lib.hid hzl; clear hzl
      have Hv := Lib.hid hv; clear hv
      by_cases hlt : k < n
      · have ix := HX.out wr .i64 k (by omega) (by omega)
        rw [Int.toNat_natCast] at ix
        have cx := HCX.out wr hbl k hlt
        obtain ⟨wo, hwo⟩ : ∃ wo : World, wo = wr := ⟨_, rfl⟩
        subst hwo
        go_wp2
        go_loopw [8, 35] (fun c j wr => ∃ (jj cc : Nat) (zs : List Nat), jj ≤ m ∧ j = .int .i64 jj ∧ c = .int .u64 cc ∧ cc < 4294967296 ∧ zs.length = n + m ∧ Lim zs ∧ Row wr g 60 (nums .u32 zs) ∧
            (∀ i, k + jj ≤ i → wd zs i = wd zs0 i) ∧ val (zs.take (k + jj)) + cc * W (k + jj) = val (zs0.take (k + jj)) + wd xs k * val (ys.take jj) * W k ∧ Below w.heap.size w wr) (fun _ j _ => m - (intOf j).toNat)
        case atStart => exact ⟨0, 0, zs0, by omega, rfl, rfl, by omega, Hzl.out, hzlim, hr, fun _ _ => rfl, by simp [val], hbl⟩
        case round =>
          obtain ⟨j, c, zs, hj, rfl, rfl, hc, hzl2, hzlim2, hr2, hsame, hv2, hbl2⟩ := hrel
          have h2 := hy.wd j
          have h3 := hzlim2.wd (k + j)
          have Hzl2 := Lib.hid hzl2; clear hzl2
          have Hv2 := Lib.hid hv2; clear hv2
          have Hsame := Lib.hid hsame; clear hsame
          by_cases hjt : j < m
          · have iy := HY.out wr .i64 j (by omega) (by omega)
            rw [Int.toNat_natCast] at iy
            have cy := HCY.out wr hbl2 j hjt
            have hcell := hr2.cell (i := k + j) (by rw [Hzl2.out]; omega)
            have hfk := hr2.free (k + j)
            have hp := prod_bound (wd xs k) (wd ys j) (by omega) (by omega) (by omega) (by omega)
            obtain ⟨hp1, hp2⟩ := hp
            go_wp2
            have hb3 : wd xs k * wd ys j + wd zs (k + j) + c < 4294967296 * 4294967296 := by
              have := Nat.mul_le_mul (show wd xs k ≤ 4294967295 by omega) (show wd ys j ≤ 4294967295 by omega); omega
            go_roundw
            case rel => exact ⟨j + 1, (wd xs k * wd ys j + wd zs (k + j) + c) / 4294967296, zs.set (k + j) ((wd xs k * wd ys j + wd zs (k + j) + c) % 4294967296), by omega, by go_num, by go_num, by omega, by rw [List.length_set, Hzl2.out],
              hzlim2.set (by omega), hr2.store _ _ _ (by rw [Int.natCast_emod, Int.natCast_add, Int.natCast_add, Int.natCast_mul]; rfl), fun i hi => by rw [wd_set (by rw [Hzl2.out]; omega), if_neg (by omega)]; exact Hsame.out i (by omega),
              times_in' (by rw [Hzl2.out]; omega) (Hsame.out _ (by omega)) Hv2.out, below_store hbl2 hg1 _⟩
            case measure => simp [intOf]; omega
          · obtain rfl : j = m := by omega
            have hcell := hr2.cell (i := k + j) (by rw [Hzl2.out]; omega)
            have hfk := hr2.free (k + j)
            go_wp2
            go_roundw
            case rel => exact ⟨k + 1, zs.set (k + j) c, by omega, by go_num, by rw [List.length_set, Hzl2.out], hzlim2.set hc, hr2.store _ _ _ rfl,
              times_out Hm.out (by rw [Hzl2.out]; omega) (by rw [← Hn.out]; exact hlt) Hv.out Hv2.out, below_store hbl2 hg1 _⟩
            case measure => simp [intOf]; omega
      · obtain rfl : k = n := by omega
        have hl2 := hr.lay
        have hle2 := rep_val_le hzlim
        have hval : Hid (val zs0 = val xs * val ys) := by
          have h := Hv.out
          rw [List.take_of_length_le (by rw [Hzl.out]; omega), List.take_of_length_le (by rw [Hn.out]; omega)] at h
          exact h
        go_wp2_with (go_at_call 236; refine (big_norm _ _ zs0 _ _ (by assumption) (by assumption) (by rw [Hzl.out]) (by omega) (by omega)).mono ?_; rintro e w' ⟨rfl, rfl⟩)
        go_ret
        rw [Hzl.out] at hle2
        rw [← hval.out]
        exact ⟨_, _, rfl, hle2, by omega, hl2.norm hzlim, hbl⟩

end Go.Proofs.YtbffpkmfhkphdaaGreatDoor
