/- The walk of big.less: a difference. The walks of big.word, big.low, big.clone. -/
import Derived.Test.YtbffpkmfhkphdaaGreatDoorGX05
set_option linter.unusedVariables false
set_option linter.unusedSimpArgs false
namespace Go.Proofs.YtbffpkmfhkphdaaGreatDoor
open Go Go.RowKit Limb

/-- One word of a difference. -/
theorem less_step {xs ys zs : List Nat} {k c : Nat} (hz : k < zs.length) (hc : c ≤ 1) (hx : wd xs k < 4294967296) (hy : wd ys k < 4294967296)
    (h : val (zs.take k) + val (ys.take k) = val (xs.take k) + c * W k) :
    val ((zs.set k ((wd xs k + 4294967296 - wd ys k - c) % 4294967296)).take (k + 1)) + val (ys.take (k + 1)) = val (xs.take (k + 1)) + (if wd xs k < wd ys k + c then 1 else 0) * W (k + 1) := by
  rw [val_set_take _ hz, val_take_succ xs, val_take_succ ys, W_succ]
  have key : (wd xs k + 4294967296 - wd ys k - c) % 4294967296 + wd ys k + c = wd xs k + (if wd xs k < wd ys k + c then 1 else 0) * 4294967296 := by
    split <;> omega
  have k2 := congrArg (fun t => W k * t) key
  simp only [Nat.mul_add] at k2
  have e1 : W k * ((if wd xs k < wd ys k + c then 1 else 0) * 4294967296) = (if wd xs k < wd ys k + c then 1 else 0) * (4294967296 * W k) := by
    rw [Nat.mul_comm, Nat.mul_assoc]
  rw [e1] at k2
  have e2 : W k * c = c * W k := Nat.mul_comm _ _
  omega

theorem sub_borrow (x y c : Nat) (hx : x < 4294967296) (hy : y < 4294967296) (hc : c ≤ 1) :
    IntKind.u64.wrap (IntKind.u64.wrap ((x : Int) - (y : Int)) - (c : Int)) / 9223372036854775808 = ((if x < y + c then 1 else 0 : Nat) : Int) := by
  rw [IntKind.wrap_u64, IntKind.wrap_u64]; split <;> omega
theorem sub_low (x y c : Nat) (hx : x < 4294967296) (hy : y < 4294967296) (hc : c ≤ 1) :
    IntKind.u64.wrap (IntKind.u64.wrap ((x : Int) - (y : Int)) - (c : Int)) % 4294967296 = (((x + 4294967296 - y - c) % 4294967296 : Nat) : Int) := by
  rw [IntKind.wrap_u64, IntKind.wrap_u64]; omega
theorem less_end {xs ys zs : List Nat} {n c : Nat} (hz : Lim zs) (hzl : zs.length = n) (hxn : xs.length = n) (hyn : ys.length ≤ n) (hle : val ys ≤ val xs)
    (h : val (zs.take n) + val (ys.take n) = val (xs.take n) + c * W n) : val zs = val xs - val ys := by
  rw [List.take_of_length_le (by omega), List.take_of_length_le (by omega), List.take_of_length_le (by omega)] at h
  have := val_lt hz
  rw [hzl] at this
  cases c with
  | zero => omega
  | succ c => rw [Nat.add_mul] at h; omega

set_option maxHeartbeats 800000 in
set_option maxRecDepth 100000 in
theorem big_less (w : World) (a b : Option Addr) (xs ys : List Nat) (n m ca cb : Nat) (ha : Lay .u32 w a xs) (hb : Lay .u32 w b ys) (hx : Lim xs) (hy : Lim ys) (hn : n = xs.length) (hm : m = ys.length)
    (ln : n ≤ 1099511627776) (hle : val ys ≤ val xs) (hmn : m ≤ n) :
    Calls Tryz.prog 167 #[.slice a n ca, .slice b m cb] w fun e w' => NatRes w w' e (val xs - val ys) := by
  obtain ⟨b1, off1, hix, hcx, _⟩ := ha.use 115 60 Tryz.underlying115 size32 ca
  rw [← hn] at hix hcx
  have Hn := Lib.hid hn; clear hn
  have Hm := Lib.hid hm; clear hm
  have HX := Lib.hid hix; clear hix
  have HCX := Lib.hid hcx; clear hcx
  go_enter Tryz.func167, Tryz.ntmps167
  go_wp2_with (at_make; refine wpList_make_row rfl _ _ _ rfl 60 (.int .u32 0) 4 Tryz.underlying115 info32 rfl _ _ _ _ n n rfl rfl rfl rfl (by omega) (by omega) (by omega) ?_; intro w1 g hg1 hg2 hrow hbel)
  go_loopw [6, 14] (fun c i wr => ∃ (k cc : Nat) (zs : List Nat), k ≤ n ∧ i = .int .i64 k ∧ c = .int .u64 cc ∧ cc ≤ 1 ∧ zs.length = n ∧ Lim zs ∧ Row wr g 60 (nums .u32 zs) ∧
      val (zs.take k) + val (ys.take k) = val (xs.take k) + cc * W k ∧ Below w.heap.size w wr) (fun _ i _ => n - (intOf i).toNat)
  case atStart => exact ⟨0, 0, List.replicate n 0, by omega, rfl, rfl, by omega, by simp, Lim.replicate _ (by decide), by rw [nums_replicate]; exact hrow, by simp [val], hbel⟩
  case round =>
    obtain ⟨k, cc, zs, hk, rfl, rfl, hc1, hzl, hzlim, hr, hv, hbl⟩ := hrel
    have h1 := hx.wd k
    have h2 := hy.wd k
    have Hzl := Lib.hid hzl; clear hzl
    have Hv := Lib.hid hv; clear hv
    by_cases hlt : k < n
    · have hcell := hr.cell (i := k) (by rw [Hzl.out]; omega)
      have hfk := hr.free k
      have ix := fun q => HX.out (wr.drewN q) .i64 k (by omega) (by omega)
      simp only [Int.toNat_natCast] at ix
      have cx : wr.cell? ⟨b1, off1 + k, none⟩ = some (.int .u32 (wd xs k : Nat)) := HCX.out wr hbl k hlt
      have hyb := hb.below hbl
      go_wp2
      go_quiet ((go_at_call 237; exact Calls.quiet_of_same ((big_digit _ _ _ _ _ _ (hyb.drewN _) hy Hm.out (by omega) (by omega)).mono (fun e w' h => ⟨h.1, h.2.symm⟩))))
      go_wp2
      go_roundw
      case rel => exact ⟨k + 1, if wd xs k < wd ys k + cc then 1 else 0, zs.set k ((wd xs k + 4294967296 - wd ys k - cc) % 4294967296), by omega, by go_num, by rw [sub_borrow _ _ _ h1 h2 hc1], by split <;> omega, by rw [List.length_set, Hzl.out],
        hzlim.set (by omega), (hr.drewN _).store _ _ _ (sub_low _ _ _ h1 h2 hc1), less_step (by rw [Hzl.out]; exact hlt) hc1 h1 h2 Hv.out, below_store (below_drewN hbl _) hg1 _⟩
      case measure => simp [intOf]; omega
    · obtain rfl : k = n := by omega
      have hl2 := hr.lay
      have hle2 := rep_val_le hzlim
      have hval := Lib.hid (less_end hzlim Hzl.out (by rw [Hn.out]) (by rw [← Hm.out]; exact hmn) hle Hv.out)
      clear h1 h2
      go_wp2_with (go_at_call 236; refine (big_norm _ _ zs _ _ (by assumption) (by assumption) (by rw [Hzl.out]) (by omega) (by omega)).mono ?_; rintro e w' ⟨rfl, rfl⟩)
      go_ret
      rw [Hzl.out] at hle2
      rw [← hval.out]
      exact ⟨_, _, rfl, hle2, by omega, hl2.norm hzlim, hbl⟩

end Go.Proofs.YtbffpkmfhkphdaaGreatDoor

namespace Go.Proofs.YtbffpkmfhkphdaaGreatDoor
open Go Go.RowKit Limb

theorem lay_two (w : World) (x y : Int) (p q : Nat) (e : TypeId) (hx : x = p) (hy : y = q) : Lay .u32 (w.alloc (.cells #[.int .u32 x, .int .u32 y] e)) (some ⟨w.heap.size, 0, none⟩) [p, q] := by
  refine ⟨w.heap.size, 0, fun _ => ⟨rfl, by rw [World.size_alloc]; omega⟩, fun i hi => ?_⟩
  rw [World.cell?_alloc_at _ _ _ _ rfl]
  subst hx hy
  match i, hi with
  | 0, _ => rfl
  | 1, _ => rfl

set_option maxRecDepth 100000 in
theorem big_word (w : World) (n : Nat) (hn : n < 18446744073709551616) :
    Calls Tryz.prog 238 #[.int .u64 n] w fun e w' => NatRes w w' e n := by
  have hlim : Lim [n % 4294967296, n / 4294967296] := Lim.cons (by omega) (Lim.cons (by omega) Lim.nil)
  have hval : val [n % 4294967296, n / 4294967296] = n := by simp only [val]; omega
  have H := Lib.hid hval; clear hval
  go_enter Tryz.func238, Tryz.ntmps238
  go_wp2_with (go_at_call 236; refine (big_norm _ _ [n % 4294967296, n / 4294967296] _ _ (lay_two _ _ _ _ _ _ (by simp) (by simp)) hlim (by simp) (by simp) (by simp)).mono ?_; rintro e w' ⟨rfl, rfl⟩)
  go_ret
  rw [H.out]
  refine ⟨_, _, rfl, ?_, by decide, ?_, (Below.refl _ _).alloc (Nat.le_refl _) _⟩
  · have := rep_val_le hlim; rw [H.out] at this; simpa using this
  · have := (lay_two w (n % 4294967296 : Nat) (n / 4294967296 : Nat) _ _ 60 rfl rfl).norm hlim
    rw [H.out] at this; simpa using this

set_option maxRecDepth 100000 in
theorem big_low (w : World) (a : Option Addr) (l : List Nat) (n cap : Nat) (hlay : Lay .u32 w a l) (hlim : Lim l) (hn : n = l.length) (hm : n ≤ 9223372036854775807) :
    Calls Tryz.prog 161 #[.slice a n cap] w fun e w' => e = .returned (.int .u64 (val l % 18446744073709551616 : Nat)) ∧ w = w' := by
  obtain ⟨b, off, hix, hcell, hb⟩ := hlay.use 115 60 Tryz.underlying115 size32 cap
  have h0 := hlim.wd 0
  have h1 := hlim.wd 1
  rw [← hn] at hix hcell
  have e : val l % 18446744073709551616 = wd l 0 + wd l 1 * 4294967296 := by
    have := val_take hlim 2
    rw [show W 2 = 18446744073709551616 from rfl] at this
    rw [← this, val_take_succ, val_take_succ]; simp [val, W_zero, W_one, Nat.mul_comm]
  rw [e]
  by_cases c1 : n = 0
  · have z0 := wd_ge (l := l) (i := 0) (by omega)
    have z1 := wd_ge (l := l) (i := 1) (by omega)
    rw [z0, z1]
    clear hix hcell z0 z1 e h0 h1 hn hb
    subst c1
    go_enter Tryz.func161, Tryz.ntmps161
    go_wp2
    go_ret
    exact ⟨rfl, rfl⟩
  · have x0 := hix w .i64 0 (by omega) (by omega)
    have y0 := hcell w (Below.refl _ _) 0 (by omega)
    by_cases c2 : n = 1
    · have z1 := wd_ge (l := l) (i := 1) (by omega)
      rw [z1]
      clear hix hcell z1 e h1 hn hb c1
      subst c2
      simp only [Nat.zero_mul, Nat.add_zero, Int.toNat_zero] at *
      go_enter Tryz.func161, Tryz.ntmps161
      go_wp2
      go_ret
      exact ⟨rfl, rfl⟩
    · have x1 := hix w .i64 1 (by omega) (by omega)
      have y1 := hcell w (Below.refl _ _) 1 (by omega)
      have ho := or_lo_hi (wd l 0) (wd l 1) h0 h1
      clear hix hcell e hn hb
      simp only [Nat.add_zero, Int.toNat_zero, Int.toNat_one] at x0 x1 y0
      have g0 : 0 < n := by omega
      have g1 : (1 : Int) < n := by omega
      clear c1 c2
      go_enter Tryz.func161, Tryz.ntmps161
      go_wp2
      go_ret
      exact ⟨congrArg (fun x => Ending.returned (.int .u64 x)) (by omega), rfl⟩

set_option maxRecDepth 100000 in
theorem big_clone (w : World) (a : Option Addr) (l : List Nat) (n cap : Nat) (hlay : Lay .u32 w a l) (hn : n = l.length) (hm : n ≤ 1099511627776) :
    Calls Tryz.prog 155 #[.slice a n cap] w fun e w' => ∃ a' cap', e = .returned (.slice a' n cap') ∧ n ≤ cap' ∧ Lay .u32 w' a' l ∧ Below w.heap.size w w' := by
  go_enter Tryz.func155, Tryz.ntmps155
  go_wp2_with (at_builtin; refine wpList_append_lay rfl _ _ 115 rfl .u32 w.heap.size 60 (.int .u32 0) 4 Tryz.underlying115 info32 rfl _ 0 [] rfl (World.ownsRow_nil _ _ _ _) a n cap rfl l hlay hn (by omega) (by omega) (by omega) ?_; intro v' w1 hown hbel)
  obtain ⟨a', cap', rfl, hc, hl, hlay', _⟩ := lay_of_owns (K := .u32) (zs := l) (by simpa using hown)
  go_ret
  exact ⟨a', cap', by simp, by omega, hlay', hbel⟩

end Go.Proofs.YtbffpkmfhkphdaaGreatDoor
