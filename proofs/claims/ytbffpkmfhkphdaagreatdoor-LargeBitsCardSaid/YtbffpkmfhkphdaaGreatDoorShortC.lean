/- The walks of big.length and big.short. -/
import Derived.Test.YtbffpkmfhkphdaaGreatDoorGNat
import Derived.Test.YtbffpkmfhkphdaaGreatDoorGPlain
import Derived.Test.YtbffpkmfhkphdaaGreatDoorShelf
namespace Go.Proofs.YtbffpkmfhkphdaaGreatDoor
open Go Go.RowKit Limb

set_option maxRecDepth 100000 in
theorem big_length (w : World) (a : Option Addr) (l : List Nat) (n cap : Nat) (hlay : Lay .u32 w a l) (hlim : Lim l) (hnorm : Norm l) (hn : n = l.length) (hm : n ≤ 1099511627776) :
    Calls Tryz.prog 158 #[.slice a n cap] w fun e w' => e = .returned (.int .i64 (bitsN (val l) : Nat)) ∧ w = w' := by
  obtain ⟨b, off, hix, hcell, hb⟩ := hlay.use 115 60 Tryz.underlying115 size32 cap
  rw [← hn] at hix hcell
  by_cases h : n = 0
  · have hv : bitsN (val l) = 0 := by rw [List.eq_nil_of_length_eq_zero (hn.symm.trans h)]; rfl
    have HV := Lib.hid hv; clear hv
    clear hix hcell hn
    subst h
    go_enter Tryz.func158, Tryz.ntmps158
    go_wp2
    go_ret
    rw [HV.out]
    exact ⟨rfl, rfl⟩
  · obtain ⟨k, rfl⟩ : ∃ k, n = k + 1 := ⟨n - 1, by omega⟩
    have hx := hix w .i64 k (by omega) (by omega)
    have hc := hcell w (Below.refl _ _) k (by omega)
    have hw := hlim.wd k
    rw [Int.toNat_natCast] at hx
    have hne := norm_last hnorm hn.symm
    have hv := Lib.hid (bitsN_val hlim hn.symm hne)
    obtain ⟨_, _, hb32, _⟩ := bitLen32 hw
    clear hix hcell hn hne h
    have e1 : (((k + 1 : Nat) : Int) == 0) = false := by rw [beq_eq_false_iff_ne]; omega
    go_enter Tryz.func158, Tryz.ntmps158
    go_wp2_with (go_at_call 240; refine (Tryz.bits_Len32 _ _ (by omega) (by omega)).mono ?_; rw [Int.toNat_natCast]; rintro e w' ⟨rfl, hw'⟩; subst hw')
    go_ret
    rw [hv.out]
    exact ⟨congrArg (fun x => Ending.returned (.int .i64 x)) (by omega), rfl⟩

theorem short_step {xs qs : List Nat} {k d r : Nat} (hd : 0 < d) (hxl : k + 1 ≤ xs.length) (hql : qs.length = xs.length)
    (h : val (xs.drop (k + 1)) = d * val (qs.drop (k + 1)) + r) :
    val (xs.drop k) = d * val ((qs.set k ((r * 4294967296 + wd xs k) / d)).drop k) + (r * 4294967296 + wd xs k) % d := by
  have e1 : (qs.set k ((r * 4294967296 + wd xs k) / d)).drop k = (r * 4294967296 + wd xs k) / d :: qs.drop (k + 1) := by
    rw [List.drop_eq_getElem_cons (by rw [List.length_set]; omega), List.getElem_set_self, List.drop_set_of_lt (by omega)]
  rw [e1, List.drop_eq_getElem_cons (by omega : k < xs.length), ← wd_lt (by omega), val, val, h]
  have h2 := Nat.div_add_mod (r * 4294967296 + wd xs k) d
  generalize (r * 4294967296 + wd xs k) / d = q at *
  generalize (r * 4294967296 + wd xs k) % d = m at *
  rw [Nat.mul_add, Nat.mul_left_comm, Nat.mul_add]; omega

set_option maxHeartbeats 800000 in
set_option maxRecDepth 100000 in
theorem big_short_row (w : World) (a : Option Addr) (xs : List Nat) (n ca d : Nat) (ha : Lay .u32 w a xs) (hx : Lim xs) (hn : n = xs.length)
    (ln : n ≤ 1099511627776) (hd0 : 0 < d) (hd : d < 4294967296) :
    Calls Tryz.prog 241 #[.slice a n ca, .int .u32 d] w fun e w' =>
      ∃ a' cap', e = .returned (.tuple #[.slice a' (rep (val xs / d)).length cap', .int .u32 (val xs % d : Nat)]) ∧ (rep (val xs / d)).length ≤ cap' ∧ cap' ≤ 4398046511104 ∧ Lay .u32 w' a' (rep (val xs / d)) ∧ Below w.heap.size w w' ∧ ∃ g cs, a' = some ⟨g, 0, none⟩ ∧ Row w' g 60 cs := by
  obtain ⟨b1, off1, hix, hcx, _⟩ := ha.use 115 60 Tryz.underlying115 size32 ca
  rw [← hn] at hix hcx
  have Hn := Lib.hid hn; clear hn
  have HX := Lib.hid hix; clear hix
  have HCX := Lib.hid hcx; clear hcx
  go_enter Tryz.func241, Tryz.ntmps241
  go_wp2_with (at_make; refine wpList_make_row rfl _ _ _ rfl 60 (.int .u32 0) 4 Tryz.underlying115 info32 rfl _ _ _ _ n n rfl rfl rfl rfl (by omega) (by omega) (by omega) ?_; intro w1 g hg1 hg2 hrow hbel)
  go_loopw [7, 8] (fun r i wr => ∃ (k rr : Nat) (qs : List Nat), k ≤ n ∧ i = .int .i64 ((k : Int) - 1) ∧ r = .int .u64 rr ∧ rr < d ∧ qs.length = n ∧ Lim qs ∧ Row wr g 60 (nums .u32 qs) ∧
      val (xs.drop k) = d * val (qs.drop k) + rr ∧ Below w.heap.size w wr) (fun _ i _ => (intOf i + 1).toNat)
  case atStart => exact ⟨n, 0, List.replicate n 0, by omega, rfl, rfl, hd0, by simp, Lim.replicate _ (by decide), by rw [nums_replicate]; exact hrow, by rw [List.drop_of_length_le (by rw [Hn.out]; exact Nat.le_refl _), List.drop_of_length_le (by simp)]; rfl, hbel⟩
  case round =>
    obtain ⟨k, r, qs, hk, rfl, rfl, hr, hql, hqlim, hrw, hv, hbl⟩ := hrel
    have Hql := Lib.hid hql; clear hql
    have Hv := Lib.hid hv; clear hv
    by_cases h0 : k = 0
    · subst h0
      have hl2 := hrw.lay
      have hle2 := rep_val_le hqlim
      have h3 := Hv.out
      simp only [List.drop_zero] at h3
      have hq := Lib.hid (show val qs = val xs / d by rw [h3, Nat.mul_add_div hd0, Nat.div_eq_of_lt hr, Nat.add_zero])
      have hm := Lib.hid (show r = val xs % d by rw [h3, Nat.mul_add_mod, Nat.mod_eq_of_lt hr])
      clear h3
      go_wp2_with (go_at_call 236; refine (big_norm _ _ qs _ _ (by assumption) (by assumption) (by rw [Hql.out]) (by omega) (by omega)).mono ?_; rintro e w' ⟨rfl, rfl⟩)
      go_ret2
      rw [Hql.out] at hle2
      rw [← hq.out, ← hm.out]
      exact ⟨_, _, rfl, hle2, by omega, hl2.norm hqlim, hbl, _, _, rfl, hrw⟩
    · obtain ⟨j, rfl⟩ : ∃ j, k = j + 1 := ⟨k - 1, by omega⟩
      have hj : ((j + 1 : Nat) : Int) - 1 = (j : Int) := by omega
      rw [hj]
      clear hj h0
      have ix := HX.out wr .i64 j (by omega) (by omega)
      rw [Int.toNat_natCast] at ix
      have cx := HCX.out wr hbl j (by omega)
      have hcell := hrw.cell (i := j) (by rw [Hql.out]; omega)
      have hfk := hrw.free j
      have h1 := hx.wd j
      have eo := or_hi_lo (wd xs j) r h1 (by omega)
      have hst := Lib.hid (short_step hd0 (by rw [← Hn.out]; omega) (by rw [Hql.out, Hn.out]) Hv.out)
      obtain ⟨t, ht⟩ : ∃ t, t = r * 4294967296 + wd xs j := ⟨_, rfl⟩
      have et : (r : Int) * 4294967296 + (wd xs j : Nat) = t := by omega
      have htlt : t / d < 4294967296 := by rw [Nat.div_lt_iff_lt_mul hd0]; have := Nat.mul_le_mul_right 4294967296 (show r + 1 ≤ d from hr); omega
      have htm : t % d < d := Nat.mod_lt _ hd0
      have ht64 : t < 18446744073709551616 := by omega
      rw [et] at eo
      rw [← ht] at hst
      have HT := Lib.hid ht; clear ht
      have q0 : (0 : Int) ≤ (t : Int) / (d : Int) := Int.ediv_nonneg (by omega) (by omega)
      have q1 : (t : Int) / (d : Int) < 4294967296 := by rw [← Int.natCast_ediv]; omega
      have q2 : (0 : Int) ≤ (t : Int) % (d : Int) := Int.emod_nonneg _ (by omega)
      have q3 : (t : Int) % (d : Int) < (d : Int) := by rw [← Int.natCast_emod]; omega
      have hdz : d ≠ 0 := by omega
      clear et
      go_wp2
      go_roundw
      case rel => exact ⟨j, t % d, qs.set j (t / d), by omega, by go_num, by rw [Int.natCast_emod], htm, by rw [List.length_set, Hql.out], hqlim.set htlt, hrw.store _ _ _ (by rw [Int.natCast_ediv]), hst.out, below_store hbl hg1 _⟩
      case measure => first | (simp [intOf]; done) | (simp [intOf]; omega)

theorem big_short (w : World) (a : Option Addr) (xs : List Nat) (n ca d : Nat) (ha : Lay .u32 w a xs) (hx : Lim xs) (hn : n = xs.length)
    (ln : n ≤ 1099511627776) (hd0 : 0 < d) (hd : d < 4294967296) :
    Calls Tryz.prog 241 #[.slice a n ca, .int .u32 d] w fun e w' =>
      ∃ a' cap', e = .returned (.tuple #[.slice a' (rep (val xs / d)).length cap', .int .u32 (val xs % d : Nat)]) ∧ (rep (val xs / d)).length ≤ cap' ∧ cap' ≤ 4398046511104 ∧ Lay .u32 w' a' (rep (val xs / d)) ∧ Below w.heap.size w w' :=
  (big_short_row w a xs n ca d ha hx hn ln hd0 hd).mono fun _ _ ⟨a', c', h1, h2, h3, h4, h5, _⟩ => ⟨a', c', h1, h2, h3, h4, h5⟩

end Go.Proofs.YtbffpkmfhkphdaaGreatDoor
