/- The walk of the reference's plus: a sum, not cut. -/
import Derived.Test.YtbffpkmfhkphdaaGreatDoorGX04
import Derived.Test.YtbffpkmfhkphdaaGreatDoorGX13
set_option linter.unusedVariables false
set_option linter.unusedSimpArgs false
namespace Go.Proofs.YtbffpkmfhkphdaaGreatDoor
open Go Go.RowKit Limb

/-- One word of a sum more. -/
theorem plus_step {xs ys zs : List Nat} {k c : Nat} (hz : zs.length = k) (h : val zs + c * W k = val (xs.take k) + val (ys.take k)) :
    val (zs ++ [(c + wd xs k + wd ys k) % 4294967296]) + (c + wd xs k + wd ys k) / 4294967296 * W (k + 1) = val (xs.take (k + 1)) + val (ys.take (k + 1)) := by
  rw [val_snoc, hz, val_take_succ xs, val_take_succ ys, W_succ]
  have hd := Nat.div_add_mod (c + wd xs k + wd ys k) 4294967296
  generalize (c + wd xs k + wd ys k) / 4294967296 = q at *
  generalize (c + wd xs k + wd ys k) % 4294967296 = r at *
  have k2 := congrArg (fun t => W k * t) hd
  simp only [Nat.mul_add] at k2
  have e1 : W k * (4294967296 * q) = q * (4294967296 * W k) := by rw [Nat.mul_comm, Nat.mul_right_comm, Nat.mul_comm (4294967296 * _)]
  have e3 : W k * c = c * W k := Nat.mul_comm _ _
  omega

/-- Not in memory that was there. -/
def Fresh (w : World) (a : Option Addr) : Prop := ∀ b off, a = some ⟨b, off, none⟩ → w.heap.size ≤ b

/-- A sum: its words, of which the last may be 0. -/
def PlusRes (w w' : World) (e : Ending) (N m : Nat) : Prop :=
  ∃ a n cap zs, e = .returned (.slice a n cap) ∧ n = zs.length ∧ n ≤ cap ∧ n ≤ m ∧ Lim zs ∧ val zs = N ∧ Lay .u32 w' a zs ∧ Below w.heap.size w w' ∧ Fresh w a
/-- The same, of no fewer words than k. -/
def PlusResK (w w' : World) (e : Ending) (N m k : Nat) : Prop :=
  ∃ a n cap zs, e = .returned (.slice a n cap) ∧ n = zs.length ∧ n ≤ cap ∧ n ≤ m ∧ Lim zs ∧ val zs = N ∧ Lay .u32 w' a zs ∧ Below w.heap.size w w' ∧ Fresh w a ∧ k ≤ n

set_option maxHeartbeats 1600000 in
set_option maxRecDepth 1000000 in
theorem ref_plus_k (w : World) (a b : Option Addr) (xs ys : List Nat) (n m ca cb M : Nat) (ha : Lay .u32 w a xs) (hb : Lay .u32 w b ys) (hx : Lim xs) (hy : Lim ys) (hn : n = xs.length) (hm : m = ys.length)
    (ln : n ≤ M) (lm : m ≤ M) (lM : M ≤ 1099511627776) :
    Calls Tryz.prog 80 #[.slice a n ca, .slice b m cb] w fun e w' => PlusResK w w' e (val xs + val ys) (M + 1) n := by
  obtain ⟨b1, off1, hix, hcx, _⟩ := ha.use 22 60 Tryz.underlying22 size32 ca
  obtain ⟨b2, off2, hiy, hcy, _⟩ := hb.use 22 60 Tryz.underlying22 size32 cb
  rw [← hn] at hix hcx
  rw [← hm] at hiy hcy
  have Hn := Lib.hid hn; clear hn
  have Hm := Lib.hid hm; clear hm
  have HX := Lib.hid hix; clear hix
  have HCX := Lib.hid hcx; clear hcx
  have HY := Lib.hid hiy; clear hiy
  have HCY := Lib.hid hcy; clear hcy
  go_enter Tryz.func80, Tryz.ntmps80
  go_wp2
  go_loopw [5, 6, 7] (fun v c i wr => ∃ (k cc : Nat) (zs : List Nat), k ≤ M + 1 ∧ (k = M + 1 → cc = 0) ∧ i = .int .i64 k ∧ c = .int .u64 cc ∧ cc ≤ 1 ∧ Hid (zs.length = k) ∧ Lim zs ∧ wr.ownsRow w.heap.size 60 1 v k (nums .u32 zs) ∧
      Hid (val zs + cc * W k = val (xs.take k) + val (ys.take k)) ∧ Below w.heap.size w wr) (fun _ _ i _ => M + 1 - (intOf i).toNat)
  case atStart => exact ⟨0, 0, [], by omega, fun _ => rfl, rfl, rfl, by omega, Lib.hid rfl, Lim.nil, World.ownsRow_nil _ _ _ _, Lib.hid (by simp [val]), Below.refl _ _⟩
  case round =>
    obtain ⟨k, c, zs, hk, hkM, rfl, rfl, hc1, Hz, hzlim, hown, Hv, hbl⟩ := hrel
    have h1 := hx.wd k
    have h2 := hy.wd k
    have hkM' : k = M + 1 → c = 0 := hkM
    clear hkM
    have HkM := Lib.hid hkM'; clear hkM'
    by_cases hgo : k < n ∨ k < m ∨ 0 < c
    · have kM : k ≤ M := by
        have := HkM.out; omega
      obtain ⟨t, ht⟩ : ∃ t, t = c + wd xs k + wd ys k := ⟨_, rfl⟩
      have t1 : t < 8589934592 := by omega
      obtain ⟨d, hd⟩ : ∃ d, d = t % 4294967296 := ⟨_, rfl⟩
      obtain ⟨c2, hc2⟩ : ∃ c2, c2 = t / 4294967296 := ⟨_, rfl⟩
      have ed : (t : Int) % 4294967296 = (d : Int) := by omega
      have ec : (t : Int) / 4294967296 = (c2 : Int) := by omega
      have dl : d < 4294967296 := by omega
      have c21 : c2 ≤ 1 := by omega
      have hst := Lib.hid (plus_step Hz.out Hv.out)
      rw [← ht, ← hd, ← hc2] at hst
      have hlast : Hid (k + 1 = M + 1 → c2 = 0) := Lib.hid (fun e => by
        have z1 := wd_ge (l := xs) (i := k) (by rw [← Hn.out]; omega)
        have z2 := wd_ge (l := ys) (i := k) (by rw [← Hm.out]; omega)
        omega)
      clear hd hc2
      have hsz := hbl.size
      by_cases hkn : k < n
      · by_cases hkm : k < m
        · have ix := HX.out wr .i64 k (by omega) (by omega)
          rw [Int.toNat_natCast] at ix
          have cx := HCX.out wr hbl k (by omega)
          have d1 : decide (k < n) = true := by rw [decide_eq_true_eq]; omega
          have iy := HY.out wr .i64 k (by omega) (by omega)
          rw [Int.toNat_natCast] at iy
          have cy := HCY.out wr hbl k (by omega)
          have d2 : decide (k < m) = true := by rw [decide_eq_true_eq]; omega
          have eT : (c : Int) + (wd xs k : Nat) + (wd ys k : Nat) = (t : Int) := by omega
          clear ht hgo
          go_wp2_with (at_builtin; refine wpList_append_row rfl _ _ 22 rfl .u32 w.heap.size 60 (.int .u32 0) 4 Tryz.underlying22 info32 rfl _ k zs rfl (hown.alloc _) wr.heap.size 1 rfl d _ (by simp) rfl (by omega) (by omega) (by rw [World.size_alloc]; omega) ?_; intro v' w3 hown3 hb3 hszw hgr; clear hgr hszw)
          go_roundw
          case rel => exact ⟨k + 1, c2, zs ++ [d], by omega, hlast.out, by go_num, rfl, c21, Lib.hid (by rw [List.length_append, Hz.out]; rfl), hzlim.append (Lim.cons dl Lim.nil), hown3, hst, (hbl.alloc hbl.size _).trans hb3⟩
          case measure => simp [intOf]; omega
        · have ix := HX.out wr .i64 k (by omega) (by omega)
          rw [Int.toNat_natCast] at ix
          have cx := HCX.out wr hbl k (by omega)
          have d1 : decide (k < n) = true := by rw [decide_eq_true_eq]; omega
          have d2 : decide (k < m) = false := by rw [decide_eq_false_iff_not]; omega
          have z2 := wd_ge (l := ys) (i := k) (by rw [← Hm.out]; omega)
          have eT : (c : Int) + (wd xs k : Nat) = (t : Int) := by omega
          clear z2
          clear ht hgo
          go_wp2_with (at_builtin; refine wpList_append_row rfl _ _ 22 rfl .u32 w.heap.size 60 (.int .u32 0) 4 Tryz.underlying22 info32 rfl _ k zs rfl (hown.alloc _) wr.heap.size 1 rfl d _ (by simp) rfl (by omega) (by omega) (by rw [World.size_alloc]; omega) ?_; intro v' w3 hown3 hb3 hszw hgr; clear hgr hszw)
          go_roundw
          case rel => exact ⟨k + 1, c2, zs ++ [d], by omega, hlast.out, by go_num, rfl, c21, Lib.hid (by rw [List.length_append, Hz.out]; rfl), hzlim.append (Lim.cons dl Lim.nil), hown3, hst, (hbl.alloc hbl.size _).trans hb3⟩
          case measure => simp [intOf]; omega
      · by_cases hkm : k < m
        · have d1 : decide (k < n) = false := by rw [decide_eq_false_iff_not]; omega
          have z1 := wd_ge (l := xs) (i := k) (by rw [← Hn.out]; omega)
          have iy := HY.out wr .i64 k (by omega) (by omega)
          rw [Int.toNat_natCast] at iy
          have cy := HCY.out wr hbl k (by omega)
          have d2 : decide (k < m) = true := by rw [decide_eq_true_eq]; omega
          have eT : (c : Int) + (wd ys k : Nat) = (t : Int) := by omega
          clear z1
          clear ht hgo
          go_wp2_with (at_builtin; refine wpList_append_row rfl _ _ 22 rfl .u32 w.heap.size 60 (.int .u32 0) 4 Tryz.underlying22 info32 rfl _ k zs rfl (hown.alloc _) wr.heap.size 1 rfl d _ (by simp) rfl (by omega) (by omega) (by rw [World.size_alloc]; omega) ?_; intro v' w3 hown3 hb3 hszw hgr; clear hgr hszw)
          go_roundw
          case rel => exact ⟨k + 1, c2, zs ++ [d], by omega, hlast.out, by go_num, rfl, c21, Lib.hid (by rw [List.length_append, Hz.out]; rfl), hzlim.append (Lim.cons dl Lim.nil), hown3, hst, (hbl.alloc hbl.size _).trans hb3⟩
          case measure => simp [intOf]; omega
        · have d1 : decide (k < n) = false := by rw [decide_eq_false_iff_not]; omega
          have z1 := wd_ge (l := xs) (i := k) (by rw [← Hn.out]; omega)
          have d2 : decide (k < m) = false := by rw [decide_eq_false_iff_not]; omega
          have z2 := wd_ge (l := ys) (i := k) (by rw [← Hm.out]; omega)
          have d3 : decide (0 < c) = true := by rw [decide_eq_true_eq]; omega
          have et : t = c := by omega
          rw [et] at ed ec
          clear z1 z2 et
          clear ht hgo
          go_wp2_with (at_builtin; refine wpList_append_row rfl _ _ 22 rfl .u32 w.heap.size 60 (.int .u32 0) 4 Tryz.underlying22 info32 rfl _ k zs rfl (hown.alloc _) wr.heap.size 1 rfl d _ (by simp) rfl (by omega) (by omega) (by rw [World.size_alloc]; omega) ?_; intro v' w3 hown3 hb3 hszw hgr; clear hgr hszw)
          go_roundw
          case rel => exact ⟨k + 1, c2, zs ++ [d], by omega, hlast.out, by go_num, rfl, c21, Lib.hid (by rw [List.length_append, Hz.out]; rfl), hzlim.append (Lim.cons dl Lim.nil), hown3, hst, (hbl.alloc hbl.size _).trans hb3⟩
          case measure => simp [intOf]; omega
    · have z : c = 0 := by omega
      have d1 : decide (k < n) = false := by rw [decide_eq_false_iff_not]; omega
      have d2 : decide (k < m) = false := by rw [decide_eq_false_iff_not]; omega
      have hval : Hid (val zs = val xs + val ys) := by
        have h := Hv.out
        rw [z, Nat.zero_mul, Nat.add_zero, List.take_of_length_le (by rw [← Hn.out]; omega), List.take_of_length_le (by rw [← Hm.out]; omega)] at h
        exact h
      have hfr := hown.lt
      have Hkn : Hid (n ≤ k) := Lib.hid (by omega)
      obtain ⟨av, capv, hav, hcv, hmv, hlv, _⟩ := lay_of_owns hown
      subst z
      have Hmv := Lib.hid hmv; clear hmv
      clear hgo h1 h2
      subst hav
      have HFr : Hid (Fresh w av) := Lib.hid (fun b off e => (hfr b (by rw [e]; rfl)).1)
      clear hfr
      go_wp2
      go_ret
      exact ⟨av, _, capv, zs, rfl, Hmv.out, hcv, hk, hzlim, hval.out, hlv, hbl, HFr.out, Hkn.out⟩
theorem ref_plus (w : World) (a b : Option Addr) (xs ys : List Nat) (n m ca cb M : Nat) (ha : Lay .u32 w a xs) (hb : Lay .u32 w b ys) (hx : Lim xs) (hy : Lim ys) (hn : n = xs.length) (hm : m = ys.length)
    (ln : n ≤ M) (lm : m ≤ M) (lM : M ≤ 1099511627776) :
    Calls Tryz.prog 80 #[.slice a n ca, .slice b m cb] w fun e w' => PlusRes w w' e (val xs + val ys) (M + 1) := by
  refine (ref_plus_k w a b xs ys n m ca cb M ha hb hx hy hn hm ln lm lM).mono ?_
  rintro e w' ⟨a, n, cap, zs, h1, h2, h3, h4, h5, h6, h7, h8, h9, _⟩
  exact ⟨a, n, cap, zs, h1, h2, h3, h4, h5, h6, h7, h8, h9⟩

end Go.Proofs.YtbffpkmfhkphdaaGreatDoor
