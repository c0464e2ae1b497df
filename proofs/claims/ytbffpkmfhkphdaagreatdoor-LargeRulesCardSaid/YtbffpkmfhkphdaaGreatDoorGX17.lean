/- The walk of the reference's plus: a sum, not cut. The walks of big.put and big.read: the number of digits. -/
import Derived.Test.YtbffpkmfhkphdaaGreatDoorGX05
import Derived.Test.YtbffpkmfhkphdaaGreatDoorGX14
import Derived.Test.YtbffpkmfhkphdaaGreatDoorGX04
import Derived.Laws.OwnMore
set_option linter.unusedVariables false
set_option linter.unusedSimpArgs false
namespace Go.Proofs.YtbffpkmfhkphdaaGreatDoor
open Go Go.RowKit Limb

/-- One word of a sum more. -/
theorem plus_step {xs ys zs : List Nat} {k c : Nat} (hz : zs.length = k) (h : val zs + c * W k = val (xs.take k) + val (ys.take k)) :
    val (zs ++ [(c + wd xs k + wd ys k) % 4294967296]) + (c + wd xs k + wd ys k) / 4294967296 * W (k + 1) = val (xs.take (k + 1)) + val (ys.take (k + 1)) := by
  rw [val_snoc, hz, val_take_succ xs, val_take_succ ys, W_succ]
  have hd := Nat.div_add_mod (c + wd xs k + wd ys k) 4294967296
  generalize (c + wd xs k + wd ys k) / 4294967296 = q at *
  generalize (c + wd xs k + wd ys k) % 4294967296 = r at *
  have k2 := congrArg (fun t => W k * t) hd
  simp only [Nat.mul_add] at k2
  have e1 : W k * (4294967296 * q) = q * (4294967296 * W k) := by rw [Nat.mul_comm, Nat.mul_right_comm, Nat.mul_comm (4294967296 * _)]
  have e3 : W k * c = c * W k := Nat.mul_comm _ _
  omega

/-- Not in memory that was there. -/
def Fresh (w : World) (a : Option Addr) : Prop := ∀ b off, a = some ⟨b, off, none⟩ → w.heap.size ≤ b

/-- A sum: its words, of which the last may be 0. -/
def PlusRes (w w' : World) (e : Ending) (N m : Nat) : Prop :=
  ∃ a n cap zs, e = .returned (.slice a n cap) ∧ n = zs.length ∧ n ≤ cap ∧ n ≤ m ∧ Lim zs ∧ val zs = N ∧ Lay .u32 w' a zs ∧ Below w.heap.size w w' ∧ Fresh w a
/-- The same, of no fewer words than k. -/
def PlusResK (w w' : World) (e : Ending) (N m k : Nat) : Prop :=
  ∃ a n cap zs, e = .returned (.slice a n cap) ∧ n = zs.length ∧ n ≤ cap ∧ n ≤ m ∧ Lim zs ∧ val zs = N ∧ Lay .u32 w' a zs ∧ Below w.heap.size w w' ∧ Fresh w a ∧ k ≤ n

set_option maxHeartbeats 1600000 in
set_option maxRecDepth 1000000 in
theorem ref_plus_k (w : World) (a b : Option Addr) (xs ys : List Nat) (n m ca cb M : Nat) (ha : Lay .u32 w a xs) (hb : Lay .u32 w b ys) (hx : Lim xs) (hy : Lim ys) (hn : n = xs.length) (hm : m = ys.length)
    (ln : n ≤ M) (lm : m ≤ M) (lM : M ≤ 1099511627776) :
    Calls Tryz.prog 80 #[.slice a n ca, .slice b m cb] w fun e w' => PlusResK w w' e (val xs + val ys) (M + 1) n := by
  obtain ⟨b1, off1, hix, hcx, _⟩ := ha.use 22 60 Tryz.underlying22 size32 ca
  obtain ⟨b2, off2, hiy, hcy, _⟩ := hb.use 22 60 Tryz.underlying22 size32 cb
  rw [← hn] at hix hcx
  rw [← hm] at hiy hcy
  have Hn := Lib.hid hn; clear hn
  have Hm := Lib.hid hm; clear hm
  have HX := Lib.hid hix; clear hix
  have HCX := Lib.hid hcx; clear hcx
  have HY := Lib.hid hiy; clear hiy
  have HCY := Lib.hid hcy; clear hcy
  go_enter Tryz.func80, Tryz.ntmps80
  go_wp2
  go_loopw [5, 6, 7] (fun v c i wr => ∃ (k cc : Nat) (zs : List Nat), k ≤ M + 1 ∧ (k = M + 1 → cc = 0) ∧ i = .int .i64 k ∧ c = .int .u64 cc ∧ cc ≤ 1 ∧ Hid (zs.length = k) ∧ Lim zs ∧ wr.ownsRow w.heap.size 60 1 v k (nums .u32 zs) ∧
      Hid (val zs + cc * W k = val (xs.take k) + val (ys.take k)) ∧ Below w.heap.size w wr) (fun _ _ i _ => M + 1 - (intOf i).toNat)
  case atStart => exact ⟨0, 0, [], by omega, fun _ => rfl, rfl, rfl, by omega, Lib.hid rfl, Lim.nil, World.ownsRow_nil _ _ _ _, Lib.hid (by simp [val]), Below.refl _ _⟩
  case round =>
    obtain ⟨k, c, zs, hk, hkM, rfl, rfl, hc1, Hz, hzlim, hown, Hv, hbl⟩ := hrel
    have h1 := hx.wd k
    have h2 := hy.wd k
    have hkM' : k = M + 1 → c = 0 := hkM
    clear hkM
    have HkM := Lib.hid hkM'; clear hkM'
    by_cases hgo : k < n ∨ k < m ∨ 0 < c
    · have kM : k ≤ M := by
        have := HkM.out; omega
      obtain ⟨t, ht⟩ : ∃ t, t = c + wd xs k + wd ys k := ⟨_, rfl⟩
      have t1 : t < 8589934592 := by omega
      obtain ⟨d, hd⟩ : ∃ d, d = t % 4294967296 := ⟨_, rfl⟩
      obtain ⟨c2, hc2⟩ : ∃ c2, c2 = t / 4294967296 := ⟨_, rfl⟩
      have ed : (t : Int) % 4294967296 = (d : Int) := by omega
      have ec : (t : Int) / 4294967296 = (c2 : Int) := by omega
      have dl : d < 4294967296 := by omega
      have c21 : c2 ≤ 1 := by omega
      have hst := Lib.hid (plus_step Hz.out Hv.out)
      rw [← ht, ← hd, ← hc2] at hst
      have hlast : Hid (k + 1 = M + 1 → c2 = 0) := Lib.hid (fun e => by
        have z1 := wd_ge (l := xs) (i := k) (by rw [← Hn.out]; omega)
        have z2 := wd_ge (l := ys) (i := k) (by rw [← Hm.out]; omega)
        omega)
      clear hd hc2
      have hsz := hbl.size
      by_cases hkn : k < n
      · by_cases hkm : k < m
        · have ix := HX.out wr .i64 k (by omega) (by omega)
          rw [Int.toNat_natCast] at ix
          have cx := HCX.out wr hbl k (by omega)
          have d1 : decide (k < n) = true := by rw [decide_eq_true_eq]; omega
          have iy := HY.out wr .i64 k (by omega) (by omega)
          rw [Int.toNat_natCast] at iy
          have cy := HCY.out wr hbl k (by omega)
          have d2 : decide (k < m) = true := by rw [decide_eq_true_eq]; omega
          have eT : (c : Int) + (wd xs k : Nat) + (wd ys k : Nat) = (t : Int) := by omega
          clear ht hgo
          go_wp2_with (at_builtin; refine wpList_append_row rfl _ _ 22 rfl .u32 w.heap.size 60 (.int .u32 0) 4 Tryz.underlying22 info32 rfl _ k zs rfl (hown.alloc _) wr.heap.size 1 rfl d _ (by simp) rfl (by omega) (by omega) (by rw [World.size_alloc]; omega) ?_; intro v' w3 hown3 hb3 hszw hgr; clear hgr hszw)
          go_roundw
          case rel => exact ⟨k + 1, c2, zs ++ [d], by omega, hlast.out, by go_num, rfl, c21, Lib.hid (by rw [List.length_append, Hz.out]; rfl), hzlim.append (Lim.cons dl Lim.nil), hown3, hst, (hbl.alloc hbl.size _).trans hb3⟩
          case measure => simp [intOf]; omega
        · have ix := HX.out wr .i64 k (by omega) (by omega)
          rw [Int.toNat_natCast] at ix
          have cx := HCX.out wr hbl k (by omega)
          have d1 : decide (k < n) = true := by rw [decide_eq_true_eq]; omega
          have d2 : decide (k < m) = false := by rw [decide_eq_false_iff_not]; omega
          have z2 := wd_ge (l := ys) (i := k) (by rw [← Hm.out]; omega)
          have eT : (c : Int) + (wd xs k : Nat) = (t : Int) := by omega
          clear z2
          clear ht hgo
          go_wp2_with (at_builtin; refine wpList_append_row rfl _ _ 22 rfl .u32 w.heap.size 60 (.int .u32 0) 4 Tryz.underlying22 info32 rfl _ k zs rfl (hown.alloc _) wr.heap.size 1 rfl d _ (by simp) rfl (by omega) (by omega) (by rw [World.size_alloc]; omega) ?_; intro v' w3 hown3 hb3 hszw hgr; clear hgr hszw)
          go_roundw
          case rel => exact ⟨k + 1, c2, zs ++ [d], by omega, hlast.out, by go_num, rfl, c21, Lib.hid (by rw [List.length_append, Hz.out]; rfl), hzlim.append (Lim.cons dl Lim.nil), hown3, hst, (hbl.alloc hbl.size _).trans hb3⟩
          case measure => simp [intOf]; omega
      · by_cases hkm : k < m
        · have d1 : decide (k < n) = false := by rw [decide_eq_false_iff_not]; omega
          have z1 := wd_ge (l := xs) (i := k) (by rw [← Hn.out]; omega)
          have iy := HY.out wr .i64 k (by omega) (by omega)
          rw [Int.toNat_natCast] at iy
          have cy := HCY.out wr hbl k (by omega)
          have d2 : decide (k < m) = true := by rw [decide_eq_true_eq]; omega
          have eT : (c : Int) + (wd ys k : Nat) = (t : Int) := by omega
          clear z1
          clear ht hgo
          go_wp2_with (at_builtin; refine wpList_append_row rfl _ _ 22 rfl .u32 w.heap.size 60 (.int .u32 0) 4 Tryz.underlying22 info32 rfl _ k zs rfl (hown.alloc _) wr.heap.size 1 rfl d _ (by simp) rfl (by omega) (by omega) (by rw [World.size_alloc]; omega) ?_; intro v' w3 hown3 hb3 hszw hgr; clear hgr hszw)
          go_roundw
          case rel => exact ⟨k + 1, c2, zs ++ [d], by omega, hlast.out, by go_num, rfl, c21, Lib.hid (by rw [List.length_append, Hz.out]; rfl), hzlim.append (Lim.cons dl Lim.nil), hown3, hst, (hbl.alloc hbl.size _).trans hb3⟩
          case measure => simp [intOf]; omega
        · have d1 : decide (k < n) = false := by rw [decide_eq_false_iff_not]; omega
          have z1 := wd_ge (l := xs) (i := k) (by rw [← Hn.out]; omega)
          have d2 : decide (k < m) = false := by rw [decide_eq_false_iff_not]; omega
          have z2 := wd_ge (l := ys) (i := k) (by rw [← Hm.out]; omega)
          have d3 : decide (0 < c) = true := by rw [decide_eq_true_eq]; omega
          have et : t = c := by omega
          rw [et] at ed ec
          clear z1 z2 et
          clear ht hgo
          go_wp2_with (at_builtin; refine wpList_append_row rfl _ _ 22 rfl .u32 w.heap.size 60 (.int .u32 0) 4 Tryz.underlying22 info32 rfl _ k zs rfl (hown.alloc _) wr.heap.size 1 rfl d _ (by simp) rfl (by omega) (by omega) (by rw [World.size_alloc]; omega) ?_; intro v' w3 hown3 hb3 hszw hgr; clear hgr hszw)
          go_roundw
          case rel => exact ⟨k + 1, c2, zs ++ [d], by omega, hlast.out, by go_num, rfl, c21, Lib.hid (by rw [List.length_append, Hz.out]; rfl), hzlim.append (Lim.cons dl Lim.nil), hown3, hst, (hbl.alloc hbl.size _).trans hb3⟩
          case measure => simp [intOf]; omega
    · have z : c = 0 := by omega
      have d1 : decide (k < n) = false := by rw [decide_eq_false_iff_not]; omega
      have d2 : decide (k < m) = false := by rw [decide_eq_false_iff_not]; omega
      have hval : Hid (val zs = val xs + val ys) := by
        have h := Hv.out
        rw [z, Nat.zero_mul, Nat.add_zero, List.take_of_length_le (by rw [← Hn.out]; omega), List.take_of_length_le (by rw [← Hm.out]; omega)] at h
        exact h
      have hfr := hown.lt
      have Hkn : Hid (n ≤ k) := Lib.hid (by omega)
      obtain ⟨av, capv, hav, hcv, hmv, hlv, _⟩ := lay_of_owns hown
      subst z
      have Hmv := Lib.hid hmv; clear hmv
      clear hgo h1 h2
      subst hav
      have HFr : Hid (Fresh w av) := Lib.hid (fun b off e => (hfr b (by rw [e]; rfl)).1)
      clear hfr
      go_wp2
      go_ret
      exact ⟨av, _, capv, zs, rfl, Hmv.out, hcv, hk, hzlim, hval.out, hlv, hbl, HFr.out, Hkn.out⟩
theorem ref_plus (w : World) (a b : Option Addr) (xs ys : List Nat) (n m ca cb M : Nat) (ha : Lay .u32 w a xs) (hb : Lay .u32 w b ys) (hx : Lim xs) (hy : Lim ys) (hn : n = xs.length) (hm : m = ys.length)
    (ln : n ≤ M) (lm : m ≤ M) (lM : M ≤ 1099511627776) :
    Calls Tryz.prog 80 #[.slice a n ca, .slice b m cb] w fun e w' => PlusRes w w' e (val xs + val ys) (M + 1) := by
  refine (ref_plus_k w a b xs ys n m ca cb M ha hb hx hy hn hm ln lm lM).mono ?_
  rintro e w' ⟨a, n, cap, zs, h1, h2, h3, h4, h5, h6, h7, h8, h9, _⟩
  exact ⟨a, n, cap, zs, h1, h2, h3, h4, h5, h6, h7, h8, h9⟩

end Go.Proofs.YtbffpkmfhkphdaaGreatDoor

namespace Go.Proofs.YtbffpkmfhkphdaaGreatDoor
open Go Go.RowKit Limb

theorem owns_some {w : World} {B n cap : Nat} {e : TypeId} {a : Option Addr} {xs : List Value} (h : w.ownsRow B e 1 (.slice a n cap) n xs) (hn : 0 < n) : ∃ g, a = some ⟨g, 0, none⟩ ∧ B ≤ g := by
  obtain ⟨_, ⟨h1, h2⟩ | ⟨g, cap', cur, hv, hg, _⟩⟩ := h
  · omega
  · simp only [Value.slice.injEq] at hv
    exact ⟨g, hv.1, hg⟩
theorem owns_length {K : IntKind} {w : World} {B n : Nat} {e : TypeId} {v : Value} {zs : List Nat} (h : w.ownsRow B e 1 v n (nums K zs)) : n = zs.length := by
  have := h.1
  rw [nums_length, Nat.mul_one] at this
  exact this.symm

/-- What put answers: a number that is the call's own. -/
def PutRes (B : Nat) (w w' : World) (e : Ending) (N : Nat) : Prop := ∃ v' n', e = .returned v' ∧ Hid (w'.ownsRow B 60 1 v' n' (nums .u32 (rep N))) ∧ Below B w w'

set_option maxHeartbeats 1600000 in
set_option maxRecDepth 100000 in
theorem big_put (w : World) (B : Nat) (v : Value) (n V b d : Nat) (hown : w.ownsRow B 60 1 v n (nums .u32 (rep V))) (hb : 2 ≤ b) (h36 : b ≤ 36) (hd : d < b) (hn : n ≤ 1048576) (hB : B ≤ w.heap.size) :
    Calls Tryz.prog 258 #[v, .int .u32 b, .int .u32 d] w fun e w' => PutRes B w w' e (V * b + d) := by
  obtain ⟨a, cap, rfl, hcap, hlen, hlay, hrow⟩ := lay_of_owns hown
  have Hlen := Lib.hid hlen
  clear hlay hrow hlen
  go_enter Tryz.func258, Tryz.ntmps258
  go_wp2_with fail
  go_loopw [7, 14] (fun cv i wr => ∃ (k c : Nat) (cur : List Nat), k ≤ n ∧ i = .int .i64 k ∧ cv = .int .u64 c ∧ c < b ∧ Hid (Put b d (rep V) k cur c) ∧ wr.ownsRow B 60 1 (.slice a n cap) n (nums .u32 cur) ∧ Below B w wr) (fun _ i _ => n - (intOf i).toNat)
  case atStart => exact ⟨0, d, rep V, Nat.zero_le _, rfl, rfl, hd, Lib.hid (Put.start (rep_lim _) hd), hown, Below.refl _ _⟩
  case round =>
    clear hown
    obtain ⟨k, c, cur, hk, rfl, rfl, hc, HP, hown2, hB2⟩ := hrel
    by_cases hlt : k < n
    · obtain ⟨g, rfl, hg⟩ := owns_some hown2 (by omega)
      have ix := row_index (P := Tryz.prog) Tryz.underlying115 size32 g n cap .i64 (k : Int) k rfl (by omega)
      have hcl : Hid (cur.length = n) := Lib.hid (owns_length hown2).symm
      have hcell := hown2.cellAt k (by omega)
      rw [nums_get (by rw [hcl.out]; exact hlt), HP.out.rest k (Nat.le_refl _)] at hcell
      have hfk := hown2.frozenAt k
      have hxl := (rep_lim V).wd k
      have Hst := Lib.hid (HP.out.step (rep_lim V) (by rw [← Hlen.out]; exact hlt))
      obtain ⟨x, hxe⟩ : ∃ x, x = wd (rep V) k := ⟨_, rfl⟩
      rw [← hxe] at hcell hxl Hst
      obtain ⟨m, hm⟩ : ∃ m, m = x * b := ⟨_, rfl⟩
      have hmul : x * b ≤ 4294967295 * 36 := Nat.mul_le_mul (by omega) (by omega)
      have eM : (x : Int) * (b : Int) = (m : Int) := by rw [hm, Int.natCast_mul]
      rw [← hm] at Hst hmul
      obtain ⟨t, ht⟩ : ∃ t, t = m + c := ⟨_, rfl⟩
      rw [← ht] at Hst
      have eT : (c : Int) + (m : Int) = (t : Int) := by omega
      have eM2 : IntKind.u64.wrap ((x : Int) * (b : Int)) = (m : Int) := by rw [eM, IntKind.wrap_u64]; omega
      have eT2 : IntKind.u64.wrap ((c : Int) + (m : Int)) = (t : Int) := by rw [eT, IntKind.wrap_u64]; omega
      have tl : t < 18446744073709551616 := by omega
      obtain ⟨r, hre⟩ : ∃ r, r = t % 4294967296 := ⟨_, rfl⟩
      obtain ⟨q, hqe⟩ : ∃ q, q = t / 4294967296 := ⟨_, rfl⟩
      rw [← hre, ← hqe] at Hst
      have er : (t : Int) % 4294967296 = (r : Int) := by omega
      have eq : (t : Int) / 4294967296 = (q : Int) := by omega
      have rl : r < 4294967296 := by omega
      have qb : q < b := Hst.out.car
      have hown3 := (hown2.stored k (.int .u32 (r : Int))).1
      rw [← nums_set] at hown3
      have hB3 := below_store hB2 hg (i := k) (.int .u32 (r : Int))
      clear hm ht hre hqe hmul hxe hown2 hB2 HP
      go_wp2
      go_roundw
      case rel => exact ⟨k + 1, q, cur.set k r, by omega, by go_num, rfl, qb, Lib.hid Hst.out, hown3, hB3⟩
      case measure => simp [intOf]; omega
    · obtain rfl : k = n := by omega
      have HD := Lib.hid (Put.done (by omega) (show Put b d (rep V) (rep V).length cur c by rw [← Hlen.out]; exact HP.out))
      have hsz := hB2.size
      by_cases c0 : c = 0
      · have HE := Lib.hid (HD.out.1 c0)
        subst c0
        go_wp2_with fail
        go_ret
        exact ⟨_, k, rfl, Lib.hid (by rw [← HE.out]; exact hown2), hB2⟩
      · have HE := Lib.hid (HD.out.2 (by omega) (by omega))
        have d1 : decide (0 < c) = true := decide_eq_true (by omega)
        have ec : (c : Int) % 4294967296 = (c : Int) := by omega
        clear HP HD c0
        go_wp2_with (at_builtin; refine wpList_append_row rfl _ _ 115 rfl .u32 B 60 (.int .u32 0) 4 Tryz.underlying115 info32 rfl _ k cur rfl (hown2.alloc _) wr.heap.size 1 rfl c _ (by simp) rfl (by omega) (by omega) (by rw [World.size_alloc]; omega) ?_; intro v' w3 hown3 hb3 hszw hgr; replace hszw := Lib.hid hszw; clear hgr)
        have hB4 := (hB2.alloc (by omega) (.cells #[.int .u32 (c : Int)] 60)).trans hb3
        go_wp2_with fail
        go_ret
        exact ⟨v', k + 1, rfl, Lib.hid (by rw [← HE.out]; exact hown3), hB4⟩

/-- The bytes of a string, as numbers. -/
def bytesN (s : ByteArray) : List Nat := s.data.toList.map UInt8.toNat
theorem bytesN_length (s : ByteArray) : (bytesN s).length = s.size := by unfold bytesN; rw [List.length_map]; simp
theorem bytesN_take (s : ByteArray) (k : Nat) (h : k < s.size) : (bytesN s).take (k + 1) = (bytesN s).take k ++ [s[k].toNat] := by
  have h1 : k < (bytesN s).length := by rw [bytesN_length]; exact h
  rw [List.take_succ_eq_append_getElem h1]
  congr 2
  simp [bytesN]; rfl
theorem bytesN_mem (s : ByteArray) (k : Nat) (h : k < s.size) : s[k].toNat ∈ bytesN s := by
  unfold bytesN
  refine List.mem_map.2 ⟨s[k], ?_, rfl⟩
  exact List.getElem_mem (l := s.data.toList) (by simpa using h)

theorem numF_lt {b : Nat} (hb : 1 ≤ b) : ∀ (l : List Nat) (n : Nat), (∀ c ∈ l, dgt c < b) → numF b n l < (n + 1) * b ^ l.length
  | [], n, _ => by rw [numF_nil, List.length_nil, Nat.pow_zero, Nat.mul_one]; omega
  | c :: l, n, h => by
    rw [numF_cons, List.length_cons, Nat.pow_succ, Nat.mul_comm (b ^ l.length), ← Nat.mul_assoc]
    refine Nat.lt_of_lt_of_le (numF_lt hb l _ (fun x hx => h x (by simp [hx]))) (Nat.mul_le_mul_right _ ?_)
    have := h c (by simp)
    rw [Nat.add_mul, Nat.one_mul]; omega
/-- A number of so many digits is not long. -/
theorem numF_len {b k : Nat} {l : List Nat} (hb : 1 ≤ b) (h36 : b ≤ 36) (h : ∀ c ∈ l, dgt c < b) (hk : l.length ≤ k) : (rep (numF b 0 l)).length ≤ k + 1 := by
  refine rep_length_le.2 ?_
  have h1 := numF_lt hb l 0 h
  rw [Nat.zero_add, Nat.one_mul] at h1
  refine Nat.lt_of_lt_of_le h1 ?_
  have h2 : b ^ l.length ≤ 4294967296 ^ l.length := Nat.pow_le_pow_left (by omega) _
  have h3 : 4294967296 ^ l.length ≤ 4294967296 ^ (k + 1) := Nat.pow_le_pow_right (by decide) (by omega)
  exact Nat.le_trans h2 h3
theorem dgt_cases {c b : Nat} (h : dgt c < b) (hb : b ≤ 36) : (∃ d, c = 48 + d ∧ d < 10 ∧ dgt c = d) ∨ (∃ d, c = 65 + d ∧ d < 26 ∧ dgt c = d + 10) := by
  unfold dgt at h ⊢
  split at h
  · rename_i h1; exact .inl ⟨c - 48, by omega, by omega, by rw [if_pos h1]⟩
  · rename_i h1
    split at h
    · rename_i h2; exact .inr ⟨c - 65, by omega, by omega, by rw [if_neg h1, if_pos h2]; omega⟩
    · omega

set_option maxHeartbeats 1600000 in
set_option maxRecDepth 100000 in
theorem big_read (w : World) (s : ByteArray) (b : Nat) (hb : 2 ≤ b) (h36 : b ≤ 36) (hs : s.size ≤ 32768) (h0 : 0 < s.size) (hd : ∀ c ∈ bytesN s, dgt c < b) :
    Calls Tryz.prog 181 #[.string s, .int .i64 b] w fun e w' => ∃ a n c, e = .returned (.tuple #[.slice a n c, .bool true]) ∧ Hid (n = (rep (numF b 0 (bytesN s))).length ∧ n ≤ c ∧ Lay .u32 w' a (rep (numF b 0 (bytesN s)))) ∧ Below w.heap.size w w' := by
  have Hd := Lib.hid hd
  have e0 : (!s.toList.isEmpty) = true := by
    rw [Lib.toList_data, Bool.not_eq_true', List.isEmpty_eq_false_iff]
    intro h
    have h1 : s.data.toList.length = 0 := by rw [h]; rfl
    rw [Array.length_toList] at h1
    have h2 : s.size = 0 := h1
    omega
  clear hd
  go_enter Tryz.func181, Tryz.ntmps181
  go_wp2_with fail
  go_loopw [6, 12] (fun x i wr => ∃ (k : Nat) (n : Nat), k ≤ s.size ∧ i = .int .i64 k ∧ wr.ownsRow w.heap.size 60 1 x n (nums .u32 (rep (numF b 0 ((bytesN s).take k)))) ∧ Below w.heap.size w wr) (fun _ i _ => s.size - (intOf i).toNat)
  case atStart => exact ⟨0, 0, Nat.zero_le _, rfl, World.ownsRow_nil _ _ _ _, Below.refl _ _⟩
  case round =>
    obtain ⟨k, n, hk, rfl, hown, hB⟩ := hrel
    by_cases hlt : k < s.size
    · have hts := Lib.hid (bytesN_take s k hlt)
      have hmem := Hd.out _ (bytesN_mem s k hlt)
      have hnl : n ≤ 1048576 := by
        rw [owns_length hown]
        have := numF_len (k := 32768) (by omega) h36 (l := (bytesN s).take k) (fun c hc => Hd.out c (List.mem_of_mem_take hc)) (by rw [List.length_take, bytesN_length]; omega)
        omega
      have HB2 := Lib.hid (fun d (hd : d < b) => big_put wr w.heap.size _ n _ b d hown hb h36 hd hnl hB.size)
      have hsz := hB.size
      obtain ⟨cc, hcc⟩ : ∃ cc, s[k].toNat = cc := ⟨_, rfl⟩
      rw [hcc] at hmem
      have Hts := Lib.hid (show (bytesN s).take (k + 1) = (bytesN s).take k ++ [cc] by rw [← hcc]; exact hts.out)
      clear hts
      obtain ⟨x, hxe⟩ : ∃ x, x = numF b 0 ((bytesN s).take k) := ⟨_, rfl⟩
      rw [← hxe] at hown HB2
      have Hx := Lib.hid hxe; clear hxe
      rcases dgt_cases hmem h36 with ⟨d, hcd, hd, hdd⟩ | ⟨d, hcd, hd, hdd⟩
      · have HP := Lib.hid (HB2.out d (by omega))
        have HN := Lib.hid (show numF b 0 ((bytesN s).take (k + 1)) = x * b + d by rw [Hts.out, numF_snoc, ← Hx.out, hdd])
        have db : d < b := by omega
        subst hcd
        have e1 : (48 : Int) + (d : Int) - 48 = (d : Int) := by omega
        clear hmem hdd HB2 hown
        go_wp2_with fail
        (with_reducible refine HP.out.mono ?_)
        rintro e w5 ⟨v', n', rfl, hown', hB'⟩
        have hB5 := hB.trans hB'
        go_wp2_with fail
        go_roundw
        case rel => exact ⟨k + 1, n', hlt, by go_num, by rw [HN.out]; exact hown'.out, hB5⟩
        case measure => simp [intOf]; omega
      · have hP := HB2.out (d + 10) (by omega)
        rw [show ((d + 10 : Nat) : Int) = (d : Int) + 10 from by omega] at hP
        have HP := Lib.hid hP; clear hP
        have HN := Lib.hid (show numF b 0 ((bytesN s).take (k + 1)) = x * b + (d + 10) by rw [Hts.out, numF_snoc, ← Hx.out, hdd])
        have db : d + 10 < b := by omega
        subst hcd
        have e1 : (65 : Int) + (d : Int) - 65 = (d : Int) := by omega
        clear hmem hdd HB2 hown
        go_wp2_with fail
        (with_reducible refine HP.out.mono ?_)
        rintro e w5 ⟨v', n', rfl, hown', hB'⟩
        have hB5 := hB.trans hB'
        go_wp2_with fail
        go_roundw
        case rel => exact ⟨k + 1, n', hlt, by go_num, by rw [HN.out]; exact hown'.out, hB5⟩
        case measure => simp [intOf]; omega
    · obtain rfl : k = s.size := by omega
      rw [List.take_of_length_le (by rw [bytesN_length]; exact Nat.le_refl _)] at hown
      obtain ⟨a, cap, rfl, hcap, hlen, hlay, -⟩ := lay_of_owns hown
      have HF := Lib.hid (And.intro hlen (And.intro hcap hlay))
      clear hown hlen hlay
      go_wp2_with fail
      go_ret2
      exact ⟨a, n, cap, rfl, Lib.hid HF.out, hB⟩

end Go.Proofs.YtbffpkmfhkphdaaGreatDoor
