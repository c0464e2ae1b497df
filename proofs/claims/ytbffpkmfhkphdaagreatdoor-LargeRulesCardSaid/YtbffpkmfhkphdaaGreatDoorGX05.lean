/- The walk of big.sum: the sum of two numbers. Plain arithmetic of a long division, on words. Plain arithmetic of bytes and words. -/
import Derived.Test.YtbffpkmfhkphdaaGreatDoorGX04
set_option linter.unusedVariables false
set_option linter.unusedSimpArgs false
namespace Go.Proofs.YtbffpkmfhkphdaaGreatDoor
open Go Go.RowKit Limb

theorem info32 : (Tryz.prog.info? 60).map (fun i => (i.zero, i.size, i.bytes)) = some (some (.int .u32 0), 1, 4) := by kernel_rfl

/-- A result: a number's words, laid at some place. -/
def NatResC (w w' : World) (e : Ending) (n C : Nat) : Prop :=
  ∃ a cap, e = .returned (.slice a (rep n).length cap) ∧ (rep n).length ≤ cap ∧ cap ≤ C ∧ Lay .u32 w' a (rep n) ∧ Below w.heap.size w w'
def NatRes (w w' : World) (e : Ending) (n : Nat) : Prop := NatResC w w' e n 4398046511104
theorem NatResC.weak {w w' : World} {e : Ending} {n C C' : Nat} (h : NatResC w w' e n C) (hC : C ≤ C') : NatResC w w' e n C' := by
  obtain ⟨a, cap, h1, h2, h3, h4, h5⟩ := h
  exact ⟨a, cap, h1, h2, Nat.le_trans h3 hC, h4, h5⟩

theorem sum_step {xs ys zs : List Nat} {k c : Nat} (hz : k < zs.length) (hlz : Lim zs) (hc : c ≤ 1) (hx : Lim xs) (hy : Lim ys)
    (h : val (zs.take k) + c * W k = val (xs.take k) + val (ys.take k)) :
    val ((zs.set k ((c + (wd xs k + wd ys k)) % 4294967296)).take (k + 1)) + ((c + (wd xs k + wd ys k)) / 4294967296) * W (k + 1) = val (xs.take (k + 1)) + val (ys.take (k + 1)) := by
  rw [val_set_take _ hz, val_take_succ xs, val_take_succ ys, W_succ]
  have hd := Nat.div_add_mod (c + (wd xs k + wd ys k)) 4294967296
  have : W k * (c + (wd xs k + wd ys k)) = W k * ((c + (wd xs k + wd ys k)) % 4294967296) + (c + (wd xs k + wd ys k)) / 4294967296 * (4294967296 * W k) := by
    conv => lhs; rw [← hd]
    rw [Nat.mul_add, Nat.mul_comm 4294967296 (_ / _), Nat.mul_left_comm, Nat.mul_comm 4294967296 (W k), Nat.add_comm]
  have e2 : W k * (c + (wd xs k + wd ys k)) = c * W k + (W k * wd xs k + W k * wd ys k) := by rw [Nat.mul_add, Nat.mul_add, Nat.mul_comm c]
  omega

set_option maxHeartbeats 800000 in
set_option maxRecDepth 100000 in
theorem big_sum (w : World) (a b : Option Addr) (xs ys : List Nat) (ca cb : Nat) (ha : Lay .u32 w a xs) (hb : Lay .u32 w b ys) (hx : Lim xs) (hy : Lim ys)
    (lx : xs.length ≤ 1099511627776) (ly : ys.length ≤ 1099511627776) :
    Calls Tryz.prog 151 #[.slice a xs.length ca, .slice b ys.length cb] w fun e w' => NatRes w w' e (val xs + val ys) := by
  obtain ⟨n, hn1, hn2, hn3, hmax⟩ : ∃ n, xs.length ≤ n ∧ ys.length ≤ n ∧ n ≤ 1099511627776 ∧ ∀ (ts : Array TypeId) (t : TypeId) (W : World),
      (Builtin.max_ ts t #[.int .i64 xs.length, .int .i64 ys.length]).run Tryz.prog W = .ok (.int .i64 n) W := by
    refine ⟨max xs.length ys.length, by omega, by omega, by omega, fun ts t W => ?_⟩
    rw [run_max_int2]
    by_cases h : xs.length < ys.length
    · rw [if_pos (by omega), Nat.max_eq_right (by omega)]
    · rw [if_neg (by omega), Nat.max_eq_left (by omega)]
  go_enter Tryz.func151, Tryz.ntmps151
  go_wp2_with (at_make; refine wpList_make_row rfl _ _ _ rfl 60 (.int .u32 0) 4 Tryz.underlying115 info32 rfl _ _ _ _ (n + 1) (n + 1) rfl rfl (by simp) (by simp) (by omega) (by omega) (by omega) ?_; intro w1 g hg1 hg2 hrow hbel)
  go_loopw [7, 18] (fun c i wr => ∃ (k cc : Nat) (zs : List Nat), k ≤ n ∧ i = .int .i64 k ∧ c = .int .u64 cc ∧ cc ≤ 1 ∧ zs.length = n + 1 ∧ Lim zs ∧ Row wr g 60 (nums .u32 zs) ∧
      val (zs.take k) + cc * W k = val (xs.take k) + val (ys.take k) ∧ Below w.heap.size w wr) (fun _ i _ => n - (intOf i).toNat)
  case atStart => exact ⟨0, 0, List.replicate (n + 1) 0, by omega, rfl, rfl, by omega, by simp, Lim.replicate _ (by decide), by rw [nums_replicate]; exact hrow, by simp [val], hbel⟩
  case round =>
    obtain ⟨k, cc, zs, hk, rfl, rfl, hc1, hzl, hzlim, hr, hv, hbl⟩ := hrel
    have hxa := ha.below hbl
    have hyb := hb.below hbl
    have h1 := hx.wd k
    have h2 := hy.wd k
    have Hzl := Lib.hid hzl; clear hzl
    have Hv := Lib.hid hv; clear hv
    have hfr := hr.free
    by_cases hlt : k < n
    · have hcell := hr.cell (i := k) (by rw [Hzl.out]; omega)
      have hfk := hfr k
      clear hfr
      go_wp2_with (go_at_call 237; refine (big_digit _ _ _ _ _ _ (by assumption) (by assumption) rfl (by omega) (by omega)).mono ?_; rw [Int.toNat_natCast]; rintro e w' ⟨rfl, rfl⟩)
      go_roundw
      case rel => exact ⟨k + 1, (cc + (wd xs k + wd ys k)) / 4294967296, zs.set k ((cc + (wd xs k + wd ys k)) % 4294967296), by omega, by go_num, by go_num, by omega, by rw [List.length_set, Hzl.out],
        hzlim.set (by omega), hr.store _ _ _ (by omega), sum_step (by rw [Hzl.out]; omega) hzlim hc1 hx hy Hv.out, below_store hbl hg1 _⟩
      case measure => simp [intOf]; omega
    · obtain rfl : k = n := by omega
      have hcell := hr.cell (i := k) (by rw [Hzl.out]; omega)
      have hfk := hfr k
      have hr2 := hr.store k cc cc rfl
      have hl2 := hr2.lay
      have hlim2 : Lim (zs.set k cc) := hzlim.set (by omega)
      have hval : Hid (val (zs.set k cc) = val xs + val ys) := by
        have h4 := Hv.out
        rw [List.take_of_length_le hn1, List.take_of_length_le hn2] at h4
        unfold Hid; rw [val_set_end _ Hzl.out, Nat.mul_comm]; exact h4
      have hb2 := below_store hbl (i := k) hg1 (.int .u32 cc)
      clear hfr
      go_wp2_with (go_at_call 236; refine (big_norm _ _ (zs.set k cc) _ _ (by assumption) (by assumption) (by rw [List.length_set, Hzl.out]) (by omega) (by omega)).mono ?_; rintro e w' ⟨rfl, rfl⟩)
      go_ret
      rw [← hval.out]
      have hle := rep_val_le hlim2
      rw [List.length_set, Hzl.out] at hle
      exact ⟨_, _, rfl, hle, by omega, hl2.norm hlim2, hb2⟩

end Go.Proofs.YtbffpkmfhkphdaaGreatDoor

namespace Go.Proofs.YtbffpkmfhkphdaaGreatDoor.Limb

theorem drop_val (us : List Nat) (j : Nat) (h : j < us.length) : val (us.drop j) = wd us j + 4294967296 * val (us.drop (j + 1)) := by
  rw [List.drop_eq_getElem_cons h, ← wd_lt h, val]

/-- The state of a long division ahead of word j = k - 1: what is done of the dividend us0. -/
structure Div (us0 us qs : List Nat) (V n k : Nat) : Prop where
  len : us.length = us0.length
  lim : Lim us
  qlim : Lim qs
  qlen : qs.length + n = us0.length
  kle : k ≤ qs.length
  low : us.take k = us0.take k
  rest : val (us.drop k) < V
  eq : val (us0.drop k) = V * val (qs.drop k) + val (us.drop k)

theorem Div.seg_eq {us0 us qs : List Nat} {V n j : Nat} (D : Div us0 us qs V n (j + 1)) (hV : V < W n) (hn : 0 < n) :
    seg us j (n + 1) = wd us j + 4294967296 * val (us.drop (j + 1)) ∧ val (us.drop (j + n + 1)) = 0 := by
  have hl := D.len; have hk := D.kle; have hq := D.qlen
  have h1 : val (us.drop (j + n + 1)) = 0 := by
    rw [show j + n + 1 = (j + 1) + n from by omega, ← List.drop_drop, val_drop (D.lim.drop _)]
    exact Nat.div_eq_of_lt (Nat.lt_trans D.rest hV)
  refine ⟨?_, h1⟩
  have h2 := val_take_drop (us.drop j) (n + 1) (by rw [List.length_drop]; omega)
  rw [List.drop_drop, show j + (n + 1) = j + n + 1 from by omega, h1, Nat.mul_zero, Nat.add_zero] at h2
  unfold seg
  rw [← h2, drop_val us j (by omega)]

theorem Div.seg_lt' {us0 us qs : List Nat} {V n j : Nat} (D : Div us0 us qs V n (j + 1)) (hV : V < W n) (hn : 0 < n) : seg us j (n + 1) < V * 4294967296 := by
  rw [(D.seg_eq hV hn).1]
  have h1 := D.rest
  have h2 := D.lim.wd j
  have := Nat.mul_le_mul_left 4294967296 (show val (us.drop (j + 1)) + 1 ≤ V from h1)
  rw [Nat.mul_comm V]; omega

theorem Div.step {us0 us us' qs : List Nat} {V n j : Nat} (D : Div us0 us qs V n (j + 1)) (hV : V < W n) (hn : 0 < n) (hl : us'.length = us.length) (hlim : Lim us') (htk : us'.take j = us.take j)
    (hdr : us'.drop (j + n + 1) = us.drop (j + n + 1)) (hs : seg us' j (n + 1) = seg us j (n + 1) % V) :
    Div us0 us' (qs.set j (seg us j (n + 1) / V)) V n j := by
  have hlen := D.len; have hk := D.kle; have hq := D.qlen
  have hpos : 0 < V := Nat.lt_of_le_of_lt (Nat.zero_le _) D.rest
  obtain ⟨h1, h2⟩ := D.seg_eq hV hn
  have hlt := D.seg_lt' hV hn
  have hqlt : seg us j (n + 1) / V < 4294967296 := by rw [Nat.div_lt_iff_lt_mul hpos, Nat.mul_comm]; exact hlt
  have e1 : val (us'.drop j) = seg us j (n + 1) % V := by
    have h3 := val_take_drop (us'.drop j) (n + 1) (by rw [List.length_drop]; omega)
    rw [List.drop_drop, show j + (n + 1) = j + n + 1 from by omega, hdr, h2, Nat.mul_zero, Nat.add_zero] at h3
    rw [h3]; exact hs
  refine ⟨by rw [hl, hlen], hlim, D.qlim.set hqlt, by rw [List.length_set]; exact hq, by rw [List.length_set]; omega, ?_, by rw [e1]; exact Nat.mod_lt _ hpos, ?_⟩
  · rw [htk]
    have := congrArg (List.take j) D.low
    rwa [List.take_take, List.take_take, Nat.min_eq_left (by omega)] at this
  · have hw : wd us0 j = wd us j := by
      have h5 : wd (us.take (j + 1)) j = wd (us0.take (j + 1)) j := by rw [D.low]
      rw [wd_take (by omega), wd_take (by omega)] at h5
      exact h5.symm
    have hq2 : val ((qs.set j (seg us j (n + 1) / V)).drop j) = seg us j (n + 1) / V + 4294967296 * val (qs.drop (j + 1)) := by
      rw [drop_val _ _ (by rw [List.length_set]; omega), wd_set (by omega), if_pos rfl, List.drop_set_of_lt (by omega)]
    rw [drop_val us0 j (by omega), D.eq, hq2, e1, hw]
    have h4 := Nat.div_add_mod (seg us j (n + 1)) V
    rw [h1] at h4 ⊢
    generalize (wd us j + 4294967296 * val (us.drop (j + 1))) / V = q at *
    generalize (wd us j + 4294967296 * val (us.drop (j + 1))) % V = r at *
    rw [Nat.mul_add, Nat.mul_add, Nat.mul_left_comm V 4294967296]
    omega

theorem Div.done {us0 us qs : List Nat} {V n : Nat} (D : Div us0 us qs V n 0) : val qs = val us0 / V ∧ val us = val us0 % V := by
  have h := D.eq
  have hr := D.rest
  simp only [List.drop_zero] at h hr
  have hpos : 0 < V := Nat.lt_of_le_of_lt (Nat.zero_le _) hr
  rw [h, Nat.mul_add_div hpos, Nat.div_eq_of_lt hr, Nat.mul_add_mod, Nat.mod_eq_of_lt hr]
  exact ⟨by omega, rfl⟩

/-- A divisor whose highest bit is brought to the top has as many words as before. -/
theorem up_words {ys : List Nat} {k : Nat} (hy : Lim ys) (ny : Norm ys) (hl : ys.length = k + 1) :
    (rep (val ys * 2 ^ (32 - Lib.bitLen (wd ys k)))).length = k + 1 ∧ 2147483648 ≤ wd (rep (val ys * 2 ^ (32 - Lib.bitLen (wd ys k)))) k ∧ Lib.bitLen (wd ys k) ≤ 32 ∧ 1 ≤ Lib.bitLen (wd ys k) := by
  have hne := norm_last ny hl
  obtain ⟨b1, b2, b3, b4⟩ := bitLen32 (hy.wd k)
  have b5 := b4 hne
  have b6 := b2 hne
  have e := val_snoc_wd (l := ys) (k := k) (by omega)
  rw [List.take_of_length_le (by omega)] at e
  have h1 := val_lt (hy.take k)
  rw [List.length_take, Nat.min_eq_left (by omega)] at h1
  generalize Lib.bitLen (wd ys k) = b at *
  have p31 : 2 ^ (b - 1) * 2 ^ (32 - b) = 2147483648 := by rw [← Nat.pow_add, show b - 1 + (32 - b) = 31 from by omega]
  have p32 : 2 ^ b * 2 ^ (32 - b) = 4294967296 := by rw [← Nat.pow_add, show b + (32 - b) = 32 from by omega]
  have lo : 2147483648 * W k ≤ val ys * 2 ^ (32 - b) := by
    have := Nat.mul_le_mul_right (2 ^ (32 - b)) (show W k * 2 ^ (b - 1) ≤ val ys by rw [e]; exact Nat.le_trans (Nat.mul_le_mul_left _ b6) (Nat.le_add_left _ _))
    rw [Nat.mul_assoc, p31, Nat.mul_comm] at this; exact this
  have hi : val ys * 2 ^ (32 - b) < W (k + 1) := by
    have h2 : val ys < W k * 2 ^ b := by
      have := Nat.mul_le_mul_left (W k) (show wd ys k + 1 ≤ 2 ^ b from b1)
      rw [Nat.mul_add] at this; omega
    have := Nat.mul_lt_mul_of_pos_right h2 (Nat.pow_pos (n := 32 - b) (show 0 < 2 by decide))
    rw [Nat.mul_assoc, p32, Nat.mul_comm (W k)] at this
    rw [W_succ]; exact this
  have hp := W_pos k
  have hlen : (rep (val ys * 2 ^ (32 - b))).length = k + 1 :=
    Nat.le_antisymm (rep_length_le.2 hi) (rep_length_lt.2 (by omega))
  refine ⟨hlen, ?_, b3, b5⟩
  rw [rep_wd, Nat.mod_eq_of_lt]
  · rw [Nat.le_div_iff_mul_le hp]; exact lo
  · rw [Nat.div_lt_iff_lt_mul hp, ← W_succ]; exact hi

/-- The dividend, brought up with it: its words, with those that are laid behind. -/
theorem up_dividend {xs : List Nat} {L s : Nat} (hx : Lim xs) (nx : Norm xs) (hl : xs.length = L) (hL : 0 < L) (hs : s ≤ 32) :
    L ≤ (rep (val xs * 2 ^ s)).length ∧ (rep (val xs * 2 ^ s)).length ≤ L + 1 ∧ ∀ l : List Nat, l = (rep (val xs * 2 ^ s) ++ [0, 0]).take (L + 1) → l.length = L + 1 ∧ Lim l ∧ val l = val xs * 2 ^ s := by
  have h1 := val_lt hx
  have hp : 0 < 2 ^ s := Nat.pow_pos (by decide)
  have h2 : W (L - 1) ≤ val xs := by rw [← rep_length_lt, rep_val hx nx]; omega
  have lo : L ≤ (rep (val xs * 2 ^ s)).length := by
    have := rep_length_lt.2 (Nat.le_trans h2 (Nat.le_mul_of_pos_right (val xs) hp)); omega
  have hi : (rep (val xs * 2 ^ s)).length ≤ L + 1 := by
    rw [rep_length_le, W_succ]
    have h3 : 2 ^ s ≤ 4294967296 := Nat.pow_le_pow_right (n := 2) (by decide) hs
    have := Nat.mul_le_mul_left (val xs) h3
    rw [hl] at h1
    omega
  refine ⟨lo, hi, fun l hlq => ?_⟩
  have hlim : Lim (rep (val xs * 2 ^ s) ++ [0, 0]) := Lim.append (rep_lim _) (Lim.cons (by decide) (Lim.cons (by decide) Lim.nil))
  have hv : val (rep (val xs * 2 ^ s) ++ [0, 0]) = val xs * 2 ^ s := by rw [val_append, val_rep]; simp [val]
  subst hlq
  refine ⟨by rw [List.length_take, List.length_append]; simp; omega, hlim.take _, ?_⟩
  rw [val_take hlim, hv, Nat.mod_eq_of_lt (rep_length_le.1 hi)]

theorem Div.start {xs ys us0 : List Nat} {L k s : Nat} (hx : Lim xs) (hy : Lim ys) (ny : Norm ys) (hlx : xs.length = L) (hly : ys.length = k + 1) (hkL : k + 1 ≤ L)
    (hu : us0.length = L + 1) (hul : Lim us0) (huv : val us0 = val xs * 2 ^ s) : Div us0 us0 (List.replicate (L - k) 0) (val ys * 2 ^ s) (k + 1) (L - k) := by
  have h0 : val ((List.replicate (L - k) 0).drop (L - k)) = 0 := by rw [List.drop_of_length_le (by simp)]; rfl
  have hp : 0 < 2 ^ s := Nat.pow_pos (by decide)
  refine ⟨rfl, hul, Lim.replicate _ (by decide), by simp; omega, by simp, rfl, ?_, by rw [h0]; omega⟩
  rw [val_drop hul, huv, Nat.div_lt_iff_lt_mul (W_pos _)]
  have h1 := val_lt hx
  rw [hlx] at h1
  have h2 : W k ≤ val ys := by rw [← rep_length_lt, rep_val hy ny]; omega
  have h3 : W L = W k * W (L - k) := by rw [← W_add]; congr 1; omega
  rw [Nat.mul_right_comm]
  refine Nat.mul_lt_mul_of_pos_right (Nat.lt_of_lt_of_le h1 ?_) hp
  rw [h3]; exact Nat.mul_le_mul_right _ h2
end Go.Proofs.YtbffpkmfhkphdaaGreatDoor.Limb

namespace Go.Proofs.YtbffpkmfhkphdaaGreatDoor.Limb

/-- The number of k bytes, the lowest ahead. -/
def bval (f : Nat → Nat) : Nat → Nat
  | 0 => 0
  | k + 1 => bval f k + 256 ^ k * f k

theorem val_set_add {l : List Nat} {i e : Nat} (h : i < l.length) : val (l.set i (wd l i + e)) = val l + W i * e := by
  induction l generalizing i with
  | nil => simp at h
  | cons d t ih =>
    cases i with
    | zero => simp [wd, val, W_zero]; omega
    | succ i =>
      have h' : i < t.length := by simpa using h
      have e1 : wd (d :: t) (i + 1) = wd t i := by unfold wd; rw [List.getD_cons_succ]
      rw [e1, List.set_cons_succ, val, val, ih h', W_succ, Nat.mul_add, Nat.mul_assoc]; omega

theorem W_256 (k : Nat) : W (k / 4) * 256 ^ (k % 4) = 256 ^ k := by
  rw [show W (k / 4) = 256 ^ (4 * (k / 4)) from by unfold W; rw [Nat.pow_mul], ← Nat.pow_add, show 4 * (k / 4) + k % 4 = k from by omega]

/-- What SetBytes has laid of k bytes. -/
structure Laid (f : Nat → Nat) (xs : List Nat) (m k : Nat) : Prop where
  len : xs.length = m
  lim : Lim xs
  eq : val xs = bval f k
  here : wd xs (k / 4) < 256 ^ (k % 4)
  beyond : ∀ j, k / 4 < j → wd xs j = 0

theorem Laid.start (f : Nat → Nat) (m : Nat) : Laid f (List.replicate m 0) m 0 :=
  ⟨by simp, Lim.replicate _ (by decide), by rw [val_replicate]; rfl, by rw [wd_replicate]; decide, fun j _ => wd_replicate _ _⟩

theorem pow256_le {r : Nat} (h : r < 4) : 256 ^ (r + 1) ≤ 4294967296 := Nat.pow_le_pow_right (n := 256) (by decide) (show r + 1 ≤ 4 by omega)

theorem Laid.new_lt {f : Nat → Nat} {xs : List Nat} {m k : Nat} (D : Laid f xs m k) (hf : f k < 256) : wd xs (k / 4) + f k * 256 ^ (k % 4) < 256 ^ (k % 4 + 1) := by
  have h := D.here
  have h2 := Nat.mul_le_mul_right (256 ^ (k % 4)) (show f k ≤ 255 by omega)
  rw [Nat.pow_succ]; omega

theorem Laid.step {f : Nat → Nat} {xs : List Nat} {m k : Nat} (D : Laid f xs m k) (hf : f k < 256) (hk : k / 4 < m) :
    Laid f (xs.set (k / 4) (wd xs (k / 4) + f k * 256 ^ (k % 4))) m (k + 1) := by
  have hl := D.len
  have hn := D.new_lt hf
  have hp := pow256_le (r := k % 4) (by omega)
  refine ⟨by rw [List.length_set]; exact hl, D.lim.set (by omega), ?_, ?_, ?_⟩
  · rw [val_set_add (by omega), D.eq, bval, Nat.mul_comm (f k), ← Nat.mul_assoc, W_256]
  · rw [wd_set (by omega)]
    by_cases h : k % 4 = 3
    · rw [if_neg (by omega), show (k + 1) % 4 = 0 from by omega, D.beyond _ (by omega)]; decide
    · rw [if_pos (by omega), show (k + 1) % 4 = k % 4 + 1 from by omega]; exact hn
  · intro j hj
    rw [wd_set (by omega), if_neg (by omega)]
    exact D.beyond j (by omega)

/-- The bytes of a list of words, the lowest ahead. -/
def byt (l : List Nat) (j : Nat) : Nat := wd l (j / 4) / 256 ^ (j % 4) % 256
theorem byt_lt (l : List Nat) (j : Nat) : byt l j < 256 := Nat.mod_lt _ (by decide)

theorem bval_words {l : List Nat} (hl : Lim l) (k : Nat) : bval (byt l) (4 * k) = val (l.take k) := by
  induction k with
  | zero => simp [bval, val]
  | succ k ih =>
    rw [show 4 * (k + 1) = 4 * k + 1 + 1 + 1 + 1 from by omega, bval, bval, bval, bval, ih, val_take_succ]
    have hw := hl.wd k
    have e : ∀ t, t < 4 → byt l (4 * k + t) = wd l k / 256 ^ t % 256 := by
      intro t ht; unfold byt; rw [show (4 * k + t) / 4 = k from by omega, show (4 * k + t) % 4 = t from by omega]
    have p : ∀ t, 256 ^ (4 * k + t) = W k * 256 ^ t := by
      intro t; rw [Nat.pow_add]; congr 1; unfold W; rw [Nat.pow_mul]
    have e0 := e 0 (by omega); have e1 := e 1 (by omega); have e2 := e 2 (by omega); have e3 := e 3 (by omega)
    have p0 := p 0; have p1 := p 1; have p2 := p 2; have p3 := p 3
    simp only [Nat.add_zero, Nat.add_assoc] at *
    rw [e0, e1, e2, e3, p0, p1, p2, p3]
    generalize wd l k = x at *
    have key : x = 1 * (x / 1 % 256) + 256 * (x / 256 % 256) + 65536 * (x / 65536 % 256) + 16777216 * (x / 16777216 % 256) := by omega
    have k2 := congrArg (fun t => W k * t) key
    simp only [Nat.mul_add] at k2
    simp only [show 256 ^ 0 = 1 from rfl, show 256 ^ 1 = 256 from rfl, show 256 ^ 2 = 65536 from rfl, show 256 ^ 3 = 16777216 from rfl, Nat.mul_assoc]
    omega

/-- A byte of a number. -/
theorem byt_rep (N j : Nat) : byt (rep N) j = N / 256 ^ j % 256 := by
  unfold byt
  rw [rep_wd, ← W_256 j, ← Nat.div_div_eq_div_mul]
  generalize N / W (j / 4) = Y
  have h : j % 4 < 4 := Nat.mod_lt _ (by decide)
  rw [show (4294967296 : Nat) = 256 ^ (j % 4) * (256 * 256 ^ (3 - j % 4)) from by rw [← Nat.pow_succ', ← Nat.pow_add, show j % 4 + (3 - j % 4 + 1) = 4 from by omega]]
  rw [Nat.mod_mul_right_div_self, Nat.mod_mul_right_mod]

/-- Four bytes make a word. -/
theorem word_of_bytes {l : List Nat} (hl : Lim l) (k : Nat) : byt l (4 * k) + byt l (4 * k + 1) * 256 + byt l (4 * k + 2) * 65536 + byt l (4 * k + 3) * 16777216 = wd l k := by
  have hw := hl.wd k
  have e : ∀ t, t < 4 → byt l (4 * k + t) = wd l k / 256 ^ t % 256 := by
    intro t ht; unfold byt; rw [show (4 * k + t) / 4 = k from by omega, show (4 * k + t) % 4 = t from by omega]
  have e0 := e 0 (by omega); have e1 := e 1 (by omega); have e2 := e 2 (by omega); have e3 := e 3 (by omega)
  rw [Nat.add_zero] at e0
  rw [e0, e1, e2, e3]
  simp only [show 256 ^ 0 = 1 from rfl, show 256 ^ 1 = 256 from rfl, show 256 ^ 2 = 65536 from rfl, show 256 ^ 3 = 16777216 from rfl]
  omega
end Go.Proofs.YtbffpkmfhkphdaaGreatDoor.Limb
