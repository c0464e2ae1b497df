/- The walks of big.norm and big.digit. Plain arithmetic of one step of a long division, on words. Plain arithmetic: how many bits a number has. Plain arithmetic of a quotient that is made bit by bit. Numbers read from digits: plain. -/
import Derived.Test.YtbffpkmfhkphdaaGreatDoorChecked
import Derived.Test.YtbffpkmfhkphdaaGreatDoorGX01
import Derived.Lib.BitFns
import Derived.Handy
set_option linter.unusedVariables false
set_option linter.unusedSimpArgs false
namespace Go.Proofs.YtbffpkmfhkphdaaGreatDoor
open Go Go.RowKit Limb

theorem size32 (W : World) : (sizeOf 60).run Tryz.prog W = .ok 1 W := by kernel_rfl

theorem norm_step {l : List Nat} (k : Nat) (hk : k < l.length) (h : val (l.take (k + 1)) = val l) (h0 : wd l k = 0) : val (l.take k) = val l := by
  rw [← h, val_snoc_wd hk, h0]; simp
theorem norm_end {l : List Nat} (hl : Lim l) (k : Nat) (hk : k ≤ l.length) (h : val (l.take k) = val l) (h0 : k = 0 ∨ wd l (k - 1) ≠ 0) : (rep (val l)).length = k := by
  apply Nat.le_antisymm
  · rw [rep_length_le, ← h]
    have := val_lt (hl.take k); rwa [List.length_take, Nat.min_eq_left hk] at this
  · rcases h0 with h0 | h0
    · omega
    · rcases Nat.eq_zero_or_pos k with hz | hz
      · omega
      · obtain ⟨j, rfl⟩ : ∃ j, k = j + 1 := ⟨k - 1, by omega⟩
        have : W j ≤ val l := by
          rw [← h, val_snoc_wd (by omega)]
          rw [Nat.add_sub_cancel] at h0
          have := Nat.mul_le_mul_left (W j) (show 1 ≤ wd l j by omega)
          omega
        have := rep_length_lt.2 this; omega

set_option maxHeartbeats 400000 in
set_option maxRecDepth 100000 in
theorem big_norm (w : World) (a : Option Addr) (l : List Nat) (n cap : Nat) (hlay : Lay .u32 w a l) (hlim : Lim l) (hn : n = l.length) (hm : n ≤ 9223372036854775807) (hc : n ≤ cap) :
    Calls Tryz.prog 236 #[.slice a n cap] w fun e w' => e = .returned (.slice a (rep (val l)).length cap) ∧ w = w' := by
  obtain ⟨b, off, hix, hcell, hb⟩ := hlay.use 115 60 Tryz.underlying115 size32 cap
  rw [← hn] at hix hcell
  have Hn := Lib.hid hn; clear hn
  have HX := Lib.hid hix; clear hix
  have HC := Lib.hid hcell; clear hcell
  go_enter Tryz.func236, Tryz.ntmps236
  go_wp2
  go_loop [3] (fun i => ∃ k : Nat, k ≤ n ∧ i = .int .i64 k ∧ val (l.take k) = val l) (fun i => (intOf i).toNat)
  case atStart => exact ⟨n, Nat.le_refl _, rfl, by rw [Hn.out, List.take_length]⟩
  case round =>
    obtain ⟨k, hk, rfl, hv⟩ := hrel
    have Hv := Lib.hid hv; clear hv
    by_cases h0 : k = 0
    · have hd : decide (0 < k) = false := by simp [h0]
      have HR : Hid ((rep (val l)).length = k) := norm_end hlim k (by rw [← Hn.out]; exact hk) Hv.out (.inl h0)
      clear h0
      go_wp2
      go_ret
      exact ⟨by rw [HR.out]; rfl, rfl⟩
    · have hx := HX.out w .i64 ((k : Int) - 1) (by omega) (by omega)
      have hj : off + ((k : Int) - 1).toNat = off + (k - 1) := by omega
      have hcc := HC.out w (Below.refl _ _) (k - 1) (by omega)
      rw [hj] at hx
      have hpos : 0 < k := by omega
      have hd : decide (0 < k) = true := by simp; omega
      clear hj
      by_cases hz : wd l (k - 1) = 0
      · have hzb : (((wd l (k - 1) : Nat) : Int) == 0) = true := by simp [hz]
        clear h0
        go_wp2
        go_round
        case rel => exact ⟨k - 1, by omega, by go_num, by rw [← norm_step (k - 1) (by rw [← Hn.out]; omega) (by rw [show k - 1 + 1 = k from by omega]; exact Hv.out) hz]⟩
        case measure => simp [intOf]; omega
      · have hzb : (((wd l (k - 1) : Nat) : Int) == 0) = false := by simp; omega
        have HR : Hid ((rep (val l)).length = k) := norm_end hlim k (by rw [← Hn.out]; exact hk) Hv.out (.inr hz)
        clear h0 hz
        go_wp2
        go_ret
        exact ⟨by rw [HR.out]; rfl, rfl⟩

theorem big_digit (w : World) (a : Option Addr) (l : List Nat) (n cap : Nat) (j : Int) (hlay : Lay .u32 w a l) (hlim : Lim l) (hn : n = l.length) (h0 : 0 ≤ j) (h1 : j ≤ 9223372036854775807) :
    Calls Tryz.prog 237 #[.slice a n cap, .int .i64 j] w fun e w' => e = .returned (.int .u64 (wd l j.toNat : Nat)) ∧ w = w' := by
  obtain ⟨b, off, hix, hcell, hb⟩ := hlay.use 115 60 Tryz.underlying115 size32 cap
  obtain ⟨i, rfl⟩ := Int.eq_ofNat_of_zero_le h0
  rw [Int.toNat_natCast]
  by_cases h : i < l.length
  · have hx := hix w .i64 i (by omega) (by omega)
    have hc := hcell w (Below.refl _ _) i h
    have hw := hlim.wd i
    rw [Int.toNat_natCast] at hx
    clear hix hcell
    rw [← hn] at *
    clear hn
    go_enter Tryz.func237, Tryz.ntmps237
    go_wp2
    go_ret
    exact ⟨rfl, rfl⟩
  · have hz := wd_ge (show l.length ≤ i by omega)
    rw [hz]
    clear hix hcell hz
    rw [← hn] at *
    clear hn
    go_enter Tryz.func237, Tryz.ntmps237
    go_wp2
    go_ret
    exact ⟨rfl, rfl⟩

end Go.Proofs.YtbffpkmfhkphdaaGreatDoor

namespace Go.Proofs.YtbffpkmfhkphdaaGreatDoor.Limb

/-- The number of k words from the o-th on. -/
def seg (us : List Nat) (o k : Nat) : Nat := val ((us.drop o).take k)

theorem seg_zero (us : List Nat) (o : Nat) : seg us o 0 = 0 := by simp [seg, val]
theorem seg_succ (us : List Nat) (o k : Nat) : seg us o (k + 1) = seg us o k + W k * wd us (o + k) := by
  unfold seg; rw [val_take_succ, wd_drop]
theorem seg_lt {us : List Nat} (h : Lim us) (o k : Nat) : seg us o k < W k := by
  unfold seg
  refine Nat.lt_of_lt_of_le (val_lt ((h.drop o).take k)) (W_mono ?_)
  rw [List.length_take]; omega
theorem drop_set_add (us : List Nat) (o k x : Nat) : (us.set (o + k) x).drop o = (us.drop o).set k x := by
  rw [List.drop_set, if_neg (by omega), Nat.add_sub_cancel_left]
theorem seg_set_ge (us : List Nat) (o : Nat) {j k : Nat} (x : Nat) (h : j ≤ k) : seg (us.set (o + k) x) o j = seg us o j := by
  unfold seg; rw [drop_set_add, take_set_gt _ _ h]
theorem seg_set (us : List Nat) (o k x : Nat) (h : o + k < us.length) : seg (us.set (o + k) x) o (k + 1) = seg us o k + W k * x := by
  rw [seg_succ, seg_set_ge _ _ _ (Nat.le_refl k), wd_set h, if_pos rfl]

theorem seg_top (us : List Nat) (o k : Nat) : seg us o (k + 1 + 1) = (wd us (o + (k + 1)) * 4294967296 + wd us (o + k)) * W k + seg us o k := by
  rw [seg_succ, seg_succ, W_succ, Nat.add_mul, Nat.mul_comm (W k), Nat.mul_comm (wd us (o + (k + 1))) 4294967296, Nat.mul_right_comm, Nat.mul_comm _ (wd us (o + (k + 1)))]
  omega

/-- All that is asked of the first guess and of each that follows. -/
structure Guess (U V T v1 v2 u2 R : Nat) : Prop where
  hR : 0 < R
  hU1 : (T * 4294967296 + u2) * R ≤ U
  hU2 : U < (T * 4294967296 + u2 + 1) * R
  hV1 : (v1 * 4294967296 + v2) * R ≤ V
  hV2 : V < (v1 * 4294967296 + v2 + 1) * R
  hv : 2147483648 ≤ v1
  hv1 : v1 < 4294967296
  hv2 : v2 < 4294967296
  hu2 : u2 < 4294967296
  hlt : U < V * 4294967296

theorem Guess.make {us vs : List Nat} {o k : Nat} (hu : Lim us) (hv : Lim vs) (hl : vs.length = k + 1 + 1) (ht : 2147483648 ≤ wd vs (k + 1)) (hlt : seg us o (k + 1 + 1 + 1) < val vs * 4294967296) :
    Guess (seg us o (k + 1 + 1 + 1)) (val vs) (wd us (o + (k + 1 + 1)) * 4294967296 + wd us (o + (k + 1))) (wd vs (k + 1)) (wd vs k) (wd us (o + k)) (W k) := by
  have eu : seg us o (k + 1 + 1 + 1) = ((wd us (o + (k + 1 + 1)) * 4294967296 + wd us (o + (k + 1))) * 4294967296 + wd us (o + k)) * W k + seg us o k := by
    rw [seg_top us o (k + 1), seg_succ, W_succ, Nat.add_mul _ _ (W k), Nat.mul_assoc, Nat.mul_comm (W k)]
    omega
  have ev : val vs = (wd vs (k + 1) * 4294967296 + wd vs k) * W k + val (vs.take k) := by
    have h := seg_top vs 0 k
    unfold seg at h
    rw [List.drop_zero, List.take_of_length_le (by omega), Nat.zero_add, Nat.zero_add] at h
    exact h
  have h1 := seg_lt hu o k
  have h2 := val_lt (hv.take k)
  rw [List.length_take, Nat.min_eq_left (by omega)] at h2
  refine ⟨W_pos k, by omega, ?_, by omega, ?_, ht, hv.wd _, hv.wd _, hu.wd _, hlt⟩
  · rw [Nat.add_mul _ 1 (W k), Nat.one_mul]; omega
  · rw [Nat.add_mul _ 1 (W k), Nat.one_mul]; omega

section
variable {U V T v1 v2 u2 R g r : Nat} (G : Guess U V T v1 v2 u2 R)
include G
theorem Guess.vpos : 0 < V := Nat.lt_of_lt_of_le (Nat.mul_pos (by have := G.hv; omega) G.hR) G.hV1
theorem Guess.qlt : U / V < 4294967296 := by
  rw [Nat.div_lt_iff_lt_mul G.vpos, Nat.mul_comm]; exact G.hlt
theorem Guess.first : U / V ≤ T / v1 := by
  refine guess_ge (R := 4294967296 * R) (Nat.mul_pos (by decide) G.hR) ?_ ?_ (by have := G.hv; omega)
  · refine Nat.lt_of_lt_of_le G.hU2 ?_
    rw [← Nat.mul_assoc]
    exact Nat.mul_le_mul_right R (by have := G.hu2; omega)
  · refine Nat.le_trans ?_ G.hV1
    rw [← Nat.mul_assoc]
    exact Nat.mul_le_mul_right R (by omega)
theorem Guess.high (hT : g * v1 + r = T) (ht : r * 4294967296 + u2 < g * v2) : U / V ≤ g - 1 := by
  have := guess_high G.hU2 G.hV1 hT ht rfl; omega
theorem Guess.big (hg : 4294967296 ≤ g) : U / V ≤ g - 1 := by have := G.qlt; omega
theorem Guess.near (hT : g * v1 + r = T) (hg : g < 4294967296) (ht : g * v2 ≤ r * 4294967296 + u2) : g ≤ U / V + 1 :=
  guess_near G.hU1 G.hV1 G.hV2 hT ht hg G.hv G.hR
theorem Guess.small {u0 u1 : Nat} (hT : g * v1 + r = T) (hTd : T = u0 * 4294967296 + u1) (hu1 : u1 < 4294967296) (hr : 4294967296 ≤ r) : g < 4294967296 := by
  refine guess_small hT hTd ?_ hu1 hr
  have h1 : U < V * 4294967296 := G.hlt
  have h2 : V * 4294967296 ≤ (v1 + 1) * 4294967296 * R * 4294967296 := by
    refine Nat.mul_le_mul_right _ (Nat.le_trans (Nat.le_of_lt G.hV2) (Nat.mul_le_mul_right R ?_))
    have := G.hv2; omega
  have h3 : u0 * 4294967296 * 4294967296 * R ≤ U := by
    refine Nat.le_trans (Nat.mul_le_mul_right R ?_) G.hU1
    rw [hTd, Nat.add_mul, Nat.add_assoc]; exact Nat.le_add_right _ _
  have h4 : u0 * 4294967296 * 4294967296 * R < (v1 + 1) * 4294967296 * 4294967296 * R := by
    have e : (v1 + 1) * 4294967296 * R * 4294967296 = (v1 + 1) * 4294967296 * 4294967296 * R := by rw [Nat.mul_right_comm]
    omega
  have := Nat.lt_of_mul_lt_mul_right h4
  omega
theorem Guess.broke (hT : g * v1 + r = T) (hg : g < 4294967296) (hr : 4294967296 ≤ r) : g ≤ U / V + 1 := by
  refine G.near hT hg ?_
  have := Nat.mul_le_mul (show g ≤ 4294967295 by omega) (show v2 ≤ 4294967295 by have := G.hv2; omega)
  omega
end

/-- One word of 'u less the guess times v'. -/
theorem mul_step {us us0 vs : List Nat} {o i g c b : Nat} (hz : o + i < us.length) (hw : wd us (o + i) = wd us0 (o + i)) (hb : b ≤ 1) (hu : wd us (o + i) < 4294967296)
    (h : seg us o i + g * val (vs.take i) = seg us0 o i + (c + b) * W i) :
    seg (us.set (o + i) ((wd us (o + i) + 4294967296 - (c + g * wd vs i) % 4294967296 - b) % 4294967296)) o (i + 1) + g * val (vs.take (i + 1)) =
      seg us0 o (i + 1) + ((c + g * wd vs i) / 4294967296 + (if wd us (o + i) < (c + g * wd vs i) % 4294967296 + b then 1 else 0)) * W (i + 1) := by
  rw [seg_set _ _ _ _ hz, seg_succ us0, val_take_succ, W_succ, ← hw]
  have hd := Nat.div_add_mod (c + g * wd vs i) 4294967296
  have hm : (c + g * wd vs i) % 4294967296 < 4294967296 := Nat.mod_lt _ (by decide)
  generalize (c + g * wd vs i) / 4294967296 = q at *
  generalize (c + g * wd vs i) % 4294967296 = lo at *
  generalize wd us (o + i) = u at *
  have key : (u + 4294967296 - lo - b) % 4294967296 + lo + b = u + (if u < lo + b then 1 else 0) * 4294967296 := by split <;> omega
  generalize (if u < lo + b then 1 else 0) = b' at *
  generalize (u + 4294967296 - lo - b) % 4294967296 = nw at *
  have k1 := congrArg (fun t => W i * t) key
  have k2 := congrArg (fun t => W i * t) hd
  simp only [Nat.mul_add] at k1 k2
  have e1 : W i * (b' * 4294967296) = b' * (4294967296 * W i) := by rw [Nat.mul_comm, Nat.mul_assoc]
  have e2 : W i * (4294967296 * q) = q * (4294967296 * W i) := by rw [Nat.mul_comm, Nat.mul_right_comm, Nat.mul_comm (4294967296 * _)]
  have e3 : W i * (g * wd vs i) = g * (W i * wd vs i) := Nat.mul_left_comm _ _ _
  have e4 : W i * c = c * W i := Nat.mul_comm _ _
  have e5 : W i * b = b * W i := Nat.mul_comm _ _
  rw [Nat.add_mul] at h
  rw [Nat.mul_add, Nat.add_mul]
  omega

/-- The guess was right. -/
theorem mul_end_ok {us us0 vs : List Nat} {o n g c b : Nat} (hV : vs.length = n) (hz : o + n < us.length) (hw : wd us (o + n) = wd us0 (o + n)) (hd : c + b ≤ wd us (o + n))
    (h : seg us o n + g * val (vs.take n) = seg us0 o n + (c + b) * W n) (hq : seg us0 o (n + 1) / val vs ≤ g) (hp : 0 < val vs) :
    g = seg us0 o (n + 1) / val vs ∧ seg (us.set (o + n) (wd us (o + n) - c - b)) o (n + 1) = seg us0 o (n + 1) % val vs := by
  rw [List.take_of_length_le (by omega)] at h
  have e : seg (us.set (o + n) (wd us (o + n) - c - b)) o (n + 1) + g * val vs = seg us0 o (n + 1) := by
    rw [seg_set _ _ _ _ hz, seg_succ us0, ← hw, show wd us (o + n) - c - b = wd us (o + n) - (c + b) from by omega, Nat.mul_sub, Nat.mul_comm (W n) (c + b)]
    have := Nat.mul_le_mul_left (W n) hd
    rw [Nat.mul_comm (W n) (c + b)] at this
    omega
  have hle : g ≤ seg us0 o (n + 1) / val vs := by rw [Nat.le_div_iff_mul_le hp]; omega
  have hg : g = seg us0 o (n + 1) / val vs := Nat.le_antisymm hle hq
  refine ⟨hg, ?_⟩
  have h2 := Nat.div_add_mod (seg us0 o (n + 1)) (val vs)
  rw [← hg, Nat.mul_comm] at h2
  omega

/-- The guess was one too great: what u holds then. -/
theorem mul_end_neg {us us0 vs : List Nat} {o n g c b : Nat} (hl : Lim us) (hV : vs.length = n) (hz : o + n < us.length) (hw : wd us (o + n) = wd us0 (o + n)) (hd : wd us (o + n) < c + b) (hc : c < 4294967296) (hb : b ≤ 1)
    (h : seg us o n + g * val (vs.take n) = seg us0 o n + (c + b) * W n) (hq : g ≤ seg us0 o (n + 1) / val vs + 1) (hp : 0 < val vs) :
    g = seg us0 o (n + 1) / val vs + 1 ∧
      seg (us.set (o + n) ((wd us (o + n) + 4294967296 - c - b) % 4294967296)) o (n + 1) + val vs = seg us0 o (n + 1) % val vs + W (n + 1) := by
  rw [List.take_of_length_le (by omega)] at h
  have hu := hl.wd (o + n)
  have e : seg (us.set (o + n) ((wd us (o + n) + 4294967296 - c - b) % 4294967296)) o (n + 1) + g * val vs = seg us0 o (n + 1) + W (n + 1) := by
    rw [seg_set _ _ _ _ hz, seg_succ us0, ← hw, W_succ]
    have k : (wd us (o + n) + 4294967296 - c - b) % 4294967296 + (c + b) = wd us (o + n) + 4294967296 := by omega
    have k1 := congrArg (fun t => W n * t) k
    simp only [Nat.mul_add] at k1
    rw [Nat.add_mul] at h
    have e1 : W n * c = c * W n := Nat.mul_comm _ _
    have e2 : W n * b = b * W n := Nat.mul_comm _ _
    omega
  have hlt := seg_lt (hl.set (i := o + n) (d := (wd us (o + n) + 4294967296 - c - b) % 4294967296) (Nat.mod_lt _ (by decide))) o (n + 1)
  have hgt : seg us0 o (n + 1) / val vs < g := by
    rw [Nat.div_lt_iff_lt_mul hp]; omega
  have hg : g = seg us0 o (n + 1) / val vs + 1 := by omega
  refine ⟨hg, ?_⟩
  have h2 := Nat.div_add_mod (seg us0 o (n + 1)) (val vs)
  rw [hg, Nat.add_mul, Nat.one_mul, Nat.mul_comm (_ / _)] at e
  omega

/-- One word of 'v comes back'. -/
theorem back_step {us us1 vs : List Nat} {o i c : Nat} (hz : o + i < us.length) (hw : wd us (o + i) = wd us1 (o + i))
    (h : seg us o i + c * W i = seg us1 o i + val (vs.take i)) :
    seg (us.set (o + i) ((c + (wd us (o + i) + wd vs i)) % 4294967296)) o (i + 1) + (c + (wd us (o + i) + wd vs i)) / 4294967296 * W (i + 1) = seg us1 o (i + 1) + val (vs.take (i + 1)) := by
  rw [seg_set _ _ _ _ hz, seg_succ us1, val_take_succ, W_succ, ← hw]
  have hd := Nat.div_add_mod (c + (wd us (o + i) + wd vs i)) 4294967296
  generalize (c + (wd us (o + i) + wd vs i)) / 4294967296 = q at *
  generalize (c + (wd us (o + i) + wd vs i)) % 4294967296 = m at *
  have k2 := congrArg (fun t => W i * t) hd
  simp only [Nat.mul_add] at k2
  have e2 : W i * (4294967296 * q) = q * (4294967296 * W i) := by rw [Nat.mul_comm, Nat.mul_right_comm, Nat.mul_comm (4294967296 * _)]
  have e4 : W i * c = c * W i := Nat.mul_comm _ _
  omega

theorem back_end {us us1 vs : List Nat} {o n c R : Nat} (hl : Lim us) (hV : vs.length = n) (hz : o + n < us.length) (hw : wd us (o + n) = wd us1 (o + n))
    (h : seg us o n + c * W n = seg us1 o n + val (vs.take n)) (h1 : seg us1 o (n + 1) + val vs = R + W (n + 1)) (hR : R < W n) :
    seg (us.set (o + n) ((wd us (o + n) + c) % 4294967296)) o (n + 1) = R := by
  rw [List.take_of_length_le (by omega)] at h
  rw [seg_set _ _ _ _ hz]
  rw [seg_succ, ← hw, W_succ] at h1
  have hu := hl.wd (o + n)
  have hs := seg_lt hl o n
  have e : seg us o n + W n * (wd us (o + n) + c) = R + W n * 4294967296 := by
    rw [Nat.mul_add, Nat.mul_comm (W n) c]; omega
  have h3 : wd us (o + n) + c = 4294967296 := by
    have k1 := W_pos n
    have a1 : W n * (wd us (o + n) + c) < W n * 4294967297 := by omega
    have a2 : W n * 4294967295 < W n * (wd us (o + n) + c) := by omega
    have b1 := Nat.lt_of_mul_lt_mul_left a1
    have b2 := Nat.lt_of_mul_lt_mul_left a2
    omega
  rw [h3] at e ⊢
  rw [Nat.mod_self]; omega
end Go.Proofs.YtbffpkmfhkphdaaGreatDoor.Limb

namespace Go.Proofs.YtbffpkmfhkphdaaGreatDoor.Limb
theorem bitLenAux_spec (f x : Nat) (h : x < 2 ^ f) : x < 2 ^ Lib.bitLenAux f x ∧ (x ≠ 0 → 2 ^ (Lib.bitLenAux f x - 1) ≤ x) ∧ Lib.bitLenAux f x ≤ f := by
  induction f generalizing x with
  | zero => simp [Lib.bitLenAux] at *; omega
  | succ f ih =>
    by_cases h0 : x = 0
    · subst h0; simp [Lib.bitLenAux]
    · have ih' := ih (x / 2) (by rw [Nat.pow_succ] at h; omega)
      have e : Lib.bitLenAux (f + 1) x = Lib.bitLenAux f (x / 2) + 1 := by simp [Lib.bitLenAux, h0]; omega
      rw [e]
      obtain ⟨h1, h2, h3⟩ := ih'
      refine ⟨by rw [Nat.pow_succ]; omega, fun _ => ?_, by omega⟩
      rw [Nat.add_sub_cancel]
      by_cases hx : x / 2 = 0
      · have : x = 1 := by omega
        subst this
        have : Lib.bitLenAux f (1 / 2) = 0 := by cases f <;> simp [Lib.bitLenAux]
        rw [this]; decide
      · have h4 := h2 hx
        have h5 : Lib.bitLenAux f (x / 2) ≠ 0 := by
          intro e0; rw [e0] at h1; simp at h1; omega
        obtain ⟨m, hm⟩ : ∃ m, Lib.bitLenAux f (x / 2) = m + 1 := ⟨_, (Nat.succ_pred_eq_of_ne_zero h5).symm⟩
        rw [hm] at h4 ⊢
        rw [Nat.add_sub_cancel] at h4
        rw [Nat.pow_succ]; omega
theorem bitLen32 {x : Nat} (h : x < 4294967296) : x < 2 ^ Lib.bitLen x ∧ (x ≠ 0 → 2 ^ (Lib.bitLen x - 1) ≤ x) ∧ Lib.bitLen x ≤ 32 ∧ (x ≠ 0 → 1 ≤ Lib.bitLen x) := by
  obtain ⟨h1, h2, _⟩ := bitLenAux_spec 64 x (Nat.lt_of_lt_of_le h (by decide))
  have h3 : x ≠ 0 → 1 ≤ Lib.bitLen x := fun hx => by
    rcases Nat.eq_zero_or_pos (Lib.bitLen x) with e | e
    · unfold Lib.bitLen at e; rw [e] at h1; simp at h1; omega
    · exact e
  refine ⟨h1, h2, ?_, h3⟩
  by_cases hx : x = 0
  · subst hx; decide
  · have h4 := h2 hx
    rcases Nat.lt_or_ge 32 (Lib.bitLen x) with h5 | h5
    · exfalso
      have := Nat.pow_le_pow_right (n := 2) (by decide) (show 32 ≤ Lib.bitLenAux 64 x - 1 by unfold Lib.bitLen at h5; omega)
      have e : 2 ^ 32 = 4294967296 := rfl
      omega
    · exact h5
/-- How many bits a number has. -/
def bitsN (n : Nat) : Nat := if n = 0 then 0 else Nat.log2 n + 1
theorem bitsN_zero : bitsN 0 = 0 := rfl
theorem bitsN_spec (n : Nat) : n < 2 ^ bitsN n ∧ (n ≠ 0 → 2 ^ (bitsN n - 1) ≤ n) := by
  unfold bitsN
  split
  · subst n; simp
  · rename_i h
    refine ⟨Nat.lt_log2_self, fun _ => ?_⟩
    rw [Nat.add_sub_cancel]; exact Nat.log2_self_le h
theorem bitsN_unique {n b : Nat} (h1 : n < 2 ^ b) (h2 : n ≠ 0 → 2 ^ (b - 1) ≤ n) (h0 : n = 0 → b = 0) : bitsN n = b := by
  by_cases h : n = 0
  · rw [h0 h, h]; rfl
  · obtain ⟨k1, k2⟩ := bitsN_spec n
    have a := (Nat.pow_lt_pow_iff_right (show 1 < 2 by decide)).1 (Nat.lt_of_le_of_lt (h2 h) k1)
    have b' := (Nat.pow_lt_pow_iff_right (show 1 < 2 by decide)).1 (Nat.lt_of_le_of_lt (k2 h) h1)
    have hb : b ≠ 0 := by intro e; subst e; simp at h1; omega
    have hB : bitsN n ≠ 0 := by intro e; rw [e] at k1; simp at k1; omega
    omega
theorem bitsN_le {n b : Nat} : bitsN n ≤ b ↔ n < 2 ^ b := by
  obtain ⟨k1, k2⟩ := bitsN_spec n
  constructor
  · intro h; exact Nat.lt_of_lt_of_le k1 (Nat.pow_le_pow_right (by decide) h)
  · intro h
    by_cases h0 : n = 0
    · rw [h0]; exact Nat.zero_le _
    · have := (Nat.pow_lt_pow_iff_right (show 1 < 2 by decide)).1 (Nat.lt_of_le_of_lt (k2 h0) h)
      omega
/-- The bits of a list whose last word is not 0. -/
theorem bitsN_val {l : List Nat} {k : Nat} (hl : Lim l) (hk : l.length = k + 1) (h0 : wd l k ≠ 0) : bitsN (val l) = 32 * k + Lib.bitLen (wd l k) := by
  have e := val_snoc_wd (l := l) (k := k) (by omega)
  rw [List.take_of_length_le (by omega)] at e
  have h1 := val_lt (hl.take k)
  rw [List.length_take, Nat.min_eq_left (by omega)] at h1
  obtain ⟨b1, b2, b3, b4⟩ := bitLen32 (hl.wd k)
  have p := W_pos k
  apply bitsN_unique
  · rw [Nat.pow_add, ← W_two, e]
    have := Nat.mul_le_mul_left (W k) (show wd l k + 1 ≤ 2 ^ Lib.bitLen (wd l k) from b1)
    rw [Nat.mul_add] at this; omega
  · intro _
    rw [show 32 * k + Lib.bitLen (wd l k) - 1 = 32 * k + (Lib.bitLen (wd l k) - 1) from by have := b4 h0; omega, Nat.pow_add, ← W_two, e]
    have := Nat.mul_le_mul_left (W k) (b2 h0)
    omega
  · intro h
    exfalso
    have := Nat.mul_le_mul_left (W k) (show 1 ≤ wd l k by omega)
    omega
theorem norm_last {l : List Nat} {k : Nat} (hn : Norm l) (hk : l.length = k + 1) : wd l k ≠ 0 := by
  intro h
  apply hn
  rw [List.getLast?_eq_getElem?, hk, Nat.add_sub_cancel, List.getElem?_eq_getElem (by omega), ← wd_lt (by omega), h]
end Go.Proofs.YtbffpkmfhkphdaaGreatDoor.Limb

namespace Go.Proofs.YtbffpkmfhkphdaaGreatDoor.Limb
open Go

/-- The upper part of A, down to bit i, over B: the quotient's bits so far, and the remainder. -/
structure PInv (A B i : Nat) (qs : List Nat) (r : Nat) : Prop where
  eq : A / 2 ^ i = val qs / 2 ^ i * B + r
  lt : r < B
  low : val qs % 2 ^ i = 0

theorem PInv.start {A B n : Nat} (hB : 0 < B) (hA : A < 2 ^ (32 * n)) : PInv A B (32 * n) (List.replicate n 0) 0 :=
  ⟨by rw [Nat.div_eq_of_lt hA, val_replicate, Nat.zero_div, Nat.zero_mul], hB, by rw [val_replicate, Nat.zero_mod]⟩
theorem PInv.done {A B : Nat} {qs : List Nat} {r : Nat} (h : PInv A B 0 qs r) : val qs = A / B ∧ r = A % B := by
  have e := h.eq
  rw [Nat.pow_zero, Nat.div_one, Nat.div_one] at e
  have hl := h.lt
  rw [e, Nat.mul_comm, Nat.mul_add_div (by omega), Nat.mul_add_mod, Nat.div_eq_of_lt hl, Nat.mod_eq_of_lt hl]
  exact ⟨rfl, rfl⟩
theorem up_bit (A i : Nat) : A / 2 ^ i = 2 * (A / 2 ^ (i + 1)) + A / 2 ^ i % 2 := by
  rw [Nat.pow_succ, ← Nat.div_div_eq_div_mul]; omega
theorem low_bit {V i : Nat} (h : V % 2 ^ (i + 1) = 0) : V % 2 ^ i = 0 ∧ V / 2 ^ i = 2 * (V / 2 ^ (i + 1)) := by
  have h1 := Nat.div_add_mod V (2 ^ (i + 1))
  rw [h, Nat.add_zero] at h1
  have h2 : V = 2 ^ i * (2 * (V / 2 ^ (i + 1))) := by
    conv => lhs; rw [← h1]
    rw [← Nat.mul_assoc, ← Nat.pow_succ]
  constructor
  · rw [h2]; exact Nat.mul_mod_right _ _
  · conv => lhs; rw [h2]
    exact Nat.mul_div_cancel_left _ (Nat.pow_pos (by decide))
theorem PInv.small {A B i : Nat} {qs : List Nat} {r : Nat} (h : PInv A B (i + 1) qs r) (hr : r + r + A / 2 ^ i % 2 < B) : PInv A B i qs (r + r + A / 2 ^ i % 2) := by
  obtain ⟨l1, l2⟩ := low_bit h.low
  refine ⟨?_, hr, l1⟩
  have u := up_bit A i
  have e := h.eq
  generalize A / 2 ^ i % 2 = b at *
  rw [u, e, l2, Nat.mul_add, Nat.mul_assoc]
  generalize val qs / 2 ^ (i + 1) * B = t at *
  omega
theorem PInv.great {A B i : Nat} {qs qs' : List Nat} {r : Nat} (h : PInv A B (i + 1) qs r) (hr : B ≤ r + r + A / 2 ^ i % 2) (hq : val qs' = val qs + 2 ^ i) : PInv A B i qs' (r + r + A / 2 ^ i % 2 - B) := by
  obtain ⟨l1, l2⟩ := low_bit h.low
  have hp : 0 < 2 ^ i := Nat.pow_pos (by decide)
  have hlt := h.lt
  have hb2 : A / 2 ^ i % 2 < 2 := Nat.mod_lt _ (by decide)
  refine ⟨?_, by omega, by rw [hq, Nat.add_mod_right]; exact l1⟩
  have u := up_bit A i
  have e := h.eq
  generalize A / 2 ^ i % 2 = b at *
  have k : ∀ v, (2 * v).succ * B = 2 * (v * B) + B := fun v => by rw [Nat.succ_mul, Nat.mul_assoc]
  rw [u, e, hq, Nat.add_div_right _ hp, l2, k, Nat.mul_add]
  generalize val qs / 2 ^ (i + 1) * B = t at *
  omega

/-- The bit i of a list whose bits from i down are 0. -/
theorem set_bit {qs : List Nat} {i : Nat} (hl : Lim qs) (hi : i / 32 < qs.length) (h : val qs % 2 ^ (i + 1) = 0) :
    wd qs (i / 32) % 2 ^ (i % 32 + 1) = 0 ∧ wd qs (i / 32) + 2 ^ (i % 32) < 4294967296 ∧ val (qs.set (i / 32) (wd qs (i / 32) + 2 ^ (i % 32))) = val qs + 2 ^ i := by
  have hw := wd_val hl (i / 32)
  have hlt := hl.wd (i / 32)
  have hr : i % 32 < 32 := Nat.mod_lt _ (by decide)
  generalize hd : i / 32 = d at *
  generalize hrr : i % 32 = r at *
  have hi2 : 2 ^ i = 2 ^ r * W d := by rw [pow_split i, hd, hrr]
  have e1 : 2 ^ (i + 1) = W d * 2 ^ (r + 1) := by rw [Nat.pow_succ, hi2, Nat.pow_succ, Nat.mul_comm (2 ^ r), Nat.mul_assoc]
  have hz : wd qs d % 2 ^ (r + 1) = 0 := by
    rw [hw, show 4294967296 = 2 ^ (r + 1) * 2 ^ (31 - r) from by rw [← Nat.pow_add, show r + 1 + (31 - r) = 32 from by omega], Nat.mod_mul_right_mod]
    rw [e1, Nat.mod_mul] at h
    have h2 : W d * (val qs / W d % 2 ^ (r + 1)) = 0 := by omega
    rcases Nat.mul_eq_zero.1 h2 with h3 | h3
    · have := W_pos d; omega
    · exact h3
  refine ⟨hz, ?_, ?_⟩
  · have e2 : (2 : Nat) ^ (r + 1) * 2 ^ (31 - r) = 4294967296 := by rw [← Nat.pow_add, show r + 1 + (31 - r) = 32 from by omega]
    have e3 : (2 : Nat) ^ (r + 1) = 2 ^ r + 2 ^ r := by rw [Nat.pow_succ]; omega
    have hp : 0 < 2 ^ r := Nat.pow_pos (by decide)
    have h4 := Nat.div_add_mod (wd qs d) (2 ^ (r + 1))
    rw [hz, Nat.add_zero] at h4
    have h5 : wd qs d / 2 ^ (r + 1) < 2 ^ (31 - r) := by
      rw [Nat.div_lt_iff_lt_mul (by omega), Nat.mul_comm, e2]; exact hlt
    have h6 := Nat.mul_le_mul_left (2 ^ (r + 1)) (show wd qs d / 2 ^ (r + 1) + 1 ≤ 2 ^ (31 - r) from h5)
    rw [Nat.mul_add, Nat.mul_one, e2] at h6
    omega
  · have t1 := val_take_drop (qs.set d (wd qs d + 2 ^ r)) (d + 1) (by rw [List.length_set]; omega)
    have t2 := val_take_drop qs (d + 1) (by omega)
    rw [val_set_take _ hi, List.drop_set_of_lt (by omega)] at t1
    rw [val_take_succ] at t2
    rw [t1, t2, hi2, Nat.mul_add, Nat.mul_comm (W d) (2 ^ r)]
    omega

theorem part_or {z r : Nat} (hr : r < 32) (hz : z % 2 ^ (r + 1) = 0) (hl : z + 2 ^ r < 4294967296) : bits .or .u32 (z : Int) ((2 ^ r : Nat) : Int) = ((z + 2 ^ r : Nat) : Int) := by
  have hp : 2 ^ r < 2 ^ (r + 1) := Nat.pow_lt_pow_right (by decide) (by omega)
  rw [u32_or_nat _ _ (by omega) (by omega), nat_join (r + 1) _ _ hz hp]

end Go.Proofs.YtbffpkmfhkphdaaGreatDoor.Limb

namespace Go.Proofs.YtbffpkmfhkphdaaGreatDoor.Limb

/-- A digit's value, of a byte: of ten digits and the great letters; 99: it is none. -/
def dgt (c : Nat) : Nat := if 48 ≤ c ∧ c ≤ 57 then c - 48 else if 65 ≤ c ∧ c ≤ 90 then c - 55 else 99

/-- The number of digits, the highest ahead, n being what stands before them. -/
def numF (b n : Nat) (l : List Nat) : Nat := l.foldl (fun n c => n * b + dgt c) n
theorem numF_nil (b n : Nat) : numF b n [] = n := rfl
theorem numF_cons (b n c : Nat) (l : List Nat) : numF b n (c :: l) = numF b (n * b + dgt c) l := rfl
theorem numF_append (b n : Nat) (l r : List Nat) : numF b n (l ++ r) = numF b (numF b n l) r := by unfold numF; rw [List.foldl_append]
theorem numF_snoc (b n : Nat) (l : List Nat) (c : Nat) : numF b n (l ++ [c]) = numF b n l * b + dgt c := by rw [numF_append]; rfl
theorem numF_ge {b : Nat} (hb : 1 ≤ b) : ∀ (l : List Nat) (n : Nat), n * b ^ l.length ≤ numF b n l
  | [], n => by rw [numF_nil, List.length_nil, Nat.pow_zero, Nat.mul_one]; exact Nat.le_refl _
  | c :: l, n => by
    rw [numF_cons, List.length_cons, Nat.pow_succ, Nat.mul_comm (b ^ l.length), ← Nat.mul_assoc]
    exact Nat.le_trans (Nat.mul_le_mul_right _ (Nat.le_add_right _ _)) (numF_ge hb l _)
theorem numF_le {b : Nat} (hb : 1 ≤ b) (l : List Nat) (n : Nat) : n ≤ numF b n l := by
  refine Nat.le_trans ?_ (numF_ge hb l n)
  have := Nat.mul_le_mul_left n (Nat.one_le_pow l.length b hb)
  rwa [Nat.mul_one] at this
/-- Of a number that begins with a digit above 0. -/
theorem numF_long {b c : Nat} {l : List Nat} (hb : 1 ≤ b) (hc : 1 ≤ dgt c) : b ^ l.length ≤ numF b 0 (c :: l) := by
  rw [numF_cons, Nat.zero_mul, Nat.zero_add]
  have := numF_ge hb l (dgt c)
  have h2 := Nat.mul_le_mul_right (b ^ l.length) hc
  rw [Nat.one_mul] at h2
  exact Nat.le_trans h2 this
theorem numF_noughts (b : Nat) : ∀ (l r : List Nat), (∀ c ∈ l, c = 48) → numF b 0 (l ++ r) = numF b 0 r
  | [], r, _ => rfl
  | c :: l, r, h => by
    have hc := h c (by simp)
    subst hc
    rw [List.cons_append, numF_cons, show dgt 48 = 0 from rfl, Nat.zero_mul, Nat.zero_add]
    exact numF_noughts b l r (fun c hc => h c (by simp [hc]))

/-- The digits of a number, written as great signs, are the number. -/
def usgn (d : Nat) : Nat := if d < 10 then 48 + d else 55 + d
theorem dgt_usgn {d : Nat} (h : d < 36) : dgt (usgn d) = d := by
  unfold dgt usgn
  split <;> rename_i h1
  · rw [if_pos (by omega)]; omega
  · rw [if_neg (by omega), if_pos (by omega)]; omega
theorem numF_digs {b : Nat} (hb : 2 ≤ b) (h36 : b ≤ 36) (n : Nat) : numF b 0 ((digs b n).reverse.map usgn) = n := by
  induction n using Nat.strongRecOn with
  | ind n ih =>
    by_cases hn : n = 0
    · subst hn; rw [digs_zero]; rfl
    · rw [digs_pos hb (by omega), List.reverse_cons, List.map_append, List.map_cons, List.map_nil, numF_snoc, ih _ (Nat.div_lt_self (by omega) (by omega)), dgt_usgn (by have := Nat.mod_lt n (show 0 < b by omega); omega)]
      have := Nat.div_add_mod n b
      rw [Nat.mul_comm] at this; exact this

/-- A number times b, d added, in place: k words are done, c is carried. -/
structure Put (b d : Nat) (m : List Nat) (k : Nat) (cur : List Nat) (c : Nat) : Prop where
  len : cur.length = m.length
  rest : ∀ i, k ≤ i → wd cur i = wd m i
  lim : Lim cur
  car : c < b
  eq : val (cur.take k) + W k * c = b * val (m.take k) + d
theorem Put.start {b d : Nat} {m : List Nat} (hm : Lim m) (hd : d < b) : Put b d m 0 m d := ⟨rfl, fun _ _ => rfl, hm, hd, by simp [val, W_zero]⟩
theorem put_x {b c w : Nat} (hw : w < 4294967296) (hc : c < b) : (w * b + c) / 4294967296 < b := by
  rw [Nat.div_lt_iff_lt_mul (by decide)]
  have : w * b ≤ 4294967295 * b := Nat.mul_le_mul_right b (by omega)
  omega
theorem Put.step {b d k c : Nat} {m cur : List Nat} (h : Put b d m k cur c) (hm : Lim m) (hk : k < m.length) :
    Put b d m (k + 1) (cur.set k ((wd m k * b + c) % 4294967296)) ((wd m k * b + c) / 4294967296) := by
  have hkc : k < cur.length := by rw [h.len]; exact hk
  refine ⟨by rw [List.length_set, h.len], fun i hi => ?_, h.lim.set (Nat.mod_lt _ (by decide)), put_x (hm.wd k) h.car, ?_⟩
  · rw [wd_set hkc, if_neg (by omega)]; exact h.rest i (by omega)
  · rw [val_set_take _ hkc, val_take_succ m k, W_succ]
    have e := h.eq
    have ex := Nat.div_add_mod (wd m k * b + c) 4294967296
    generalize (wd m k * b + c) / 4294967296 = q at ex ⊢
    generalize (wd m k * b + c) % 4294967296 = r at ex ⊢
    generalize val (cur.take k) = A at e ⊢
    generalize val (m.take k) = M at e ⊢
    generalize W k = w at e ⊢
    generalize wd m k = x at ex ⊢
    have h1 : w * (4294967296 * q + r) = w * (x * b + c) := by rw [ex]
    rw [Nat.mul_add, Nat.mul_add] at h1
    rw [Nat.mul_add b]
    have h2 : 4294967296 * w * q = w * (4294967296 * q) := by rw [Nat.mul_comm 4294967296 w, Nat.mul_assoc]
    have h3 : b * (w * x) = w * (x * b) := by rw [Nat.mul_left_comm, Nat.mul_comm b x]
    omega
theorem Put.done {b d V c : Nat} {cur : List Nat} (hb : 1 ≤ b) (h : Put b d (rep V) (rep V).length cur c) :
    (c = 0 → cur = rep (V * b + d)) ∧ (0 < c → b ≤ 4294967296 → cur ++ [c] = rep (V * b + d)) := by
  have e := h.eq
  rw [List.take_of_length_le (by rw [h.len]; exact Nat.le_refl _), List.take_of_length_le (Nat.le_refl _), val_rep, Nat.mul_comm b] at e
  refine ⟨fun hc => ?_, fun hc hb2 => ?_⟩
  · rw [hc, Nat.mul_zero, Nat.add_zero] at e
    have h1 : (rep V).length ≤ (rep (V * b + d)).length := rep_mono (by
      have := Nat.mul_le_mul_left V hb
      omega)
    have h2 : rep (V * b + d) = cur.take (rep (V * b + d)).length := by rw [← e]; exact rep_prefix h.lim
    rw [h2, List.take_of_length_le (by rw [h.len]; exact h1)]
  · have e2 : val (cur ++ [c]) = V * b + d := by rw [val_snoc, h.len]; exact e
    rw [← e2]
    refine (rep_val (h.lim.append (Lim.cons (by have := h.car; omega) Lim.nil)) ?_).symm
    unfold Norm
    rw [List.getLast?_append]
    simp; omega

end Go.Proofs.YtbffpkmfhkphdaaGreatDoor.Limb
