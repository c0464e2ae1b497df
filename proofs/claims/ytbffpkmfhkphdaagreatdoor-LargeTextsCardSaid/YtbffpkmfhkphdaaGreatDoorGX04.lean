/- The walks of big.norm and big.digit. Plain arithmetic: how many bits a number has. -/
import Derived.Test.YtbffpkmfhkphdaaGreatDoorChecked
import Derived.Test.YtbffpkmfhkphdaaGreatDoorGX01
import Derived.Test.YtbffpkmfhkphdaaGreatDoorGX02
import Derived.Lib.BitFns
set_option linter.unusedVariables false
set_option linter.unusedSimpArgs false
namespace Go.Proofs.YtbffpkmfhkphdaaGreatDoor
open Go Go.RowKit Limb

theorem size32 (W : World) : (sizeOf 60).run Tryz.prog W = .ok 1 W := by kernel_rfl

theorem norm_step {l : List Nat} (k : Nat) (hk : k < l.length) (h : val (l.take (k + 1)) = val l) (h0 : wd l k = 0) : val (l.take k) = val l := by
  rw [← h, val_snoc_wd hk, h0]; simp
theorem norm_end {l : List Nat} (hl : Lim l) (k : Nat) (hk : k ≤ l.length) (h : val (l.take k) = val l) (h0 : k = 0 ∨ wd l (k - 1) ≠ 0) : (rep (val l)).length = k := by
  apply Nat.le_antisymm
  · rw [rep_length_le, ← h]
    have := val_lt (hl.take k); rwa [List.length_take, Nat.min_eq_left hk] at this
  · rcases h0 with h0 | h0
    · omega
    · rcases Nat.eq_zero_or_pos k with hz | hz
      · omega
      · obtain ⟨j, rfl⟩ : ∃ j, k = j + 1 := ⟨k - 1, by omega⟩
        have : W j ≤ val l := by
          rw [← h, val_snoc_wd (by omega)]
          rw [Nat.add_sub_cancel] at h0
          have := Nat.mul_le_mul_left (W j) (show 1 ≤ wd l j by omega)
          omega
        have := rep_length_lt.2 this; omega

set_option maxHeartbeats 400000 in
set_option maxRecDepth 100000 in
theorem big_norm (w : World) (a : Option Addr) (l : List Nat) (n cap : Nat) (hlay : Lay .u32 w a l) (hlim : Lim l) (hn : n = l.length) (hm : n ≤ 9223372036854775807) (hc : n ≤ cap) :
    Calls Tryz.prog 236 #[.slice a n cap] w fun e w' => e = .returned (.slice a (rep (val l)).length cap) ∧ w = w' := by
  obtain ⟨b, off, hix, hcell, hb⟩ := hlay.use 115 60 Tryz.underlying115 size32 cap
  rw [← hn] at hix hcell
  have Hn := Lib.hid hn; clear hn
  have HX := Lib.hid hix; clear hix
  have HC := Lib.hid hcell; clear hcell
  go_enter Tryz.func236, Tryz.ntmps236
  go_wp2
  go_loop [3] (fun i => ∃ k : Nat, k ≤ n ∧ i = .int .i64 k ∧ val (l.take k) = val l) (fun i => (intOf i).toNat)
  case atStart => exact ⟨n, Nat.le_refl _, rfl, by rw [Hn.out, List.take_length]⟩
  case round =>
    obtain ⟨k, hk, rfl, hv⟩ := hrel
    have Hv := Lib.hid hv; clear hv
    by_cases h0 : k = 0
    · have hd : decide (0 < k) = false := by simp [h0]
      have HR : Hid ((rep (val l)).length = k) := norm_end hlim k (by rw [← Hn.out]; exact hk) Hv.out (.inl h0)
      clear h0
      go_wp2
      go_ret
      exact ⟨by rw [HR.out]; rfl, rfl⟩
    · have hx := HX.out w .i64 ((k : Int) - 1) (by omega) (by omega)
      have hj : off + ((k : Int) - 1).toNat = off + (k - 1) := by omega
      have hcc := HC.out w (Below.refl _ _) (k - 1) (by omega)
      rw [hj] at hx
      have hpos : 0 < k := by omega
      have hd : decide (0 < k) = true := by simp; omega
      clear hj
      by_cases hz : wd l (k - 1) = 0
      · have hzb : (((wd l (k - 1) : Nat) : Int) == 0) = true := by simp [hz]
        clear h0
        go_wp2
        go_round
        case rel => exact ⟨k - 1, by omega, by go_num, by rw [← norm_step (k - 1) (by rw [← Hn.out]; omega) (by rw [show k - 1 + 1 = k from by omega]; exact Hv.out) hz]⟩
        case measure => simp [intOf]; omega
      · have hzb : (((wd l (k - 1) : Nat) : Int) == 0) = false := by simp; omega
        have HR : Hid ((rep (val l)).length = k) := norm_end hlim k (by rw [← Hn.out]; exact hk) Hv.out (.inr hz)
        clear h0 hz
        go_wp2
        go_ret
        exact ⟨by rw [HR.out]; rfl, rfl⟩

theorem big_digit (w : World) (a : Option Addr) (l : List Nat) (n cap : Nat) (j : Int) (hlay : Lay .u32 w a l) (hlim : Lim l) (hn : n = l.length) (h0 : 0 ≤ j) (h1 : j ≤ 9223372036854775807) :
    Calls Tryz.prog 237 #[.slice a n cap, .int .i64 j] w fun e w' => e = .returned (.int .u64 (wd l j.toNat : Nat)) ∧ w = w' := by
  obtain ⟨b, off, hix, hcell, hb⟩ := hlay.use 115 60 Tryz.underlying115 size32 cap
  obtain ⟨i, rfl⟩ := Int.eq_ofNat_of_zero_le h0
  rw [Int.toNat_natCast]
  by_cases h : i < l.length
  · have hx := hix w .i64 i (by omega) (by omega)
    have hc := hcell w (Below.refl _ _) i h
    have hw := hlim.wd i
    rw [Int.toNat_natCast] at hx
    clear hix hcell
    rw [← hn] at *
    clear hn
    go_enter Tryz.func237, Tryz.ntmps237
    go_wp2
    go_ret
    exact ⟨rfl, rfl⟩
  · have hz := wd_ge (show l.length ≤ i by omega)
    rw [hz]
    clear hix hcell hz
    rw [← hn] at *
    clear hn
    go_enter Tryz.func237, Tryz.ntmps237
    go_wp2
    go_ret
    exact ⟨rfl, rfl⟩

end Go.Proofs.YtbffpkmfhkphdaaGreatDoor

namespace Go.Proofs.YtbffpkmfhkphdaaGreatDoor.Limb
theorem bitLenAux_spec (f x : Nat) (h : x < 2 ^ f) : x < 2 ^ Lib.bitLenAux f x ∧ (x ≠ 0 → 2 ^ (Lib.bitLenAux f x - 1) ≤ x) ∧ Lib.bitLenAux f x ≤ f := by
  induction f generalizing x with
  | zero => simp [Lib.bitLenAux] at *; omega
  | succ f ih =>
    by_cases h0 : x = 0
    · subst h0; simp [Lib.bitLenAux]
    · have ih' := ih (x / 2) (by rw [Nat.pow_succ] at h; omega)
      have e : Lib.bitLenAux (f + 1) x = Lib.bitLenAux f (x / 2) + 1 := by simp [Lib.bitLenAux, h0]; omega
      rw [e]
      obtain ⟨h1, h2, h3⟩ := ih'
      refine ⟨by rw [Nat.pow_succ]; omega, fun _ => ?_, by omega⟩
      rw [Nat.add_sub_cancel]
      by_cases hx : x / 2 = 0
      · have : x = 1 := by omega
        subst this
        have : Lib.bitLenAux f (1 / 2) = 0 := by cases f <;> simp [Lib.bitLenAux]
        rw [this]; decide
      · have h4 := h2 hx
        have h5 : Lib.bitLenAux f (x / 2) ≠ 0 := by
          intro e0; rw [e0] at h1; simp at h1; omega
        obtain ⟨m, hm⟩ : ∃ m, Lib.bitLenAux f (x / 2) = m + 1 := ⟨_, (Nat.succ_pred_eq_of_ne_zero h5).symm⟩
        rw [hm] at h4 ⊢
        rw [Nat.add_sub_cancel] at h4
        rw [Nat.pow_succ]; omega
theorem bitLen32 {x : Nat} (h : x < 4294967296) : x < 2 ^ Lib.bitLen x ∧ (x ≠ 0 → 2 ^ (Lib.bitLen x - 1) ≤ x) ∧ Lib.bitLen x ≤ 32 ∧ (x ≠ 0 → 1 ≤ Lib.bitLen x) := by
  obtain ⟨h1, h2, _⟩ := bitLenAux_spec 64 x (Nat.lt_of_lt_of_le h (by decide))
  have h3 : x ≠ 0 → 1 ≤ Lib.bitLen x := fun hx => by
    rcases Nat.eq_zero_or_pos (Lib.bitLen x) with e | e
    · unfold Lib.bitLen at e; rw [e] at h1; simp at h1; omega
    · exact e
  refine ⟨h1, h2, ?_, h3⟩
  by_cases hx : x = 0
  · subst hx; decide
  · have h4 := h2 hx
    rcases Nat.lt_or_ge 32 (Lib.bitLen x) with h5 | h5
    · exfalso
      have := Nat.pow_le_pow_right (n := 2) (by decide) (show 32 ≤ Lib.bitLenAux 64 x - 1 by unfold Lib.bitLen at h5; omega)
      have e : 2 ^ 32 = 4294967296 := rfl
      omega
    · exact h5
/-- How many bits a number has. -/
def bitsN (n : Nat) : Nat := if n = 0 then 0 else Nat.log2 n + 1
theorem bitsN_zero : bitsN 0 = 0 := rfl
theorem bitsN_spec (n : Nat) : n < 2 ^ bitsN n ∧ (n ≠ 0 → 2 ^ (bitsN n - 1) ≤ n) := by
  unfold bitsN
  split
  · subst n; simp
  · rename_i h
    refine ⟨Nat.lt_log2_self, fun _ => ?_⟩
    rw [Nat.add_sub_cancel]; exact Nat.log2_self_le h
theorem bitsN_unique {n b : Nat} (h1 : n < 2 ^ b) (h2 : n ≠ 0 → 2 ^ (b - 1) ≤ n) (h0 : n = 0 → b = 0) : bitsN n = b := by
  by_cases h : n = 0
  · rw [h0 h, h]; rfl
  · obtain ⟨k1, k2⟩ := bitsN_spec n
    have a := (Nat.pow_lt_pow_iff_right (show 1 < 2 by decide)).1 (Nat.lt_of_le_of_lt (h2 h) k1)
    have b' := (Nat.pow_lt_pow_iff_right (show 1 < 2 by decide)).1 (Nat.lt_of_le_of_lt (k2 h) h1)
    have hb : b ≠ 0 := by intro e; subst e; simp at h1; omega
    have hB : bitsN n ≠ 0 := by intro e; rw [e] at k1; simp at k1; omega
    omega
theorem bitsN_le {n b : Nat} : bitsN n ≤ b ↔ n < 2 ^ b := by
  obtain ⟨k1, k2⟩ := bitsN_spec n
  constructor
  · intro h; exact Nat.lt_of_lt_of_le k1 (Nat.pow_le_pow_right (by decide) h)
  · intro h
    by_cases h0 : n = 0
    · rw [h0]; exact Nat.zero_le _
    · have := (Nat.pow_lt_pow_iff_right (show 1 < 2 by decide)).1 (Nat.lt_of_le_of_lt (k2 h0) h)
      omega
/-- The bits of a list whose last word is not 0. -/
theorem bitsN_val {l : List Nat} {k : Nat} (hl : Lim l) (hk : l.length = k + 1) (h0 : wd l k ≠ 0) : bitsN (val l) = 32 * k + Lib.bitLen (wd l k) := by
  have e := val_snoc_wd (l := l) (k := k) (by omega)
  rw [List.take_of_length_le (by omega)] at e
  have h1 := val_lt (hl.take k)
  rw [List.length_take, Nat.min_eq_left (by omega)] at h1
  obtain ⟨b1, b2, b3, b4⟩ := bitLen32 (hl.wd k)
  have p := W_pos k
  apply bitsN_unique
  · rw [Nat.pow_add, ← W_two, e]
    have := Nat.mul_le_mul_left (W k) (show wd l k + 1 ≤ 2 ^ Lib.bitLen (wd l k) from b1)
    rw [Nat.mul_add] at this; omega
  · intro _
    rw [show 32 * k + Lib.bitLen (wd l k) - 1 = 32 * k + (Lib.bitLen (wd l k) - 1) from by have := b4 h0; omega, Nat.pow_add, ← W_two, e]
    have := Nat.mul_le_mul_left (W k) (b2 h0)
    omega
  · intro h
    exfalso
    have := Nat.mul_le_mul_left (W k) (show 1 ≤ wd l k by omega)
    omega
theorem norm_last {l : List Nat} {k : Nat} (hn : Norm l) (hk : l.length = k + 1) : wd l k ≠ 0 := by
  intro h
  apply hn
  rw [List.getLast?_eq_getElem?, hk, Nat.add_sub_cancel, List.getElem?_eq_getElem (by omega), ← wd_lt (by omega), h]
end Go.Proofs.YtbffpkmfhkphdaaGreatDoor.Limb
