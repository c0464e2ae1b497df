/- The walks of Neg, Abs, Sign, BitLen, Bit, Cmp of package big's integers. -/
import Derived.Test.YtbffpkmfhkphdaaGreatDoorIntC
import Derived.StillTailTactics
import Derived.Deep.RegionWith
set_option linter.unusedVariables false
set_option linter.unusedSimpArgs false
namespace Go.Proofs.YtbffpkmfhkphdaaGreatDoor
open Go Go.RowKit Limb

theorem Lay.drew {K : IntKind} {w : World} {a : Option Addr} {l : List Nat} (h : Lay K w a l) : Lay K w.drew a l := h
theorem IntAt.drew {w : World} {p : Nat} {z : Int} (h : IntAt w p z) : IntAt w.drew p z := h
theorem Only.of_drew {ps : List Nat} {w w' : World} (h : Only ps w.drew w') : Only ps w w' := ⟨h.os, h.tape, h.output, h.size, h.block⟩
theorem below_of_drew {w w' : World} (h : Below w.drew.heap.size w.drew w') : Below w.heap.size w w' := ⟨h.os, h.tape, h.output, h.size, h.block⟩

/-- What a walk uses of an integer. -/
theorem IntAt.use {w : World} {p : Nat} {z : Int} (h : IntAt w p z) : ∃ b a n cap, Hid (b = decide (z < 0)) ∧ Hid (n = (rep z.natAbs).length) ∧ n ≤ cap ∧ Lay .u32 w a (rep z.natAbs) ∧
    (∀ w', Only [] w w' → w'.cell? ⟨p, 0, none⟩ = some (.bool b) ∧ w'.cell? ⟨p, 1, none⟩ = some (.slice a n cap)) := by
  obtain ⟨a, cap, hr, hl, hc⟩ := h
  refine ⟨_, a, _, cap, rfl, rfl, hc, hl, fun w' ho => ?_⟩
  have := hr.only ho (by simp)
  exact ⟨this.cell_at 0, this.cell_at 1⟩

set_option maxRecDepth 100000 in
theorem int_neg (w : World) (p q : Nat) (y z : Int) (hp : IntAt w p y) (hq : IntAt w q z) (hs : (rep z.natAbs).length ≤ 68719476736) :
    Calls Tryz.prog 74 #[.pointer (some ⟨p, 0, none⟩), .pointer (some ⟨q, 0, none⟩)] w fun e w' => IntRes w w' e p (-z) := by
  obtain ⟨b, a, n, cap, Hb, Hn, hc, hl, hcells⟩ := hq.use
  obtain ⟨c0, c1⟩ := hcells w (Only.refl _ _)
  have HC := Lib.hid hcells; clear hcells
  rw [← Hn.out] at hs
  go_enter Tryz.func74, Tryz.ntmps74
  go_wp2
  go_region_with (first | (go_at_call 155; refine (big_clone _ a (rep z.natAbs) n cap ?_ Hn.out (by omega)).mono ?_; exact hl.drew; rintro e w1 ⟨a', c', rfl, h1, h2, h3⟩; have c0' := (HC.out w1 (Only.of_below (below_of_drew h3))).1) | (go_at_call 148; refine (big_made _ p y (-z) _ _ n _ ?_ ?_ ?_ ?_ ?_).mono ?_; exact hp.drew.below h3; rw [Int.natAbs_neg]; assumption; rw [Int.natAbs_neg]; exact Hn.out; assumption; rw [Hb.out]; (constructor <;> intro h <;> simp at h <;> omega); rintro e w2 ⟨rfl, h4, h5⟩))
  all_goals go_wp2
  all_goals go_ret
  all_goals exact ⟨rfl, h4, (Only.of_below (below_of_drew h3)).trans h5 (by simp)⟩

set_option maxRecDepth 100000 in
theorem int_abs (w : World) (p q : Nat) (y z : Int) (hp : IntAt w p y) (hq : IntAt w q z) (hs : (rep z.natAbs).length ≤ 68719476736) :
    Calls Tryz.prog 85 #[.pointer (some ⟨p, 0, none⟩), .pointer (some ⟨q, 0, none⟩)] w fun e w' => IntRes w w' e p (z.natAbs : Int) := by
  obtain ⟨b, a, n, cap, Hb, Hn, hc, hl, hcells⟩ := hq.use
  obtain ⟨c0, c1⟩ := hcells w (Only.refl _ _)
  clear hcells
  rw [← Hn.out] at hs
  go_enter Tryz.func85, Tryz.ntmps85
  go_wp2_with fail
  refine (big_clone _ a (rep z.natAbs) n cap hl Hn.out (by omega)).mono ?_
  rintro e w1 ⟨a', c', rfl, h1, h2, h3⟩
  go_wp2_with fail
  refine (big_made _ p y (z.natAbs : Int) _ _ n _ (hp.below h3) (by rw [Int.natAbs_natCast]; exact h2) (by rw [Int.natAbs_natCast]; exact Hn.out) h1 (by constructor <;> intro h <;> simp at h <;> omega)).mono ?_
  rintro e w2 ⟨rfl, h4, h5⟩
  go_wp2
  go_ret
  exact ⟨rfl, h4, (Only.of_below h3).trans h5 (by simp)⟩

def sgnI (z : Int) : Int := if z < 0 then -1 else if z = 0 then 0 else 1

set_option maxRecDepth 100000 in
theorem int_sign (w : World) (q : Nat) (z : Int) (hq : IntAt w q z) :
    Calls Tryz.prog 61 #[.pointer (some ⟨q, 0, none⟩)] w fun e w' => e = .returned (.int .i64 (sgnI z)) ∧ w = w' := by
  obtain ⟨b, a, n, cap, Hb, Hn, hc, hl, hcells⟩ := hq.use
  obtain ⟨c0, c1⟩ := hcells w (Only.refl _ _)
  clear hcells
  have hz0 : n = 0 ↔ z = 0 := by rw [Hn.out, rep_length_zero]; omega
  by_cases hneg : z < 0
  · have : b = true := by rw [Hb.out]; simpa using hneg
    subst this
    have e : sgnI z = -1 := by unfold sgnI; rw [if_pos hneg]
    rw [e]
    clear hz0 e hneg
    go_enter Tryz.func61, Tryz.ntmps61
    go_wp2
    go_ret
    exact ⟨rfl, rfl⟩
  · have : b = false := by rw [Hb.out]; simpa using hneg
    subst this
    by_cases hz : z = 0
    · have hn : n = 0 := hz0.2 hz
      have e : sgnI z = 0 := by unfold sgnI; rw [if_neg hneg, if_pos hz]
      rw [e]
      clear hz0 e hneg hz Hn
      subst hn
      go_enter Tryz.func61, Tryz.ntmps61
      go_wp2
      go_ret
      exact ⟨rfl, rfl⟩
    · have hn : n ≠ 0 := fun h => hz (hz0.1 h)
      have e : sgnI z = 1 := by unfold sgnI; rw [if_neg hneg, if_neg hz]
      have hq : ((n : Int) == 0) = false := by rw [beq_eq_false_iff_ne]; omega
      rw [e]
      clear hz0 e hneg hz
      go_enter Tryz.func61, Tryz.ntmps61
      go_wp2
      go_ret
      exact ⟨rfl, rfl⟩

set_option maxRecDepth 100000 in
theorem int_bitlen (w : World) (q : Nat) (z : Int) (hq : IntAt w q z) (hs : (rep z.natAbs).length ≤ 68719476736) :
    Calls Tryz.prog 81 #[.pointer (some ⟨q, 0, none⟩)] w fun e w' => e = .returned (.int .i64 (bitsN z.natAbs : Nat)) ∧ w = w' := by
  obtain ⟨b, a, n, cap, Hb, Hn, hc, hl, hcells⟩ := hq.use
  obtain ⟨c0, c1⟩ := hcells w (Only.refl _ _)
  clear hcells
  rw [← Hn.out] at hs
  go_enter Tryz.func81, Tryz.ntmps81
  go_wp2_with fail
  refine (big_length _ a (rep z.natAbs) n cap hl (rep_lim _) (rep_norm _) Hn.out (by omega)).mono ?_
  rw [val_rep]
  rintro e w' ⟨rfl, rfl⟩
  go_wp2
  go_ret
  exact ⟨rfl, rfl⟩

theorem bit_of {N i : Nat} : wd (rep N) (i / 32) / 2 ^ (i % 32) % 2 = N / 2 ^ i % 2 := by
  rw [rep_wd, show 4294967296 = 2 ^ (i % 32) * (2 * 2 ^ (31 - i % 32)) from by rw [← Nat.pow_succ', ← Nat.pow_add, show i % 32 + (31 - i % 32 + 1) = 32 from by omega],
    Nat.mod_mul_right_div_self, Nat.mod_mul_right_mod, Nat.div_div_eq_div_mul, Nat.mul_comm, ← pow_split]

set_option maxRecDepth 100000 in
theorem int_bit (w : World) (q i : Nat) (z : Int) (hq : IntAt w q z) (hi : i ≤ 9223372036854775807) :
    Calls Tryz.prog 159 #[.pointer (some ⟨q, 0, none⟩), .int .i64 i] w fun e w' => e = .returned (.int .u64 (z.natAbs / 2 ^ i % 2 : Nat)) ∧ w = w' := by
  obtain ⟨b, a, n, cap, Hb, Hn, hc, hl, hcells⟩ := hq.use
  obtain ⟨c0, c1⟩ := hcells w (Only.refl _ _)
  clear hcells
  rw [← bit_of]
  obtain ⟨d, hd⟩ : ∃ d, d = i / 32 := ⟨_, rfl⟩
  obtain ⟨r, hr⟩ : ∃ r, r = i % 32 := ⟨_, rfl⟩
  have e1 : (i : Int) / 32 = d := by omega
  have e2 : (i : Int) % 32 = r := by omega
  rw [← hd, ← hr]
  have d_le : d ≤ 9223372036854775807 := by omega
  have r_lt : r < 32 := by omega
  clear hd hr
  have h1 := (rep_lim z.natAbs).wd d
  obtain ⟨x, hx⟩ : ∃ x, x = wd (rep z.natAbs) d := ⟨_, rfl⟩
  rw [← hx] at h1 ⊢
  have hdig := big_digit w a (rep z.natAbs) n cap d hl (rep_lim _) Hn.out (by omega) (by omega)
  rw [Int.toNat_natCast, ← hx] at hdig
  have HD := Lib.hid hdig; clear hdig hx
  have ep : (2 : Int) ^ r = ((2 ^ r : Nat) : Int) := by rw [Int.natCast_pow]; rfl
  obtain ⟨pw, hpw⟩ : ∃ pw, pw = 2 ^ r := ⟨_, rfl⟩
  have hp0 : 0 < pw := by rw [hpw]; exact Nat.pow_pos (by decide)
  rw [← hpw] at ep ⊢
  clear hpw
  have eand : bits .and .u64 ((x : Int) / (pw : Int)) 1 = ((x / pw % 2 : Nat) : Int) := by
    have h := Nat.div_le_self x pw
    rw [← Int.natCast_ediv]
    generalize x / pw = t at *
    rw [and_one_u64 _ (by omega) (by omega), Int.natCast_emod]; rfl
  obtain ⟨bt, hbt⟩ : ∃ bt, bt = x / pw % 2 := ⟨_, rfl⟩
  rw [← hbt] at eand ⊢
  clear hbt
  go_enter Tryz.func159, Tryz.ntmps159
  go_wp2_with (go_at_call 237; refine HD.out.mono ?_; rintro e w' ⟨rfl, rfl⟩)
  go_ret
  exact ⟨rfl, rfl⟩

end Go.Proofs.YtbffpkmfhkphdaaGreatDoor
