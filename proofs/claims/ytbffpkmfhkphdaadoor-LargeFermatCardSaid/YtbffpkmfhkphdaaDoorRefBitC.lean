/- The walk of the reference's bit. -/
import Derived.Test.YtbffpkmfhkphdaaDoorGInt
namespace Go.Proofs.YtbffpkmfhkphdaaDoor
open Go Go.RowKit Limb

set_option maxHeartbeats 400000 in
set_option maxRecDepth 100000 in
theorem ref_bit (w : World) (a : Option Addr) (l : List Nat) (n cap i : Nat) (hlay : Lay .u32 w a l) (hlim : Lim l) (hn : n = l.length) (hm : n ≤ 9223372036854775807) (hi : i ≤ 9223372036854775807) :
    Calls Tryd.prog 59 #[.slice a n cap, .int .i64 i] w fun e w' => e = .returned (.int .u32 (val l / 2 ^ i % 2 : Nat)) ∧ w = w' := by
  obtain ⟨b, off, hix, hcell, hb⟩ := hlay.use 22 52 Tryd.underlying22 size32 cap
  rw [← hn] at hix hcell
  have eb : val l / 2 ^ i % 2 = wd l (i / 32) / 2 ^ (i % 32) % 2 := by
    rw [← bit_of, rep_wd, wd_val hlim]
  rw [eb]
  obtain ⟨d, hd⟩ : ∃ d, d = i / 32 := ⟨_, rfl⟩
  obtain ⟨r, hr⟩ : ∃ r, r = i % 32 := ⟨_, rfl⟩
  have e1 : (i : Int) / 32 = d := by omega
  have e2 : (i : Int) % 32 = r := by omega
  rw [← hd, ← hr]
  have d_le : d ≤ 9223372036854775807 := by omega
  have r_lt : r < 32 := by omega
  clear hd hr eb
  have h1 := hlim.wd d
  by_cases hdn : d < n
  · have ix := hix w .i64 d (by omega) (by omega)
    have cx := hcell w (Below.refl _ _) d hdn
    rw [Int.toNat_natCast] at ix
    have d1 : decide (n ≤ d) = false := by rw [decide_eq_false_iff_not]; omega
    obtain ⟨x, hx⟩ : ∃ x, x = wd l d := ⟨_, rfl⟩
    rw [← hx] at h1 cx ⊢
    clear hix hcell hn hx hlim hlay
    have ep : (2 : Int) ^ r = ((2 ^ r : Nat) : Int) := by rw [Int.natCast_pow]; rfl
    obtain ⟨pw, hpw⟩ : ∃ pw, pw = 2 ^ r := ⟨_, rfl⟩
    have hp0 : 0 < pw := by rw [hpw]; exact Nat.pow_pos (by decide)
    rw [← hpw] at ep ⊢
    clear hpw
    obtain ⟨y, hy⟩ : ∃ y, y = x / pw := ⟨_, rfl⟩
    have ey : (x : Int) / (pw : Int) = (y : Int) := by rw [hy, Int.natCast_ediv]
    have yl : y < 4294967296 := by rw [hy]; exact Nat.lt_of_le_of_lt (Nat.div_le_self _ _) h1
    rw [← hy]
    clear hy
    go_enter Tryd.func59, Tryd.ntmps59
    go_wp2
    go_ret
    exact ⟨by first | rfl | (rw [Int.natCast_emod]; rfl), rfl⟩
  · have hz := wd_ge (l := l) (i := d) (by omega)
    have d1 : decide (n ≤ d) = true := by rw [decide_eq_true_eq]; omega
    rw [hz, Nat.zero_div]
    clear hix hcell hn hz hlim hlay h1
    go_enter Tryd.func59, Tryd.ntmps59
    go_wp2
    go_ret
    exact ⟨rfl, rfl⟩

end Go.Proofs.YtbffpkmfhkphdaaDoor
