/- The walk of FillBytes of package big's integers. -/
import Derived.Test.YtbffpkmfhkphdaaDoorSetBytesC
namespace Go.Proofs.YtbffpkmfhkphdaaDoor
open Go Go.RowKit Limb

theorem Lay.notRow {w : World} {a : Option Addr} {l bs : List Nat} {g : Nat} {e : TypeId} {K K' : IntKind} (h : Lay K w a l) (hr : Row w g e (nums K' bs)) (hk : K ≠ K') : 0 < l.length → ∀ b off, a = some ⟨b, off, none⟩ → b ∉ [g] := by
  intro hl b off e hm
  rw [List.mem_singleton] at hm
  subst hm
  obtain ⟨b', off', h1, h2⟩ := h
  have h3 := (h1 hl).1
  rw [e] at h3
  simp only [Option.some.injEq, Addr.mk.injEq, and_true] at h3
  obtain ⟨rfl, rfl⟩ := h3
  have h4 := h2 0 hl
  rw [hr.cell_at] at h4
  obtain ⟨hlt, h5⟩ := List.getElem?_eq_some_iff.1 h4
  rw [nums_length] at hlt
  simp only [nums, List.getElem_map] at h5
  injection h5 with h6
  exact hk h6.symm

set_option maxHeartbeats 1600000 in
set_option maxRecDepth 100000 in
theorem int_fillbytes (w : World) (q g : Nat) (z : Int) (bs : List Nat) (L cap : Nat) (hq : IntAt w q z) (hr : Row w g 5 (nums .u8 bs)) (hL : bs.length = L) (hqg : q ≠ g) (hm : L ≤ 1099511627776) (hs : (rep z.natAbs).length ≤ 68719476736) :
    Calls Tryd.prog 67 #[.pointer (some ⟨q, 0, none⟩), .slice (some ⟨g, 0, none⟩) L cap] w fun e w' => e = .returned (.slice (some ⟨g, 0, none⟩) L cap) ∧ Only [g] w w' ∧
      ∃ bs', Row w' g 5 (nums .u8 bs') ∧ bs'.length = L ∧ ∀ j, j < L → wd bs' (L - 1 - j) = byt (rep z.natAbs) j := by
  obtain ⟨b, a, n, cap1, Hb, Hn, hc, hl, hcells⟩ := hq.use
  have hng := hl.notRow hr (by decide)
  have h1 : ∀ w', Only [g] w w' → w'.cell? ⟨q, 1, none⟩ = some (.slice a n cap1) ∧ Lay .u32 w' a (rep z.natAbs) := by
    intro w' ho
    rw [World.cell?_of_block (a := ⟨q, 1, none⟩) (ho.block q hq.lt (by simp; exact hqg))]
    exact ⟨(hcells w (Only.refl _ _)).2, hl.only ho hng⟩
  rw [← Hn.out] at hs
  have H1 := Lib.hid h1; clear h1 hcells hng
  have HL := Lib.hid hL; clear hL
  go_enter Tryd.func67, Tryd.ntmps67
  go_wp2
  go_loopw [8] (fun i wr => ∃ (k : Nat) (bs' : List Nat), k ≤ L ∧ i = .int .i64 k ∧ bs'.length = L ∧ Row wr g 5 (nums .u8 bs') ∧ (∀ j, j < k → wd bs' (L - 1 - j) = byt (rep z.natAbs) j) ∧ Only [g] w wr) (fun i _ => L - (intOf i).toNat)
  case atStart => exact ⟨0, bs, by omega, rfl, HL.out, hr, fun j hj => absurd hj (by omega), Only.refl _ _⟩
  case round =>
    obtain ⟨k, bs', hk, rfl, hl', hr', hd, ho⟩ := hrel
    obtain ⟨c1, hlr⟩ := H1.out wr ho
    have HL' := Lib.hid hl'; clear hl'
    have HD := Lib.hid hd; clear hd
    by_cases hlt : k < L
    · obtain ⟨d, hd⟩ : ∃ d, d = k / 4 := ⟨_, rfl⟩
      obtain ⟨r, hrr⟩ : ∃ r, r = k % 4 := ⟨_, rfl⟩
      have e1 : (k : Int) / 4 = d := by omega
      have e2 : (k : Int) % 4 = r := by omega
      have r_lt : r < 4 := by omega
      have b_x := (rep_lim z.natAbs).wd d
      have hby : byt (rep z.natAbs) k = wd (rep z.natAbs) d / 256 ^ r % 256 := by unfold byt; rw [← hd, ← hrr]
      have HB := Lib.hid hby; clear hby
      have Hd := Lib.hid hd; clear hd
      clear hrr
      have hdig := big_digit wr a (rep z.natAbs) n cap1 ((k : Int) / 4) hlr (rep_lim _) Hn.out (by omega) (by omega)
      rw [e1, Int.toNat_natCast] at hdig
      obtain ⟨x, hx⟩ : ∃ x, x = wd (rep z.natAbs) d := ⟨_, rfl⟩
      rw [← hx] at b_x hdig HB
      have HDg := Lib.hid hdig; clear hdig hx
      have ep : (2 : Int) ^ (8 * r) = ((256 ^ r : Nat) : Int) := by rw [← pow8, Int.natCast_pow]; rfl
      obtain ⟨pw, hpw⟩ : ∃ pw, pw = 256 ^ r := ⟨_, rfl⟩
      have hp0 : 0 < pw := by rw [hpw]; exact Nat.pow_pos (by decide)
      rw [← hpw] at ep HB
      clear hpw
      have ig := row_index (P := Tryd.prog) Tryd.underlying80 size8 g L cap .i64 ((L : Int) - 1 - k) (L - 1 - k) (by omega) (by omega)
      have hcell := hr'.cell (i := L - 1 - k) (by rw [HL'.out]; omega)
      have hfk := hr'.free (L - 1 - k)
      have q0 : (0 : Int) ≤ (x : Int) / (pw : Int) := by rw [← Int.natCast_ediv]; exact Int.natCast_nonneg _
      go_wp2_with (go_at_call 85; (try simp only [e1]); refine HDg.out.mono ?_; rintro e w' ⟨rfl, rfl⟩)
      go_roundw
      case rel => exact ⟨k + 1, bs'.set (L - 1 - k) (x / pw % 256), by omega, by go_num, by rw [List.length_set, HL'.out], hr'.store _ _ _ (by rw [Int.natCast_emod, Int.natCast_ediv]; rfl), fun j hj => by
        rw [wd_set (by rw [HL'.out]; omega)]
        by_cases hjk : j = k
        · rw [hjk, if_pos rfl, HB.out]
        · rw [if_neg (by omega)]; exact HD.out j (by omega), ho.setCell (by simp) _⟩
      case measure => simp [intOf]; omega
    · obtain rfl : k = L := by omega
      go_wp2
      go_ret
      exact ⟨rfl, ho, bs', hr', HL'.out, HD.out⟩

end Go.Proofs.YtbffpkmfhkphdaaDoor
