/- The walk of (*Int).Mod of package big. -/
import Derived.Test.YtbffpkmfhkphdaaGreatDoorNewIntC
namespace Go.Proofs.YtbffpkmfhkphdaaGreatDoor
open Go Go.RowKit Limb

theorem emod_of_tmod (x : Int) {y : Int} (hy : y ≠ 0) : (x.tmod y < 0 → ((x % y).natAbs = y.natAbs - (x.tmod y).natAbs ∧ (x.tmod y).natAbs ≤ y.natAbs)) ∧ (0 ≤ x.tmod y → (x % y).natAbs = (x.tmod y).natAbs) := by
  have e := Int.mul_tdiv_add_tmod x y
  have e' := Int.mul_ediv_add_emod x y
  have hb : (x.tmod y).natAbs < y.natAbs := by rw [tmod_abs]; exact Nat.mod_lt _ (by omega)
  have h1 := Int.emod_nonneg x hy
  have h2 := Int.emod_lt x hy
  generalize x.tdiv y = q at e
  generalize x.tmod y = r at e hb ⊢
  generalize x / y = q' at e'
  generalize x % y = r' at e' h1 h2 ⊢
  have h3 : y * (q - q') = r' - r := by rw [Int.mul_sub]; omega
  have key : ∀ k : Int, y * k = r' - r → k = 0 ∨ (k = 1 ∨ k = -1) := by
    intro k hk
    by_cases h0 : k = 0
    · exact .inl h0
    · right
      have hn : (y * k).natAbs = y.natAbs * k.natAbs := Int.natAbs_mul _ _
      have hlt : (r' - r).natAbs < 2 * y.natAbs := by omega
      rw [hk] at hn
      have : k.natAbs < 2 := by
        refine Nat.lt_of_not_le (fun hc => ?_)
        have := Nat.mul_le_mul_left y.natAbs hc
        omega
      omega
  rcases key _ h3 with h | h | h <;> rw [h] at h3 <;> constructor <;> intro _ <;> omega

set_option maxHeartbeats 1600000 in
set_option maxRecDepth 100000 in
theorem int_mod (w : World) (p q r : Nat) (v x y : Int) (hp : IntAt w p v) (hq : IntAt w q x) (hr : IntAt w r y) (hy : y ≠ 0) (lx : (rep x.natAbs).length ≤ 68719476736) (ly : (rep y.natAbs).length ≤ 68719476736) :
    Calls Tryz.prog 86 #[.pointer (some ⟨p, 0, none⟩), .pointer (some ⟨q, 0, none⟩), .pointer (some ⟨r, 0, none⟩)] w fun e w' => IntRes w w' e p (x % y) := by
  obtain ⟨b2, a2, n2, cap2, Hb2, Hn2, hc2, hl2, hcells2⟩ := hr.use
  obtain ⟨c0, c1⟩ := hcells2 w (Only.refl _ _)
  clear hcells2
  have lY : n2 ≤ 1099511627776 := by rw [Hn2.out]; exact Nat.le_trans ly (by decide)
  obtain ⟨hneg, hpos⟩ := emod_of_tmod x hy
  have hem := Int.emod_nonneg x hy
  have lr : (rep (x.tmod y).natAbs).length ≤ 68719476736 := by rw [tmod_abs]; exact Nat.le_trans (rep_mono (Nat.le_of_lt (Nat.mod_lt _ (by omega)))) ly
  go_enter Tryz.func86, Tryz.ntmps86
  go_wp2_with fail
  refine (big_clone _ a2 (rep y.natAbs) n2 cap2 hl2 Hn2.out lY).mono ?_
  rintro e w1 ⟨a3, c3, rfl, g1, g2, g3⟩
  obtain ⟨X, hX⟩ : ∃ X, X = (w1.alloc (.cells #[.bool false, .slice none 0 0] 117)).alloc (.cells #[.bool false, .slice none 0 0] 117) := ⟨_, rfl⟩
  have hB : Below w1.heap.size w1 X := by rw [hX]; exact ((Below.refl _ _).alloc (Nat.le_refl _) _).alloc (by rw [World.size_alloc]; omega) _
  have hA1 : IntAt X w1.heap.size 0 := by rw [hX]; exact (IntAt.new w1).below ((Below.refl _ _).alloc (Nat.le_refl _) _)
  have hA2 : IntAt X (w1.heap.size + 1) 0 := by rw [hX]; have := IntAt.new (w1.alloc (.cells #[.bool false, .slice none 0 0] 117)); rw [World.size_alloc] at this; exact this
  have hsz := hB.size
  have hsw := g3.size
  have hwX : Below w.heap.size w X := g3.trans (hB.mono hsw)
  have HQ := Lib.hid (int_quorem X w1.heap.size q r (w1.heap.size + 1) 0 0 x y hA1 (hq.below hwX) (hr.below hwX) hA2 (by omega) hy lx ly)
  have HX := Lib.hid hX; clear hX hA1 hA2
  go_wp2_with fail
  rw [← HX.out]
  refine HQ.out.mono ?_
  rintro e w2 ⟨rfl, k1, k2, k3⟩
  have hx2 : Below w1.heap.size w1 w2 := hB.trans (k3.belowB hsz (by intro z hz; simp only [List.mem_cons, List.not_mem_nil, or_false] at hz; omega))
  have hw2 : Below w.heap.size w w2 := g3.trans (hx2.mono hsw)
  have hlY := g2.below hx2
  have hp2 := hp.below hw2
  obtain ⟨b4, a4, n4, cap4, Hb4, Hn4, hc4, hl4, hcells4⟩ := k2.use
  obtain ⟨d0, d1⟩ := hcells4 w2 (Only.refl _ _)
  clear hcells4 HX HQ k1 k3 c0 c1
  have hb4 := Hb4.out
  have l4 : n4 ≤ 1099511627776 := by rw [Hn4.out]; exact Nat.le_trans lr (by decide)
  by_cases hn : x.tmod y < 0
  · obtain ⟨hE, hL⟩ := hneg hn
    have hbt : b4 = true := by rw [hb4]; simpa using hn
    subst hbt
    clear hb4 Hb4 hneg hpos hn
    go_wp2_with fail
    refine (big_less' _ _ _ y.natAbs (x.tmod y).natAbs n2 n4 c3 cap4 hlY hl4 Hn2.out Hn4.out lY hL).mono ?_
    rintro e w3 ⟨a5, c5, n5, rfl, hn5, hc5, hl5, hb5⟩
    rw [← hE] at hn5 hl5
    have Hn5 := Lib.hid hn5; clear hn5
    have HE := Lib.hid hE; clear hE
    go_wp2_with fail
    refine (big_made _ p v (x % y) false a5 n5 c5 (hp2.below hb5) hl5 Hn5.out hc5 ⟨(fun h => by (cases h)), fun _ => hem⟩).mono ?_
    rintro e w4 ⟨rfl, m1, m2⟩
    go_wp2
    go_ret
    exact ⟨rfl, m1, (Only.of_below (hw2.trans (hb5.mono hw2.size))).trans m2 (by simp)⟩
  · have hE := hpos (by omega)
    have hbt : b4 = false := by rw [hb4]; simpa using hn
    subst hbt
    rw [← hE] at hl4 Hn4
    clear hb4 Hb4 hneg hpos hn hE
    go_wp2_with fail
    refine (big_made _ p v (x % y) false a4 n4 cap4 hp2 hl4 Hn4.out hc4 ⟨(fun h => by (cases h)), fun _ => hem⟩).mono ?_
    rintro e w4 ⟨rfl, m1, m2⟩
    go_wp2
    go_ret
    exact ⟨rfl, m1, (Only.of_below hw2).trans m2 (by simp)⟩

end Go.Proofs.YtbffpkmfhkphdaaGreatDoor
