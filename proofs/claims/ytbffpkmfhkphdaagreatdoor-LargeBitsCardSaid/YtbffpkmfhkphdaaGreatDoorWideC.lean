/- The walk of large.wide. -/
import Derived.Test.YtbffpkmfhkphdaaGreatDoorGFill
import Derived.Test.YtbffpkmfhkphdaaGreatDoorPlusC
namespace Go.Proofs.YtbffpkmfhkphdaaGreatDoor
open Go Go.RowKit Limb

theorem wd_set4 {bs : List Nat} {L k x : Nat} (hl : bs.length = L) (hk : 4 * (k + 1) ≤ L) {l : List Nat} (hx : x = wd l k) (h : ∀ j, j < 4 * k → wd bs (L - 1 - j) = byt l j) :
    ∀ j, j < 4 * (k + 1) → wd ((((bs.set (L - 4 * k - 1) (x % 256)).set (L - 4 * k - 2) (x / 256 % 256)).set (L - 4 * k - 3) (x / 65536 % 256)).set (L - 4 * k - 4) (x / 16777216 % 256)) (L - 1 - j) = byt l j := by
  intro j hj
  rw [wd_set (by simp only [List.length_set]; omega), wd_set (by simp only [List.length_set]; omega), wd_set (by simp only [List.length_set]; omega), wd_set (by omega)]
  have e : ∀ t, t < 4 → byt l (4 * k + t) = x / 256 ^ t % 256 := by
    intro t ht; unfold byt; rw [show (4 * k + t) / 4 = k from by omega, show (4 * k + t) % 4 = t from by omega, hx]
  have e0 := e 0 (by omega); have e1 := e 1 (by omega); have e2 := e 2 (by omega); have e3 := e 3 (by omega)
  simp only [show 256 ^ 0 = 1 from rfl, show 256 ^ 1 = 256 from rfl, show 256 ^ 2 = 65536 from rfl, show 256 ^ 3 = 16777216 from rfl, Nat.div_one] at e0 e1 e2 e3
  by_cases c3 : j = 4 * k + 3
  · rw [if_pos (by omega), c3, e3]
  · rw [if_neg (by omega)]
    by_cases c2 : j = 4 * k + 2
    · rw [if_pos (by omega), c2, e2]
    · rw [if_neg (by omega)]
      by_cases c1 : j = 4 * k + 1
      · rw [if_pos (by omega), c1, e1]
      · rw [if_neg (by omega)]
        by_cases c0 : j = 4 * k
        · rw [if_pos (by omega), c0]; exact e0.symm
        · rw [if_neg (by omega)]; exact h j (by omega)

theorem bval_congr {f g : Nat → Nat} (k : Nat) (h : ∀ i, i < k → f i = g i) : bval f k = bval g k := by
  induction k with
  | zero => rfl
  | succ k ih => rw [bval, bval, ih (fun i hi => h i (by omega)), h k (by omega)]

set_option maxHeartbeats 1600000 in
set_option maxRecDepth 100000 in
theorem large_wide (w : World) (neg : Bool) (a : Option Addr) (l : List Nat) (n cap : Nat) (hlay : Lay .u32 w a l) (hlim : Lim l) (hn : n = l.length) (hm : n ≤ 68719476736) :
    Calls Tryz.prog 60 #[.agg #[.bool neg, .slice a n cap]] w fun e w' => ∃ p, e = .returned (.pointer (some ⟨p, 0, none⟩)) ∧ w.heap.size ≤ p ∧ IntAt w' p (signed neg (val l)) ∧ Below w.heap.size w w' := by
  obtain ⟨b1, off1, hix, hcx, _⟩ := hlay.use 22 60 Tryz.underlying22 size32 cap
  rw [← hn] at hix hcx
  have Hn := Lib.hid hn; clear hn
  have HX := Lib.hid hix; clear hix
  have HCX := Lib.hid hcx; clear hcx
  obtain ⟨L, hL1, hL2⟩ : ∃ L, L ≤ 4 * n ∧ 4 * n ≤ L := ⟨4 * n, by omega, by omega⟩
  have hbox : Row (w.alloc (.cells #[.bool neg, .slice a n cap] 24)) w.heap.size 24 [.bool neg, .slice a n cap] := by unfold Row; exact heap_alloc_new _ _
  go_enter Tryz.func60, Tryz.ntmps60
  go_wp2_with (at_make; refine wpList_make_row rfl _ _ _ rfl 5 (.int .u8 0) 1 Tryz.underlying72 info8 rfl _ _ _ _ L L rfl rfl (by omega) (by omega) (by omega) (by omega) (by omega) ?_; intro w1 g hg1 hg2 hrow hbel; have hbox1 := hbox.below hbel (by rw [World.size_alloc]; omega); have c1 : w1.cell? ⟨w.heap.size, 1, none⟩ = some (.slice a n cap) := hbox1.cell_at 1)
  rw [World.size_alloc] at hg1 hbel
  have hb0 := hbel.mono (show w.heap.size ≤ w.heap.size + 1 by omega)
  have hB1 : Below w.heap.size w w1 := ((Below.refl _ _).alloc (Nat.le_refl _) _).trans hb0
  clear c1 hbox
  go_loopw [16] (fun i wr => ∃ (k : Nat) (bs : List Nat), k ≤ n ∧ i = .int .i64 k ∧ bs.length = L ∧ (∀ i, wd bs i < 256) ∧ (∀ j, j < 4 * k → wd bs (L - 1 - j) = byt l j) ∧ Row wr g 5 (nums .u8 bs) ∧ Below (w.heap.size + 1) w1 wr) (fun i _ => n - (intOf i).toNat)
  case atStart => exact ⟨0, List.replicate L 0, by omega, rfl, by simp, fun i => by rw [wd_replicate]; decide, fun j hj => absurd hj (by omega), by rw [nums_replicate]; exact hrow, Below.refl _ _⟩
  case round =>
    obtain ⟨k, bs, hk, rfl, hbl, hlt8, hd, hr, hbw⟩ := hrel
    have hBw : Below w.heap.size w wr := hB1.trans (hbw.mono (by omega))
    have hboxr := hbox1.below hbw (by omega)
    have HL := Lib.hid hbl; clear hbl
    have H8 := Lib.hid hlt8; clear hlt8
    have HD := Lib.hid hd; clear hd
    have h1 := hlim.wd k
    by_cases hlt : k < n
    · have ix := HX.out wr .i64 k (by omega) (by omega)
      rw [Int.toNat_natCast] at ix
      have cx := HCX.out wr hBw k hlt
      obtain ⟨x, hx⟩ : ∃ x, x = wd l k := ⟨_, rfl⟩
      rw [← hx] at cx h1
      have HX' := Lib.hid hx; clear hx
      have i1 := row_index (P := Tryz.prog) Tryz.underlying72 size8 g L L .i64 ((L : Int) - 4 * k - 1) (L - 4 * k - 1) (by omega) (by omega)
      have i2 := row_index (P := Tryz.prog) Tryz.underlying72 size8 g L L .i64 ((L : Int) - 4 * k - 2) (L - 4 * k - 2) (by omega) (by omega)
      have i3 := row_index (P := Tryz.prog) Tryz.underlying72 size8 g L L .i64 ((L : Int) - 4 * k - 3) (L - 4 * k - 3) (by omega) (by omega)
      have i4 := row_index (P := Tryz.prog) Tryz.underlying72 size8 g L L .i64 ((L : Int) - 4 * k - 4) (L - 4 * k - 4) (by omega) (by omega)
      have r1 := hr.store (L - 4 * k - 1) ((x : Int) % 256) (x % 256) (by omega)
      have r2 := r1.store (L - 4 * k - 2) ((x : Int) / 256 % 256) (x / 256 % 256) (by omega)
      have r3 := r2.store (L - 4 * k - 3) ((x : Int) / 65536 % 256) (x / 65536 % 256) (by omega)
      have r4 := r3.store (L - 4 * k - 4) ((x : Int) / 16777216) (x / 16777216 % 256) (by omega)
      have k1 := hr.cell (i := L - 4 * k - 1) (by rw [HL.out]; omega)
      have k2 := r1.cell (i := L - 4 * k - 2) (by rw [List.length_set, HL.out]; omega)
      have k3 := r2.cell (i := L - 4 * k - 3) (by rw [List.length_set, List.length_set, HL.out]; omega)
      have k4 := r3.cell (i := L - 4 * k - 4) (by rw [List.length_set, List.length_set, List.length_set, HL.out]; omega)
      have f1 := hr.free (L - 4 * k - 1)
      have f2 := r1.free (L - 4 * k - 2)
      have f3 := r2.free (L - 4 * k - 3)
      have f4 := r3.free (L - 4 * k - 4)
      clear r1 r2 r3
      go_wp2
      go_roundw
      case rel =>
        refine ⟨k + 1, (((bs.set (L - 4 * k - 1) (x % 256)).set (L - 4 * k - 2) (x / 256 % 256)).set (L - 4 * k - 3) (x / 65536 % 256)).set (L - 4 * k - 4) (x / 16777216 % 256), by omega, by go_num, by simp only [List.length_set]; exact HL.out, ?_, wd_set4 HL.out (by omega) HX'.out HD.out, r4, below_store (below_store (below_store (below_store hbw hg1 _) hg1 _) hg1 _) hg1 _⟩
        intro i
        rw [wd_set (by simp only [List.length_set]; rw [HL.out]; omega), wd_set (by simp only [List.length_set]; rw [HL.out]; omega), wd_set (by simp only [List.length_set]; rw [HL.out]; omega), wd_set (by rw [HL.out]; omega)]
        split
        · omega
        · split
          · omega
          · split
            · omega
            · split
              · omega
              · exact H8.out i
      case measure => simp [intOf]; omega
    · obtain rfl : k = n := by omega
      have hfin : Hid (bval (fun i => wd bs (L - 1 - i)) L = val l) := by
        unfold Hid
        rw [bval_congr L (fun i hi => HD.out i (by omega)), show L = 4 * k from by omega, bval_words hlim, List.take_of_length_le (by rw [Hn.out]; exact Nat.le_refl _)]
      have c0 : wr.cell? ⟨w.heap.size, 0, none⟩ = some (.bool neg) := hboxr.cell_at 0
      have hlb := hr.lay
      have hnew := IntAt.new wr
      clear h1
      go_wp2_with fail
      refine (int_setbytes _ wr.heap.size 0 (some ⟨g, 0, none⟩) bs L L hnew (hlb.below ((Below.refl _ _).alloc (Nat.le_refl _) _)) HL.out.symm H8.out (by omega)).mono ?_
      rw [hfin.out]
      rintro e w2 ⟨rfl, h2, h3⟩
      have hO : Only [] wr w2 := ((Only.refl [] wr).alloc _).trans h3 (fun q hq => by rw [List.mem_singleton] at hq; exact Or.inr (by omega))
      have hB2 : Below w.heap.size w w2 := hBw.trans (hO.below.mono (hBw.size))
      have c0' : w2.cell? ⟨w.heap.size, 0, none⟩ = some (.bool neg) := (hboxr.only hO (by simp)).cell_at 0
      have hsz : w.heap.size ≤ wr.heap.size := hBw.size
      cases neg with
      | false =>
        go_wp2
        go_ret
        exact ⟨_, rfl, hsz, h2, hB2⟩
      | true =>
        go_wp2_with fail
        refine (int_neg _ wr.heap.size wr.heap.size _ _ h2 h2 ?_).mono ?_
        · rw [Int.natAbs_natCast]; exact Nat.le_trans (rep_val_le hlim) (by rw [← Hn.out]; omega)
        rintro e w3 ⟨rfl, h4, h5⟩
        go_wp2
        go_ret
        exact ⟨_, rfl, hsz, h4, hB2.trans (h5.belowB hB2.size (fun p hp => by rw [List.mem_singleton] at hp; omega))⟩

end Go.Proofs.YtbffpkmfhkphdaaGreatDoor
