/- The walk of FillBytes of package big's integers. The walk of large.wide. The walk of Mul of package big's integers. The walks of QuoRem and Mod of package big's integers. -/
import Derived.Test.YtbffpkmfhkphdaaGreatDoorGX15
import Derived.Test.YtbffpkmfhkphdaaGreatDoorPlusC
import Derived.Test.YtbffpkmfhkphdaaGreatDoorGX06
set_option linter.unusedVariables false
set_option linter.unusedSimpArgs false
namespace Go.Proofs.YtbffpkmfhkphdaaGreatDoor
open Go Go.RowKit Limb

theorem Lay.notRow {w : World} {a : Option Addr} {l bs : List Nat} {g : Nat} {e : TypeId} {K K' : IntKind} (h : Lay K w a l) (hr : Row w g e (nums K' bs)) (hk : K ≠ K') : 0 < l.length → ∀ b off, a = some ⟨b, off, none⟩ → b ∉ [g] := by
  intro hl b off e hm
  rw [List.mem_singleton] at hm
  subst hm
  obtain ⟨b', off', h1, h2⟩ := h
  have h3 := (h1 hl).1
  rw [e] at h3
  simp only [Option.some.injEq, Addr.mk.injEq, and_true] at h3
  obtain ⟨rfl, rfl⟩ := h3
  have h4 := h2 0 hl
  rw [hr.cell_at] at h4
  obtain ⟨hlt, h5⟩ := List.getElem?_eq_some_iff.1 h4
  rw [nums_length] at hlt
  simp only [nums, List.getElem_map] at h5
  injection h5 with h6
  exact hk h6.symm

set_option maxHeartbeats 1600000 in
set_option maxRecDepth 100000 in
theorem int_fillbytes (w : World) (q g : Nat) (z : Int) (bs : List Nat) (L cap : Nat) (hq : IntAt w q z) (hr : Row w g 5 (nums .u8 bs)) (hL : bs.length = L) (hqg : q ≠ g) (hm : L ≤ 1099511627776) (hs : (rep z.natAbs).length ≤ 68719476736) :
    Calls Tryz.prog 147 #[.pointer (some ⟨q, 0, none⟩), .slice (some ⟨g, 0, none⟩) L cap] w fun e w' => e = .returned (.slice (some ⟨g, 0, none⟩) L cap) ∧ Only [g] w w' ∧
      ∃ bs', Row w' g 5 (nums .u8 bs') ∧ bs'.length = L ∧ ∀ j, j < L → wd bs' (L - 1 - j) = byt (rep z.natAbs) j := by
  obtain ⟨b, a, n, cap1, Hb, Hn, hc, hl, hcells⟩ := hq.use
  have hng := hl.notRow hr (by decide)
  have h1 : ∀ w', Only [g] w w' → w'.cell? ⟨q, 1, none⟩ = some (.slice a n cap1) ∧ Lay .u32 w' a (rep z.natAbs) := by
    intro w' ho
    rw [World.cell?_of_block (a := ⟨q, 1, none⟩) (ho.block q hq.lt (by simp; exact hqg))]
    exact ⟨(hcells w (Only.refl _ _)).2, hl.only ho hng⟩
  rw [← Hn.out] at hs
  have H1 := Lib.hid h1; clear h1 hcells hng
  have HL := Lib.hid hL; clear hL
  go_enter Tryz.func147, Tryz.ntmps147
  go_wp2
  go_loopw [8] (fun i wr => ∃ (k : Nat) (bs' : List Nat), k ≤ L ∧ i = .int .i64 k ∧ bs'.length = L ∧ Row wr g 5 (nums .u8 bs') ∧ (∀ j, j < k → wd bs' (L - 1 - j) = byt (rep z.natAbs) j) ∧ Only [g] w wr) (fun i _ => L - (intOf i).toNat)
  case atStart => exact ⟨0, bs, by omega, rfl, HL.out, hr, fun j hj => absurd hj (by omega), Only.refl _ _⟩
  case round =>
    obtain ⟨k, bs', hk, rfl, hl', hr', hd, ho⟩ := hrel
    obtain ⟨c1, hlr⟩ := H1.out wr ho
    have HL' := Lib.hid hl'; clear hl'
    have HD := Lib.hid hd; clear hd
    by_cases hlt : k < L
    · obtain ⟨d, hd⟩ : ∃ d, d = k / 4 := ⟨_, rfl⟩
      obtain ⟨r, hrr⟩ : ∃ r, r = k % 4 := ⟨_, rfl⟩
      have e1 : (k : Int) / 4 = d := by omega
      have e2 : (k : Int) % 4 = r := by omega
      have r_lt : r < 4 := by omega
      have b_x := (rep_lim z.natAbs).wd d
      have hby : byt (rep z.natAbs) k = wd (rep z.natAbs) d / 256 ^ r % 256 := by unfold byt; rw [← hd, ← hrr]
      have HB := Lib.hid hby; clear hby
      have Hd := Lib.hid hd; clear hd
      clear hrr
      have hdig := big_digit wr a (rep z.natAbs) n cap1 ((k : Int) / 4) hlr (rep_lim _) Hn.out (by omega) (by omega)
      rw [e1, Int.toNat_natCast] at hdig
      obtain ⟨x, hx⟩ : ∃ x, x = wd (rep z.natAbs) d := ⟨_, rfl⟩
      rw [← hx] at b_x hdig HB
      have HDg := Lib.hid hdig; clear hdig hx
      have ep : (2 : Int) ^ (8 * r) = ((256 ^ r : Nat) : Int) := by rw [← pow8, Int.natCast_pow]; rfl
      obtain ⟨pw, hpw⟩ : ∃ pw, pw = 256 ^ r := ⟨_, rfl⟩
      have hp0 : 0 < pw := by rw [hpw]; exact Nat.pow_pos (by decide)
      rw [← hpw] at ep HB
      clear hpw
      have ig := row_index (P := Tryz.prog) Tryz.underlying72 size8 g L cap .i64 ((L : Int) - 1 - k) (L - 1 - k) (by omega) (by omega)
      have hcell := hr'.cell (i := L - 1 - k) (by rw [HL'.out]; omega)
      have hfk := hr'.free (L - 1 - k)
      have q0 : (0 : Int) ≤ (x : Int) / (pw : Int) := by rw [← Int.natCast_ediv]; exact Int.natCast_nonneg _
      go_wp2_with (go_at_call 237; (try simp only [e1]); refine HDg.out.mono ?_; rintro e w' ⟨rfl, rfl⟩)
      go_roundw
      case rel => exact ⟨k + 1, bs'.set (L - 1 - k) (x / pw % 256), by omega, by go_num, by rw [List.length_set, HL'.out], hr'.store _ _ _ (by rw [Int.natCast_emod, Int.natCast_ediv]; rfl), fun j hj => by
        rw [wd_set (by rw [HL'.out]; omega)]
        by_cases hjk : j = k
        · rw [hjk, if_pos rfl, HB.out]
        · rw [if_neg (by omega)]; exact HD.out j (by omega), ho.setCell (by simp) _⟩
      case measure => simp [intOf]; omega
    · obtain rfl : k = L := by omega
      go_wp2
      go_ret
      exact ⟨rfl, ho, bs', hr', HL'.out, HD.out⟩

end Go.Proofs.YtbffpkmfhkphdaaGreatDoor

namespace Go.Proofs.YtbffpkmfhkphdaaGreatDoor
open Go Go.RowKit Limb

theorem wd_set4 {bs : List Nat} {L k x : Nat} (hl : bs.length = L) (hk : 4 * (k + 1) ≤ L) {l : List Nat} (hx : x = wd l k) (h : ∀ j, j < 4 * k → wd bs (L - 1 - j) = byt l j) :
    ∀ j, j < 4 * (k + 1) → wd ((((bs.set (L - 4 * k - 1) (x % 256)).set (L - 4 * k - 2) (x / 256 % 256)).set (L - 4 * k - 3) (x / 65536 % 256)).set (L - 4 * k - 4) (x / 16777216 % 256)) (L - 1 - j) = byt l j := by
  intro j hj
  rw [wd_set (by simp only [List.length_set]; omega), wd_set (by simp only [List.length_set]; omega), wd_set (by simp only [List.length_set]; omega), wd_set (by omega)]
  have e : ∀ t, t < 4 → byt l (4 * k + t) = x / 256 ^ t % 256 := by
    intro t ht; unfold byt; rw [show (4 * k + t) / 4 = k from by omega, show (4 * k + t) % 4 = t from by omega, hx]
  have e0 := e 0 (by omega); have e1 := e 1 (by omega); have e2 := e 2 (by omega); have e3 := e 3 (by omega)
  simp only [show 256 ^ 0 = 1 from rfl, show 256 ^ 1 = 256 from rfl, show 256 ^ 2 = 65536 from rfl, show 256 ^ 3 = 16777216 from rfl, Nat.div_one] at e0 e1 e2 e3
  by_cases c3 : j = 4 * k + 3
  · rw [if_pos (by omega), c3, e3]
  · rw [if_neg (by omega)]
    by_cases c2 : j = 4 * k + 2
    · rw [if_pos (by omega), c2, e2]
    · rw [if_neg (by omega)]
      by_cases c1 : j = 4 * k + 1
      · rw [if_pos (by omega), c1, e1]
      · rw [if_neg (by omega)]
        by_cases c0 : j = 4 * k
        · rw [if_pos (by omega), c0]; exact e0.symm
        · rw [if_neg (by omega)]; exact h j (by omega)

theorem bval_congr {f g : Nat → Nat} (k : Nat) (h : ∀ i, i < k → f i = g i) : bval f k = bval g k := by
  induction k with
  | zero => rfl
  | succ k ih => rw [bval, bval, ih (fun i hi => h i (by omega)), h k (by omega)]

set_option maxHeartbeats 1600000 in
set_option maxRecDepth 100000 in
theorem large_wide (w : World) (neg : Bool) (a : Option Addr) (l : List Nat) (n cap : Nat) (hlay : Lay .u32 w a l) (hlim : Lim l) (hn : n = l.length) (hm : n ≤ 68719476736) :
    Calls Tryz.prog 60 #[.agg #[.bool neg, .slice a n cap]] w fun e w' => ∃ p, e = .returned (.pointer (some ⟨p, 0, none⟩)) ∧ w.heap.size ≤ p ∧ IntAt w' p (signed neg (val l)) ∧ Below w.heap.size w w' := by
  obtain ⟨b1, off1, hix, hcx, _⟩ := hlay.use 22 60 Tryz.underlying22 size32 cap
  rw [← hn] at hix hcx
  have Hn := Lib.hid hn; clear hn
  have HX := Lib.hid hix; clear hix
  have HCX := Lib.hid hcx; clear hcx
  obtain ⟨L, hL1, hL2⟩ : ∃ L, L ≤ 4 * n ∧ 4 * n ≤ L := ⟨4 * n, by omega, by omega⟩
  have hbox : Row (w.alloc (.cells #[.bool neg, .slice a n cap] 24)) w.heap.size 24 [.bool neg, .slice a n cap] := by unfold Row; exact heap_alloc_new _ _
  go_enter Tryz.func60, Tryz.ntmps60
  go_wp2_with (at_make; refine wpList_make_row rfl _ _ _ rfl 5 (.int .u8 0) 1 Tryz.underlying72 info8 rfl _ _ _ _ L L rfl rfl (by omega) (by omega) (by omega) (by omega) (by omega) ?_; intro w1 g hg1 hg2 hrow hbel; have hbox1 := hbox.below hbel (by rw [World.size_alloc]; omega); have c1 : w1.cell? ⟨w.heap.size, 1, none⟩ = some (.slice a n cap) := hbox1.cell_at 1)
  rw [World.size_alloc] at hg1 hbel
  have hb0 := hbel.mono (show w.heap.size ≤ w.heap.size + 1 by omega)
  have hB1 : Below w.heap.size w w1 := ((Below.refl _ _).alloc (Nat.le_refl _) _).trans hb0
  clear c1 hbox
  go_loopw [16] (fun i wr => ∃ (k : Nat) (bs : List Nat), k ≤ n ∧ i = .int .i64 k ∧ bs.length = L ∧ (∀ i, wd bs i < 256) ∧ (∀ j, j < 4 * k → wd bs (L - 1 - j) = byt l j) ∧ Row wr g 5 (nums .u8 bs) ∧ Below (w.heap.size + 1) w1 wr) (fun i _ => n - (intOf i).toNat)
  case atStart => exact ⟨0, List.replicate L 0, by omega, rfl, by simp, fun i => by rw [wd_replicate]; decide, fun j hj => absurd hj (by omega), by rw [nums_replicate]; exact hrow, Below.refl _ _⟩
  case round =>
    obtain ⟨k, bs, hk, rfl, hbl, hlt8, hd, hr, hbw⟩ := hrel
    have hBw : Below w.heap.size w wr := hB1.trans (hbw.mono (by omega))
    have hboxr := hbox1.below hbw (by omega)
    have HL := Lib.hid hbl; clear hbl
    have H8 := Lib.hid hlt8; clear hlt8
    have HD := Lib.hid hd; clear hd
    have h1 := hlim.wd k
    by_cases hlt : k < n
    · have ix := HX.out wr .i64 k (by omega) (by omega)
      rw [Int.toNat_natCast] at ix
      have cx := HCX.out wr hBw k hlt
      obtain ⟨x, hx⟩ : ∃ x, x = wd l k := ⟨_, rfl⟩
      rw [← hx] at cx h1
      have HX' := Lib.hid hx; clear hx
      have i1 := row_index (P := Tryz.prog) Tryz.underlying72 size8 g L L .i64 ((L : Int) - 4 * k - 1) (L - 4 * k - 1) (by omega) (by omega)
      have i2 := row_index (P := Tryz.prog) Tryz.underlying72 size8 g L L .i64 ((L : Int) - 4 * k - 2) (L - 4 * k - 2) (by omega) (by omega)
      have i3 := row_index (P := Tryz.prog) Tryz.underlying72 size8 g L L .i64 ((L : Int) - 4 * k - 3) (L - 4 * k - 3) (by omega) (by omega)
      have i4 := row_index (P := Tryz.prog) Tryz.underlying72 size8 g L L .i64 ((L : Int) - 4 * k - 4) (L - 4 * k - 4) (by omega) (by omega)
      have r1 := hr.store (L - 4 * k - 1) ((x : Int) % 256) (x % 256) (by omega)
      have r2 := r1.store (L - 4 * k - 2) ((x : Int) / 256 % 256) (x / 256 % 256) (by omega)
      have r3 := r2.store (L - 4 * k - 3) ((x : Int) / 65536 % 256) (x / 65536 % 256) (by omega)
      have r4 := r3.store (L - 4 * k - 4) ((x : Int) / 16777216) (x / 16777216 % 256) (by omega)
      have k1 := hr.cell (i := L - 4 * k - 1) (by rw [HL.out]; omega)
      have k2 := r1.cell (i := L - 4 * k - 2) (by rw [List.length_set, HL.out]; omega)
      have k3 := r2.cell (i := L - 4 * k - 3) (by rw [List.length_set, List.length_set, HL.out]; omega)
      have k4 := r3.cell (i := L - 4 * k - 4) (by rw [List.length_set, List.length_set, List.length_set, HL.out]; omega)
      have f1 := hr.free (L - 4 * k - 1)
      have f2 := r1.free (L - 4 * k - 2)
      have f3 := r2.free (L - 4 * k - 3)
      have f4 := r3.free (L - 4 * k - 4)
      clear r1 r2 r3
      go_wp2
      go_roundw
      case rel =>
        refine ⟨k + 1, (((bs.set (L - 4 * k - 1) (x % 256)).set (L - 4 * k - 2) (x / 256 % 256)).set (L - 4 * k - 3) (x / 65536 % 256)).set (L - 4 * k - 4) (x / 16777216 % 256), by omega, by go_num, by simp only [List.length_set]; exact HL.out, ?_, wd_set4 HL.out (by omega) HX'.out HD.out, r4, below_store (below_store (below_store (below_store hbw hg1 _) hg1 _) hg1 _) hg1 _⟩
        intro i
        rw [wd_set (by simp only [List.length_set]; rw [HL.out]; omega), wd_set (by simp only [List.length_set]; rw [HL.out]; omega), wd_set (by simp only [List.length_set]; rw [HL.out]; omega), wd_set (by rw [HL.out]; omega)]
        split
        · omega
        · split
          · omega
          · split
            · omega
            · split
              · omega
              · exact H8.out i
      case measure => simp [intOf]; omega
    · obtain rfl : k = n := by omega
      have hfin : Hid (bval (fun i => wd bs (L - 1 - i)) L = val l) := by
        unfold Hid
        rw [bval_congr L (fun i hi => HD.out i (by omega)), show L = 4 * k from by omega, bval_words hlim, List.take_of_length_le (by rw [Hn.out]; exact Nat.le_refl _)]
      have c0 : wr.cell? ⟨w.heap.size, 0, none⟩ = some (.bool neg) := hboxr.cell_at 0
      have hlb := hr.lay
      have hnew := IntAt.new wr
      clear h1
      go_wp2_with fail
      refine (int_setbytes _ wr.heap.size 0 (some ⟨g, 0, none⟩) bs L L hnew (hlb.below ((Below.refl _ _).alloc (Nat.le_refl _) _)) HL.out.symm H8.out (by omega)).mono ?_
      rw [hfin.out]
      rintro e w2 ⟨rfl, h2, h3⟩
      have hO : Only [] wr w2 := ((Only.refl [] wr).alloc _).trans h3 (fun q hq => by rw [List.mem_singleton] at hq; exact Or.inr (by omega))
      have hB2 : Below w.heap.size w w2 := hBw.trans (hO.below.mono (hBw.size))
      have c0' : w2.cell? ⟨w.heap.size, 0, none⟩ = some (.bool neg) := (hboxr.only hO (by simp)).cell_at 0
      have hsz : w.heap.size ≤ wr.heap.size := hBw.size
      cases neg with
      | false =>
        go_wp2
        go_ret
        exact ⟨_, rfl, hsz, h2, hB2⟩
      | true =>
        go_wp2_with fail
        refine (int_neg _ wr.heap.size wr.heap.size _ _ h2 h2 ?_).mono ?_
        · rw [Int.natAbs_natCast]; exact Nat.le_trans (rep_val_le hlim) (by rw [← Hn.out]; omega)
        rintro e w3 ⟨rfl, h4, h5⟩
        go_wp2
        go_ret
        exact ⟨_, rfl, hsz, h4, hB2.trans (h5.belowB hB2.size (fun p hp => by rw [List.mem_singleton] at hp; omega))⟩

end Go.Proofs.YtbffpkmfhkphdaaGreatDoor

namespace Go.Proofs.YtbffpkmfhkphdaaGreatDoor
open Go Go.RowKit Limb

theorem big_times' (w : World) (a b : Option Addr) (x y n m : Nat) (ca cb : Nat) (ha : Lay .u32 w a (rep x)) (hb : Lay .u32 w b (rep y)) (hn : n = (rep x).length) (hm : m = (rep y).length)
    (lx : n ≤ 1099511627776) (ly : m ≤ 1099511627776) :
    Calls Tryz.prog 163 #[.slice a n ca, .slice b m cb] w fun e w' => ∃ a c s, e = .returned (.slice a s c) ∧ s = (rep (x * y)).length ∧ s ≤ c ∧ Lay .u32 w' a (rep (x * y)) ∧ Below w.heap.size w w' := by
  have := big_times w a b (rep x) (rep y) n m ca cb ha hb (rep_lim _) (rep_lim _) hn hm lx ly
  rw [val_rep, val_rep] at this
  exact this.mono fun e w' ⟨a, c, h1, h2, _, h4, h5⟩ => ⟨a, c, _, h1, rfl, h2, h4, h5⟩

set_option maxHeartbeats 1600000 in
set_option maxRecDepth 100000 in
theorem int_mul (w : World) (p q r : Nat) (v x y : Int) (hp : IntAt w p v) (hq : IntAt w q x) (hr : IntAt w r y) (hpq : p ≠ q) (hpr : p ≠ r) (hs : (rep x.natAbs).length ≤ 68719476736) (ht : (rep y.natAbs).length ≤ 68719476736) :
    Calls Tryz.prog 104 #[.pointer (some ⟨p, 0, none⟩), .pointer (some ⟨q, 0, none⟩), .pointer (some ⟨r, 0, none⟩)] w fun e w' => IntRes w w' e p (x * y) := by
  obtain ⟨b1, a1, n1, cap1, Hb1, Hn1, hc1, hl1, hcells1⟩ := hq.use
  obtain ⟨b2, a2, n2, cap2, Hb2, Hn2, hc2, hl2, hcells2⟩ := hr.use
  rw [← Hn1.out] at hs
  rw [← Hn2.out] at ht
  have h1 : ∀ w', Only [p] w w' → w'.cell? ⟨q, 0, none⟩ = some (.bool b1) ∧ w'.cell? ⟨q, 1, none⟩ = some (.slice a1 n1 cap1) ∧ w'.cell? ⟨r, 0, none⟩ = some (.bool b2) ∧ w'.cell? ⟨r, 1, none⟩ = some (.slice a2 n2 cap2) := by
    intro w' ho
    have cq := fun i => World.cell?_of_block (a := ⟨q, i, none⟩) (ho.block q hq.lt (by simp; exact fun e => hpq e.symm))
    have cr := fun i => World.cell?_of_block (a := ⟨r, i, none⟩) (ho.block r hr.lt (by simp; exact fun e => hpr e.symm))
    rw [cq, cq, cr, cr]
    exact ⟨(hcells1 w (Only.refl _ _)).1, (hcells1 w (Only.refl _ _)).2, (hcells2 w (Only.refl _ _)).1, (hcells2 w (Only.refl _ _)).2⟩
  clear hcells1 hcells2
  obtain ⟨z, hz⟩ : ∃ z, z = x * y := ⟨_, rfl⟩
  rw [← hz]
  have hres : z.natAbs = x.natAbs * y.natAbs := by rw [hz, Int.natAbs_mul]
  have hsg : ((b1 != b2) = true → z ≤ 0) ∧ ((b1 != b2) = false → 0 ≤ z) := by
    rw [hz, Hb1.out, Hb2.out]
    constructor <;> intro h <;> by_cases hx : x < 0 <;> by_cases hy : y < 0 <;> simp [hx, hy] at h
    · exact Int.mul_nonpos_of_nonpos_of_nonneg (by omega) (by omega)
    · exact Int.mul_nonpos_of_nonneg_of_nonpos (by omega) (by omega)
    · exact Int.mul_nonneg_of_nonpos_of_nonpos (by omega) (by omega)
    · exact Int.mul_nonneg (by omega) (by omega)
  have HR := Lib.hid hres; clear hres
  have HS := Lib.hid hsg; clear hsg hz
  have H1 := Lib.hid h1; clear h1
  obtain ⟨c0, c1, d0, d1⟩ := H1.out w (Only.refl _ _)
  go_enter Tryz.func104, Tryz.ntmps104
  go_wp2
  go_region_held3 (fun w' => w'.cell? ⟨q, 0, none⟩ = some (.bool b1) ∧ w'.cell? ⟨q, 1, none⟩ = some (.slice a1 n1 cap1) ∧ w'.cell? ⟨r, 0, none⟩ = some (.bool b2) ∧ w'.cell? ⟨r, 1, none⟩ = some (.slice a2 n2 cap2))
    (first | exact H1.out _ (Only.refl _ _).drew | exact H1.out _ (Only.of_below (below_of_drew hb1)) | exact H1.out _ hb2)
    (first | (go_at_call 163; refine (big_times' _ a1 a2 x.natAbs y.natAbs n1 n2 cap1 cap2 ?_ ?_ Hn1.out Hn2.out (by omega) (by omega)).mono ?_; exact hl1.drew; exact hl2.drew; rintro e w1 ⟨a3, c3, s3, rfl, hh, h2, h3, hb1⟩; have HH := Lib.hid hh; clear hh) | (go_at_call 148; refine (big_made _ p v z _ _ _ _ ?_ ?_ ?_ ?_ HS.out).mono ?_; exact hp.drew.below hb1; rw [HR.out]; exact h3; rw [HR.out]; exact HH.out; exact h2; rintro e w2 ⟨rfl, h5, h6⟩; have hb2 := (Only.of_below (ps := [p]) (below_of_drew hb1)).trans h6 (by simp)))
  all_goals go_wp2
  all_goals go_ret
  all_goals exact ⟨rfl, h5, hb2⟩

end Go.Proofs.YtbffpkmfhkphdaaGreatDoor

namespace Go.Proofs.YtbffpkmfhkphdaaGreatDoor
open Go Go.RowKit Limb

theorem big_quotient' (w : World) (a b : Option Addr) (x y n m : Nat) (ca cb : Nat) (ha : Lay .u32 w a (rep x)) (hb : Lay .u32 w b (rep y)) (hn : n = (rep x).length) (hm : m = (rep y).length)
    (lx : n ≤ 274877906944) (ly : m ≤ 274877906944) (hca : n ≤ ca) (hy : 0 < y) :
    Calls Tryz.prog 162 #[.slice a n ca, .slice b m cb] w fun e w' => ∃ a ca s b cb t, e = .returned (.tuple #[.slice a s ca, .slice b t cb]) ∧ s = (rep (x / y)).length ∧ t = (rep (x % y)).length ∧ s ≤ ca ∧ t ≤ cb ∧ Lay .u32 w' a (rep (x / y)) ∧ Lay .u32 w' b (rep (x % y)) ∧ Below w.heap.size w w' := by
  have := big_quotient w a b (rep x) (rep y) n m ca cb ha hb (rep_lim _) (rep_lim _) (rep_norm _) (rep_norm _) hn hm lx ly hca (by rw [val_rep]; exact hy)
  rw [val_rep, val_rep] at this
  exact this.mono fun e w' ⟨a, ca, b, cb, h1, h2, h3, h4, h5, h6⟩ => ⟨a, ca, _, b, cb, _, h1, rfl, rfl, h2, h3, h4, h5, h6⟩

/-- The answer of QuoRem: two integers are set. -/
def IntRes2 (w w' : World) (e : Ending) (p r : Nat) (y z : Int) : Prop :=
  e = .returned (.tuple #[.pointer (some ⟨p, 0, none⟩), .pointer (some ⟨r, 0, none⟩)]) ∧ IntAt w' p y ∧ IntAt w' r z ∧ Only [p, r] w w'

theorem tdiv_abs (x y : Int) : (x.tdiv y).natAbs = x.natAbs / y.natAbs := Int.natAbs_tdiv x y
theorem tmod_abs (x y : Int) : (x.tmod y).natAbs = x.natAbs % y.natAbs := Int.natAbs_tmod x y
theorem tdiv_sign {x y : Int} : ((!(decide (x < 0) == decide (y < 0))) = true → x.tdiv y ≤ 0) ∧ ((!(decide (x < 0) == decide (y < 0))) = false → 0 ≤ x.tdiv y) := by
  constructor <;> intro h <;> by_cases hx : x < 0 <;> by_cases hy : y < 0 <;> simp [hx, hy] at h
  · have e : x.tdiv y = -((-x).tdiv y) := by rw [Int.neg_tdiv, Int.neg_neg]
    have := Int.tdiv_nonneg (a := -x) (b := y) (by omega) (by omega)
    omega
  · have e : x.tdiv y = -(x.tdiv (-y)) := by rw [Int.tdiv_neg, Int.neg_neg]
    have := Int.tdiv_nonneg (a := x) (b := -y) (by omega) (by omega)
    omega
  · have e : x.tdiv y = (-x).tdiv (-y) := by rw [Int.neg_tdiv, Int.tdiv_neg, Int.neg_neg]
    rw [e]; exact Int.tdiv_nonneg (by omega) (by omega)
  · exact Int.tdiv_nonneg (by omega) (by omega)
theorem tmod_sign {x y : Int} : (decide (x < 0) = true → x.tmod y ≤ 0) ∧ (decide (x < 0) = false → 0 ≤ x.tmod y) := by
  constructor <;> intro h <;> simp at h
  · have e : x.tmod y = -((-x).tmod y) := by rw [Int.neg_tmod, Int.neg_neg]
    have := Int.tmod_nonneg (a := -x) y (by omega)
    omega
  · exact Int.tmod_nonneg y h

set_option maxHeartbeats 1600000 in
set_option maxRecDepth 100000 in
theorem int_quorem (w : World) (p q r s : Nat) (v u x y : Int) (hp : IntAt w p v) (hq : IntAt w q x) (hr : IntAt w r y) (hs : IntAt w s u) (hps : p ≠ s) (hy : y ≠ 0) (lx : (rep x.natAbs).length ≤ 68719476736) (ly : (rep y.natAbs).length ≤ 68719476736) :
    Calls Tryz.prog 166 #[.pointer (some ⟨p, 0, none⟩), .pointer (some ⟨q, 0, none⟩), .pointer (some ⟨r, 0, none⟩), .pointer (some ⟨s, 0, none⟩)] w fun e w' => IntRes2 w w' e p s (x.tdiv y) (x.tmod y) := by
  obtain ⟨b1, a1, n1, cap1, Hb1, Hn1, hc1, hl1, hcells1⟩ := hq.use
  obtain ⟨b2, a2, n2, cap2, Hb2, Hn2, hc2, hl2, hcells2⟩ := hr.use
  rw [← Hn1.out] at lx
  rw [← Hn2.out] at ly
  obtain ⟨c0, c1⟩ := hcells1 w (Only.refl _ _)
  obtain ⟨d0, d1⟩ := hcells2 w (Only.refl _ _)
  clear hcells1 hcells2
  have hsq := @tdiv_sign x y
  have hsr := @tmod_sign x y
  rw [← Hb1.out, ← Hb2.out] at hsq
  rw [← Hb1.out] at hsr
  have HQ := Lib.hid hsq; clear hsq
  have HR := Lib.hid hsr; clear hsr
  have AQ := Lib.hid (tdiv_abs x y)
  have AR := Lib.hid (tmod_abs x y)
  have hy0 : 0 < y.natAbs := by omega
  go_enter Tryz.func166, Tryz.ntmps166
  go_wp2
  go_quiet (fail)
  go_wp2
  obtain ⟨W, hW⟩ : ∃ W, W = w.drewN nq := ⟨_, rfl⟩
  have k1 : Lay .u32 W a1 (rep x.natAbs) := by rw [hW]; exact hl1
  have k2 : Lay .u32 W a2 (rep y.natAbs) := by rw [hW]; exact hl2
  have kp : IntAt W p v := by rw [hW]; exact hp
  have ks : IntAt W s u := by rw [hW]; exact hs
  have e1 : W.cell? ⟨q, 1, none⟩ = some (.slice a1 n1 cap1) := by rw [hW]; exact c1
  have f1 : W.cell? ⟨r, 1, none⟩ = some (.slice a2 n2 cap2) := by rw [hW]; exact d1
  have hoW : Only [p, s] w W := by rw [hW]; exact (Only.refl _ _).drewN _
  rw [← hW]
  clear hW c0 c1 d0 d1
  go_upto_region 2 with fail
  go_cut [12, 13] (fun q r w' => ∃ a ca s b cb t, q = .slice a s ca ∧ r = .slice b t cb ∧ Hid (s = (rep (x.natAbs / y.natAbs)).length) ∧ Hid (t = (rep (x.natAbs % y.natAbs)).length) ∧ s ≤ ca ∧ t ≤ cb ∧ Lay .u32 w' a (rep (x.natAbs / y.natAbs)) ∧ Lay .u32 w' b (rep (x.natAbs % y.natAbs)) ∧ Below W.heap.size W w')
  case first =>
    go_wp2_with fail
    go_region_with (go_at_call 162; refine (big_quotient' _ a1 a2 x.natAbs y.natAbs n1 n2 cap1 cap2 ?_ ?_ Hn1.out Hn2.out (by omega) (by omega) hc1 hy0).mono ?_; exact k1.drew; exact k2.drew; rintro e w1 ⟨a3, c3, s3, b3, cb3, t3, rfl, h1, h2, h3, h4, h5, h6, h7⟩; have H1 := Lib.hid h1; clear h1; have H2 := Lib.hid h2; clear h2)
    all_goals go_wp2
    all_goals go_meet
    all_goals exact ⟨_, _, _, _, _, _, rfl, rfl, H1, H2, h3, h4, h5, h6, below_of_drew h7⟩
  case rest =>
    obtain ⟨a3, c3, s3, b3, cb3, t3, rfl, rfl, H1, H2, h3, h4, h5, h6, h7⟩ := hcut
    go_wp2_with fail
    refine (big_made _ p v (x.tdiv y) _ _ _ _ (kp.below h7) (by rw [AQ.out]; exact h5) (by rw [AQ.out]; exact H1.out) h3 HQ.out).mono ?_
    rintro e w2 ⟨rfl, h8, h9⟩
    have ib := IntBlocks.one (kp.below h7)
    go_wp2_with fail
    refine (big_made _ s u (x.tmod y) _ _ _ _ ((ks.below h7).only h9 (by simp; exact fun e => hps e.symm) ib) (by rw [AR.out]; exact h6.only h9 (h6.notInt ib)) (by rw [AR.out]; exact H2.out) h4 HR.out).mono ?_
    rintro e w3 ⟨rfl, h10, h11⟩
    go_wp2
    go_ret2
    refine ⟨rfl, h8.only h11 (by simp; exact hps) (IntBlocks.one ((ks.below h7).only h9 (by simp; exact fun e => hps e.symm) ib)), h10, ?_⟩
    exact hoW.trans (((Only.of_below (ps := [p, s]) h7).trans h9 (by simp)).trans h11 (by simp)) (by simp)

end Go.Proofs.YtbffpkmfhkphdaaGreatDoor
