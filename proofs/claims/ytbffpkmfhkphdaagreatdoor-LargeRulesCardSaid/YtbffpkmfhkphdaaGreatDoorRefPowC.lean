/- The walk of the reference's Pow: the main road. -/
import Derived.Test.YtbffpkmfhkphdaaGreatDoorGX44
import Derived.Test.YtbffpkmfhkphdaaGreatDoorGX24
import Derived.Deep.DeepCutAuto
set_option linter.unusedVariables false
set_option linter.unusedSimpArgs false
namespace Go.Proofs.YtbffpkmfhkphdaaGreatDoor
open Go Go.RowKit Limb

theorem cmp_one {x : Nat} (h : 2 ≤ x) : (cmpI x 1 == 0) = false := by
  unfold cmpI
  rw [if_neg (by omega), if_neg (by omega)]; rfl
/-- What Pow answers. -/
def PowRes (w w' : World) (e : Ending) (z : Int) : Prop := ∃ b a n c, e = .returned (.tuple #[.agg #[.bool b, .slice a n c], .bool (decide ((rep z.natAbs).length ≤ 1024))]) ∧ ((rep z.natAbs).length ≤ 1024 → ApiV w' (.agg #[.bool b, .slice a n c]) z) ∧ Below w.heap.size w w'
theorem pow_grows {x : Int} (hx : 2 ≤ x.natAbs) {i k : Nat} (h : i ≤ k) : (rep (x ^ i).natAbs).length ≤ (rep (x ^ k).natAbs).length := by
  rw [Int.natAbs_pow, Int.natAbs_pow]
  exact rep_mono (Nat.pow_le_pow_right (by omega) h)

theorem long_pow {x : Int} (hx : 2 ≤ x.natAbs) {k : Nat} (hk : 32768 < k) : ¬ (rep (x ^ k).natAbs).length ≤ 1024 := by
  intro h
  have h1 := rep_length_le.1 h
  rw [Int.natAbs_pow, W_two] at h1
  have h2 : 2 ^ k ≤ x.natAbs ^ k := Nat.pow_le_pow_left hx k
  have h3 := (Nat.pow_lt_pow_iff_right (by decide)).1 (Nat.lt_of_le_of_lt h2 h1)
  omega

set_option maxHeartbeats 6400000 in
set_option maxRecDepth 1000000 in
theorem ref_pow_main (w : World) (v : Value) (x : Int) (hv : ApiV w v x) (hx : 2 ≤ x.natAbs) (lx : (rep x.natAbs).length ≤ 1024) (k : Nat) (hk : k ≤ 32768) :
    Calls Tryz.prog 21 #[v, .int .i64 k] w fun e w' => PowRes w w' e (x ^ k) := by
  have HV0 := Lib.hid hv
  obtain ⟨a1, c1, rfl, hc1, hl1⟩ := hv
  obtain ⟨n1, hn1⟩ : ∃ k, k = (rep x.natAbs).length := ⟨_, rfl⟩
  obtain ⟨s1, hs1⟩ : ∃ s, s = decide (x < 0) := ⟨_, rfl⟩
  rw [← hs1, ← hn1] at HV0 ⊢
  rw [← hn1] at lx hc1
  have hn0 : n1 ≠ 0 := by
    intro h
    have h1 := rep_len_hi x.natAbs
    rw [← hn1, h, W_two] at h1
    simp at h1
    omega
  have d0 : ((n1 : Int) == 0) = false := by rw [beq_eq_false_iff_ne]; omega
  have d1 : decide (32768 < (k : Int)) = false := decide_eq_false (by omega)
  obtain ⟨W, hWe, r1, r2, hW, hsz⟩ := rows2 w 24 (.bool s1) (.slice a1 n1 c1) (.bool false) (.slice none 0 0)
  have HWe := Lib.hid hWe; clear hWe
  have HO := Lib.hid (ref_order_b (W.alloc (.cells #[.int .u32 1] 60)) a1 (some ⟨W.heap.size, 0, none⟩) x.natAbs 1 n1 1 c1 1 ((hl1.below hW).below ((Below.refl _ _).alloc (Nat.le_refl _) _)) (row1lay _ _) hn1 (by decide) (by omega) (by decide))
  have hc1' := cmp_one hx
  obtain ⟨q, hq⟩ : ∃ q, q = cmpI x.natAbs 1 := ⟨_, rfl⟩
  rw [← hq] at hc1' HO
  rw [hsz] at HO
  clear hq
  have k1 := r1.cell_at 1
  simp only [List.getElem?_cons_zero, List.getElem?_cons_succ] at k1
  clear hn1 hs1 hc1 hl1
  go_enter Tryz.func21, Tryz.ntmps21
  go_wp2_with fail
  rw [← HWe.out]
  refine HO.out.mono ?_
  rintro e w1 ⟨rfl, hb1⟩
  have hbW := below_over hb1
  have s1r := r1.below hbW r1.lt
  have s2r := r2.below hbW r2.lt
  have hB1 := hW.trans (hbW.mono hW.size)
  clear HO k1 hb1 hbW r1 r2 hW
  go_wp2_with fail
  refine (ref_of w1 1 (by decide) (by decide)).mono ?_
  rintro e w3 ⟨u, rfl, hu, hb3⟩
  obtain ⟨b0, a0, n0, c0, rfl, -⟩ := hu.open
  obtain ⟨V, hV, r3, hbV, hzV⟩ := rows1 w3 24 (.bool b0) (.slice a0 n0 c0)
  have hWV := hb3.trans (hbV.mono hb3.size)
  have r1V := s1r.below hWV s1r.lt
  have r2V := s2r.below hWV s2r.lt
  have HuV := Lib.hid (hu.below hbV)
  have hBV := hB1.trans (hWV.mono hB1.size)
  have hgs : w.heap.size + 1 < w3.heap.size := by have := hb3.size; have := s2r.lt; omega
  obtain ⟨gs, hgse⟩ : ∃ gs, gs = w3.heap.size := ⟨_, rfl⟩
  rw [← hgse] at r3 hgs
  have HV := Lib.hid hV
  have HGs := Lib.hid hgse
  clear hV hgse hu hb3 hbV hzV hWV s1r s2r hB1 hsz
  go_wp2_with fail
  rw [← HV.out, ← HGs.out]
  go_loopw [7] (fun iv wr => ∃ (i : Nat) (bs : Bool) (az : Option Addr) (ns cs : Nat), i ≤ k ∧ iv = .int .i64 (i : Nat) ∧ Row wr gs 24 [.bool bs, .slice az ns cs] ∧ Hid (ApiV wr (.agg #[.bool bs, .slice az ns cs]) (x ^ i)) ∧ Row wr w.heap.size 24 [.bool s1, .slice a1 n1 c1] ∧ Row wr (w.heap.size + 1) 24 [.bool false, .slice none 0 0] ∧ Hid ((rep (x ^ i).natAbs).length ≤ 1024) ∧ Below w.heap.size w wr) (fun iv _ => k - (intOf iv).toNat)
  case atStart => exact ⟨0, b0, a0, n0, c0, Nat.zero_le _, rfl, r3, Lib.hid (by rw [Int.pow_zero]; exact HuV.out), r1V, r2V, Lib.hid (by rw [Int.pow_zero]; decide), hBV⟩
  case round =>
    obtain ⟨i, bs, as_, ns, cs, hi, rfl, rs, Hs, ra, rr, HL, hB⟩ := hrel
    clear r3 r1V r2V HuV hBV
    have HA := Lib.hid (HV0.out.below hB)
    by_cases hik : i = k
    · have d2 : decide ((i : Int) < (k : Int)) = false := decide_eq_false (by omega)
      have j0 := rs.cell_at 0
      have j1 := rs.cell_at 1
      have k0 := rr.cell_at 0
      have k1 := rr.cell_at 1
      have k2 := rr.free 0
      have k3 := rr.free 1
      simp only [List.getElem?_cons_zero, List.getElem?_cons_succ] at j0 j1 k0 k1
      have e0 : (wr.setCell ⟨w.heap.size + 1, 0, none⟩ (.bool bs)).cell? ⟨w.heap.size + 1, 0, none⟩ = some (.bool bs) := (rr.store_any 0 _).cell_at 0
      have e1 : ((wr.setCell ⟨w.heap.size + 1, 0, none⟩ (.bool bs)).setCell ⟨w.heap.size + 1, 1, none⟩ (.slice as_ ns cs)).cell? ⟨w.heap.size + 1, 1, none⟩ = some (.slice as_ ns cs) := ((rr.store_any 0 _).store_any 1 _).cell_at 1
      have HB := Lib.hid (below_store (below_store hB (g := w.heap.size + 1) (i := 0) (by omega) (.bool bs)) (g := w.heap.size + 1) (i := 1) (by omega) (.slice as_ ns cs))
      have HF := Lib.hid (ApiV.to Hs.out (fun _ _ hl => hl.pair rr (.bool bs) (.slice as_ ns cs)))
      clear Hs ra HA
      subst hik
      go_wp2
      (try simp only [Exit.inBlock, Exit.then])
      refine bodyPost_ret (v := .tuple #[.agg #[.bool bs, .slice as_ ns cs], .bool true]) (by simp [results, Tryz.results21, go_sem, e0, e1]) rfl ?_
      exact ⟨bs, as_, ns, cs, by rw [decide_eq_true HL.out], fun _ => HF.out, HB.out⟩
    · have hlt : i < k := by omega
      have d2 : decide ((i : Int) < (k : Int)) = true := decide_eq_true (by omega)
      have j0 := rs.cell_at 0
      have j1 := rs.cell_at 1
      have k0 := ra.cell_at 0
      have k1 := ra.cell_at 1
      simp only [List.getElem?_cons_zero, List.getElem?_cons_succ] at j0 j1 k0 k1
      clear hi hik
      go_wp2_with fail
      refine (ref_mul wr _ _ (x ^ i) x Hs.out HA.out (Nat.le_trans HL.out (by decide)) (Nat.le_trans (by have := HA.out.parts.2.1; omega) (show n1 ≤ 1073741824 by omega))).mono ?_
      rintro e w5 ⟨u5, rfl, hu5, hb5⟩
      obtain ⟨b5, a5, n5, c5, rfl, -⟩ := hu5.open
      rw [← Int.pow_succ] at hu5
      have rs5 := rs.below hb5 rs.lt
      have ra5 := ra.below hb5 ra.lt
      have rr5 := rr.below hb5 rr.lt
      have hB5 := hB.trans (hb5.mono hB.size)
      have hn5 : n5 = (rep (x ^ (i + 1)).natAbs).length := hu5.parts.2.1
      have hgsr : gs ≠ w.heap.size + 1 := by omega
      have hgsa : gs ≠ w.heap.size := by omega
      have hgs0 : w.heap.size ≤ gs := by omega
      have j0 := rs5.cell_at 0
      have j1 := rs5.cell_at 1
      have f0 := rs5.free 0
      have f1 := rs5.free 1
      simp only [List.getElem?_cons_zero, List.getElem?_cons_succ] at j0 j1
      have rs6 := (rs5.store_any 0 (.bool b5)).store_any 1 (.slice a5 n5 c5)
      have ra6 := (ra5.other (a := ⟨gs, 0, none⟩) (by exact Ne.symm hgsa) (.bool b5)).other (a := ⟨gs, 1, none⟩) (by exact Ne.symm hgsa) (.slice a5 n5 c5)
      have rr6 := (rr5.other (a := ⟨gs, 0, none⟩) (by exact Ne.symm hgsr) (.bool b5)).other (a := ⟨gs, 1, none⟩) (by exact Ne.symm hgsr) (.slice a5 n5 c5)
      have HA6 := Lib.hid (ApiV.to hu5 (fun _ _ hl => hl.pair rs5 (.bool b5) (.slice a5 n5 c5)))
      have hB6 := below_store (below_store hB5 (g := gs) (i := 0) hgs0 (.bool b5)) (g := gs) (i := 1) hgs0 (.slice a5 n5 c5)
      have q1 := rs6.cell_at 1
      simp only [List.set_cons_zero, List.set_cons_succ, List.getElem?_cons_zero, List.getElem?_cons_succ] at q1
      have hn5p : n5 ≤ 1024 → (rep (x ^ (i + 1)).natAbs).length ≤ 1024 := fun h => by rw [← hn5]; exact h
      have HNN := Lib.hid hn5
      clear rs ra rr hB Hs HA HL hu5 hb5 k0 k1 rs5 ra5 rr5 hB5 hn5
      by_cases hl : n5 ≤ 1024
      · have d3 : decide (1024 < (n5 : Int)) = false := decide_eq_false (by omega)
        go_wp2
        go_roundw
        case rel => exact ⟨i + 1, b5, a5, n5, c5, hlt, by first | rfl | (congr 1), rs6, Lib.hid HA6.out, ra6, rr6, Lib.hid (hn5p hl), hB6⟩
        case measure => simp [intOf] <;> omega
      · have d3 : decide (1024 < (n5 : Int)) = true := decide_eq_true (by omega)
        have hno := Lib.hid (show ¬ (rep (x ^ k).natAbs).length ≤ 1024 by
          have h := pow_grows hx (show i + 1 ≤ k from hlt)
          rw [← HNN.out] at h
          omega)
        obtain ⟨Y, hY⟩ : ∃ Y, Y = (w5.setCell ⟨gs, 0, none⟩ (.bool b5)).setCell ⟨gs, 1, none⟩ (.slice a5 n5 c5) := ⟨_, rfl⟩
        have HYe := Lib.hid hY
        rw [← hY] at ra6 rr6 hB6
        have k0 := ra6.cell_at 0
        have k1 := ra6.cell_at 1
        have l0 := rr6.cell_at 0
        have l1 := rr6.cell_at 1
        have l2 := rr6.free 0
        have l3 := rr6.free 1
        simp only [List.getElem?_cons_zero, List.getElem?_cons_succ] at k0 k1 l0 l1
        have e0 : (Y.setCell ⟨w.heap.size + 1, 0, none⟩ (.bool s1)).cell? ⟨w.heap.size + 1, 0, none⟩ = some (.bool s1) := (rr6.store_any 0 _).cell_at 0
        have e1 : ((Y.setCell ⟨w.heap.size + 1, 0, none⟩ (.bool s1)).setCell ⟨w.heap.size + 1, 1, none⟩ (.slice a1 n1 c1)).cell? ⟨w.heap.size + 1, 1, none⟩ = some (.slice a1 n1 c1) := ((rr6.store_any 0 _).store_any 1 _).cell_at 1
        have HB := Lib.hid (below_store (below_store hB6 (g := w.heap.size + 1) (i := 0) (by omega) (.bool s1)) (g := w.heap.size + 1) (i := 1) (by omega) (.slice a1 n1 c1))
        rw [hY] at k0 k1 l0 l1 l2 l3 e0 e1
        rw [hY] at HB
        clear hY HYe rs6 ra6 rr6 hB6 HA6 HNN hn5p
        go_wp2
        (try simp only [Exit.inBlock, Exit.then])
        refine bodyPost_ret (v := .tuple #[.agg #[.bool s1, .slice a1 n1 c1], .bool false]) (by simp [results, Tryz.results21, go_sem, e0, e1]) rfl ?_
        exact ⟨s1, a1, n1, c1, by rw [decide_eq_false hno.out], fun h => absurd h hno.out, HB.out⟩

set_option maxHeartbeats 6400000 in
set_option maxRecDepth 1000000 in
theorem ref_pow_long (w : World) (v : Value) (x : Int) (hv : ApiV w v x) (hx : 2 ≤ x.natAbs) (lx : (rep x.natAbs).length ≤ 1024) (k : Nat) (hk : 32768 < k) (hk2 : k ≤ 9223372036854775807) :
    Calls Tryz.prog 21 #[v, .int .i64 k] w fun e w' => PowRes w w' e (x ^ k) := by
  have HV0 := Lib.hid hv
  obtain ⟨a1, c1, rfl, hc1, hl1⟩ := hv
  obtain ⟨n1, hn1⟩ : ∃ k, k = (rep x.natAbs).length := ⟨_, rfl⟩
  obtain ⟨s1, hs1⟩ : ∃ s, s = decide (x < 0) := ⟨_, rfl⟩
  rw [← hs1, ← hn1] at HV0 ⊢
  rw [← hn1] at lx hc1
  have hn0 : n1 ≠ 0 := by
    intro h
    have h1 := rep_len_hi x.natAbs
    rw [← hn1, h, W_two] at h1
    simp at h1
    omega
  have d0 : ((n1 : Int) == 0) = false := by rw [beq_eq_false_iff_ne]; omega
  have d1 : decide (32768 < (k : Int)) = true := decide_eq_true (by omega)
  have hno := Lib.hid (long_pow hx hk)
  obtain ⟨W, hWe, r1, r2, hW, hsz⟩ := rows2 w 24 (.bool s1) (.slice a1 n1 c1) (.bool false) (.slice none 0 0)
  have HWe := Lib.hid hWe; clear hWe
  have HO := Lib.hid (ref_order_b (W.alloc (.cells #[.int .u32 1] 60)) a1 (some ⟨W.heap.size, 0, none⟩) x.natAbs 1 n1 1 c1 1 ((hl1.below hW).below ((Below.refl _ _).alloc (Nat.le_refl _) _)) (row1lay _ _) hn1 (by decide) (by omega) (by decide))
  have hc1' := cmp_one hx
  obtain ⟨q, hq⟩ : ∃ q, q = cmpI x.natAbs 1 := ⟨_, rfl⟩
  rw [← hq] at hc1' HO
  rw [hsz] at HO
  clear hq
  have k1 := r1.cell_at 1
  simp only [List.getElem?_cons_zero, List.getElem?_cons_succ] at k1
  clear hn1 hs1 hc1 hl1
  go_enter Tryz.func21, Tryz.ntmps21
  go_wp2_with fail
  rw [← HWe.out]
  refine HO.out.mono ?_
  rintro e w1 ⟨rfl, hb1⟩
  have hbW := below_over hb1
  have s1r := r1.below hbW r1.lt
  have s2r := r2.below hbW r2.lt
  have hB1 := hW.trans (hbW.mono hW.size)
  clear HO k1 hb1 hbW r1 r2 hW HV0
  have k0 := s1r.cell_at 0
  have k1 := s1r.cell_at 1
  have l0 := s2r.cell_at 0
  have l1 := s2r.cell_at 1
  have l2 := s2r.free 0
  have l3 := s2r.free 1
  simp only [List.getElem?_cons_zero, List.getElem?_cons_succ] at k0 k1 l0 l1
  have e0 : (w1.setCell ⟨w.heap.size + 1, 0, none⟩ (.bool s1)).cell? ⟨w.heap.size + 1, 0, none⟩ = some (.bool s1) := (s2r.store_any 0 _).cell_at 0
  have e1 : ((w1.setCell ⟨w.heap.size + 1, 0, none⟩ (.bool s1)).setCell ⟨w.heap.size + 1, 1, none⟩ (.slice a1 n1 c1)).cell? ⟨w.heap.size + 1, 1, none⟩ = some (.slice a1 n1 c1) := ((s2r.store_any 0 _).store_any 1 _).cell_at 1
  have HB := Lib.hid (below_store (below_store hB1 (g := w.heap.size + 1) (i := 0) (by omega) (.bool s1)) (g := w.heap.size + 1) (i := 1) (by omega) (.slice a1 n1 c1))
  clear s1r s2r hB1
  go_wp2
  (try simp only [Exit.inBlock, Exit.then])
  refine bodyPost_ret (v := .tuple #[.agg #[.bool s1, .slice a1 n1 c1], .bool false]) (by simp [results, Tryz.results21, go_sem, e0, e1]) rfl ?_
  exact ⟨s1, a1, n1, c1, by rw [decide_eq_false hno.out], fun h => absurd h hno.out, HB.out⟩

set_option maxHeartbeats 6400000 in
set_option maxRecDepth 1000000 in
theorem ref_pow_nought (w : World) (v : Value) (hv : ApiV w v 0) (k : Nat) (hk : 0 < k) (hk2 : k ≤ 9223372036854775807) :
    Calls Tryz.prog 21 #[v, .int .i64 k] w fun e w' => PowRes w w' e (0 ^ k) := by
  rw [Int.zero_pow (by omega)]
  have HV0 := Lib.hid hv
  obtain ⟨a1, c1, rfl, hc1, hl1⟩ := hv
  rw [show (rep (0 : Int).natAbs).length = 0 from by decide, show decide ((0 : Int) < 0) = false from by decide] at HV0 ⊢
  have d1 : decide (0 < (k : Int)) = true := decide_eq_true (by omega)
  obtain ⟨W, hWe, r1, r2, hW, hsz⟩ := rows2 w 24 (.bool false) (.slice a1 0 c1) (.bool false) (.slice none 0 0)
  have HWe := Lib.hid hWe; clear hWe
  have k0 := r1.cell_at 0
  have k1 := r1.cell_at 1
  have l0 := r2.cell_at 0
  have l1 := r2.cell_at 1
  have l2 := r2.free 0
  have l3 := r2.free 1
  simp only [List.getElem?_cons_zero, List.getElem?_cons_succ] at k0 k1 l0 l1
  have e0 : (W.setCell ⟨w.heap.size + 1, 0, none⟩ (.bool false)).cell? ⟨w.heap.size + 1, 0, none⟩ = some (.bool false) := (r2.store_any 0 _).cell_at 0
  have e1 : ((W.setCell ⟨w.heap.size + 1, 0, none⟩ (.bool false)).setCell ⟨w.heap.size + 1, 1, none⟩ (.slice a1 0 c1)).cell? ⟨w.heap.size + 1, 1, none⟩ = some (.slice a1 0 c1) := ((r2.store_any 0 _).store_any 1 _).cell_at 1
  have HB0 := below_store (below_store hW (g := w.heap.size + 1) (i := 0) (by omega) (.bool false)) (g := w.heap.size + 1) (i := 1) (by omega) (.slice a1 0 c1)
  have HF0 := ApiV.to (HV0.out.below hW) (fun _ _ hl => hl.pair r2 (.bool false) (.slice a1 0 c1))
  have HB := Lib.hid HB0
  have HF := Lib.hid HF0
  clear HB0 HF0 r1 r2 hW hc1 hl1 HV0
  go_enter Tryz.func21, Tryz.ntmps21
  go_upto_region 1 with fail
  rw [← HWe.out]
  go_wp2
  (try simp only [Exit.inBlock, Exit.then])
  refine bodyPost_ret (v := .tuple #[.agg #[.bool false, .slice a1 0 c1], .bool true]) (by simp [results, Tryz.results21, go_sem, e0, e1]) rfl ?_
  exact ⟨false, a1, 0, c1, by rw [show decide ((rep (0 : Int).natAbs).length ≤ 1024) = true from by decide], fun _ => HF.out, HB.out⟩

/-- The answer of the small cases: 1 or -1. -/
def unit (neg : Bool) (k : Nat) : Int := if neg = true ∧ k % 2 = 1 then -1 else 1
set_option maxHeartbeats 6400000 in
set_option maxRecDepth 1000000 in
theorem ref_pow_unit (w : World) (v : Value) (x : Int) (hv : ApiV w v x) (hx : x.natAbs = 1) (k : Nat) (hk2 : k ≤ 9223372036854775807) :
    Calls Tryz.prog 21 #[v, .int .i64 k] w fun e w' => PowRes w w' e (unit (decide (x < 0)) k) := by
  obtain ⟨a1, c1, rfl, hc1, hl1⟩ := hv
  obtain ⟨s1, hs1⟩ : ∃ s, s = decide (x < 0) := ⟨_, rfl⟩
  rw [hx] at hl1 hc1 ⊢
  rw [← hs1]
  rw [show (rep 1).length = 1 from by decide] at hc1 ⊢
  obtain ⟨z, hz⟩ : ∃ z, z = unit s1 k := ⟨_, rfl⟩
  rw [← hz]
  obtain ⟨b, hb⟩ : ∃ b, b = ((k : Int) % 2 == 1) := ⟨_, rfl⟩
  have hbk : b = decide (k % 2 = 1) := by
    rw [hb, Bool.eq_iff_iff, beq_iff_eq, decide_eq_true_eq]; omega
  have hz1 : z.natAbs = 1 := by rw [hz]; unfold unit; split <;> rfl
  have hzs : ((s1 && b) = true → z ≤ 0) ∧ ((s1 && b) = false → 0 ≤ z) := by
    rw [hz, hbk]; unfold unit
    cases s1 <;> by_cases h : k % 2 = 1 <;> simp [h]
  obtain ⟨W, hWe, r1, r2, hW, hsz⟩ := rows2 w 24 (.bool s1) (.slice a1 1 c1) (.bool false) (.slice none 0 0)
  have HWe := Lib.hid hWe; clear hWe
  have HO := Lib.hid (ref_order_b (W.alloc (.cells #[.int .u32 1] 60)) a1 (some ⟨W.heap.size, 0, none⟩) 1 1 1 1 c1 1 ((hl1.below hW).below ((Below.refl _ _).alloc (Nat.le_refl _) _)) (row1lay _ _) (by decide) (by decide) (by omega) (by decide))
  rw [hsz, show cmpI 1 1 = 0 from by decide] at HO
  have hMade := fun (w1 : World) => ref_made (w1.alloc (.cells #[.int .u32 1] 60)) (s1 && b) (some ⟨w1.heap.size, 0, none⟩) (rep 1) 1 1 z (row1lay _ _) (rep_lim _) (by decide) (by decide) (by decide) (by rw [hz1]; decide) hzs
  have HMade := Lib.hid hMade
  have HZ1 := Lib.hid hz1
  have k1 := r1.cell_at 1
  simp only [List.getElem?_cons_zero, List.getElem?_cons_succ] at k1
  clear hc1 hl1 hMade hzs hz1 hbk hz hs1 hx
  go_enter Tryz.func21, Tryz.ntmps21
  go_wp2_with fail
  rw [← HWe.out]
  refine HO.out.mono ?_
  rintro e w1 ⟨rfl, hb1⟩
  have hbW := below_over hb1
  have s1r := r1.below hbW r1.lt
  have s2r := r2.below hbW r2.lt
  have hB1 := hW.trans (hbW.mono hW.size)
  have q0 := s1r.cell_at 0
  have q1 := s1r.cell_at 1
  simp only [List.getElem?_cons_zero, List.getElem?_cons_succ] at q0 q1
  clear HO k1 hb1 hbW r1 r2 hW hsz
  have HM := Lib.hid (HMade.out w1)
  clear HMade
  cases s1 with
  | false =>
    rw [Bool.false_and] at HM
    go_wp2_with fail
    refine HM.out.mono ?_
    rintro e w3 ⟨u, rfl, hu, hb3⟩
    obtain ⟨b5, a5, n5, c5, rfl, -⟩ := hu.open
    have hX : Below w1.heap.size w1 w3 := below_over hb3
    have t2 := s2r.below hX s2r.lt
    have l0 := t2.cell_at 0
    have l1 := t2.cell_at 1
    have l2 := t2.free 0
    have l3 := t2.free 1
    simp only [List.getElem?_cons_zero, List.getElem?_cons_succ] at l0 l1
    have e0 : (w3.setCell ⟨w.heap.size + 1, 0, none⟩ (.bool b5)).cell? ⟨w.heap.size + 1, 0, none⟩ = some (.bool b5) := (t2.store_any 0 _).cell_at 0
    have e1 : ((w3.setCell ⟨w.heap.size + 1, 0, none⟩ (.bool b5)).setCell ⟨w.heap.size + 1, 1, none⟩ (.slice a5 n5 c5)).cell? ⟨w.heap.size + 1, 1, none⟩ = some (.slice a5 n5 c5) := ((t2.store_any 0 _).store_any 1 _).cell_at 1
    have HB := Lib.hid (below_store (below_store (hB1.trans (hX.mono hB1.size)) (g := w.heap.size + 1) (i := 0) (by omega) (.bool b5)) (g := w.heap.size + 1) (i := 1) (by omega) (.slice a5 n5 c5))
    have HF := Lib.hid (ApiV.to hu (fun _ _ hl => hl.pair t2 (.bool b5) (.slice a5 n5 c5)))
    clear s1r s2r t2 hX hb3 hu hB1 q0 q1
    go_wp2
    (try simp only [Exit.inBlock, Exit.then])
    refine bodyPost_ret (v := .tuple #[.agg #[.bool b5, .slice a5 n5 c5], .bool true]) (by simp [results, Tryz.results21, go_sem, e0, e1]) rfl ?_
    exact ⟨b5, a5, n5, c5, by rw [HZ1.out, show decide ((rep 1).length ≤ 1024) = true from by decide], fun _ => HF.out, HB.out⟩
  | true =>
    rw [Bool.true_and, hb] at HM
    go_wp2_with fail
    refine HM.out.mono ?_
    rintro e w3 ⟨u, rfl, hu, hb3⟩
    obtain ⟨b5, a5, n5, c5, rfl, -⟩ := hu.open
    have hX : Below w1.heap.size w1 w3 := below_over hb3
    have t2 := s2r.below hX s2r.lt
    have l0 := t2.cell_at 0
    have l1 := t2.cell_at 1
    have l2 := t2.free 0
    have l3 := t2.free 1
    simp only [List.getElem?_cons_zero, List.getElem?_cons_succ] at l0 l1
    have e0 : (w3.setCell ⟨w.heap.size + 1, 0, none⟩ (.bool b5)).cell? ⟨w.heap.size + 1, 0, none⟩ = some (.bool b5) := (t2.store_any 0 _).cell_at 0
    have e1 : ((w3.setCell ⟨w.heap.size + 1, 0, none⟩ (.bool b5)).setCell ⟨w.heap.size + 1, 1, none⟩ (.slice a5 n5 c5)).cell? ⟨w.heap.size + 1, 1, none⟩ = some (.slice a5 n5 c5) := ((t2.store_any 0 _).store_any 1 _).cell_at 1
    have HB := Lib.hid (below_store (below_store (hB1.trans (hX.mono hB1.size)) (g := w.heap.size + 1) (i := 0) (by omega) (.bool b5)) (g := w.heap.size + 1) (i := 1) (by omega) (.slice a5 n5 c5))
    have HF := Lib.hid (ApiV.to hu (fun _ _ hl => hl.pair t2 (.bool b5) (.slice a5 n5 c5)))
    clear s1r s2r t2 hX hb3 hu hB1 q0 q1
    go_wp2
    (try simp only [Exit.inBlock, Exit.then])
    refine bodyPost_ret (v := .tuple #[.agg #[.bool b5, .slice a5 n5 c5], .bool true]) (by simp [results, Tryz.results21, go_sem, e0, e1]) rfl ?_
    exact ⟨b5, a5, n5, c5, by rw [HZ1.out, show decide ((rep 1).length ≤ 1024) = true from by decide], fun _ => HF.out, HB.out⟩

set_option maxHeartbeats 6400000 in
set_option maxRecDepth 1000000 in
theorem ref_pow_zero (w : World) (v : Value) (hv : ApiV w v 0) :
    Calls Tryz.prog 21 #[v, .int .i64 0] w fun e w' => PowRes w w' e 1 := by
  obtain ⟨a1, c1, rfl, hc1, hl1⟩ := hv
  rw [show (rep (0 : Int).natAbs).length = 0 from by decide, show decide ((0 : Int) < 0) = false from by decide]
  obtain ⟨W, hWe, r1, s2r, hB1, hsz⟩ := rows2 w 24 (.bool false) (.slice a1 0 c1) (.bool false) (.slice none 0 0)
  have HWe := Lib.hid hWe; clear hWe
  have HM := Lib.hid (ref_made (W.alloc (.cells #[.int .u32 1] 60)) false (some ⟨W.heap.size, 0, none⟩) (rep 1) 1 1 1 (row1lay _ _) (rep_lim _) (by decide) (by decide) (by decide) (by decide) (by decide))
  rw [hsz] at HM
  have q0 := r1.cell_at 0
  have q1 := r1.cell_at 1
  simp only [List.getElem?_cons_zero, List.getElem?_cons_succ] at q0 q1
  clear hc1 hl1 r1
  go_enter Tryz.func21, Tryz.ntmps21
  go_upto_region 1 with fail
  rw [← HWe.out]
  go_wp2_with fail
  refine HM.out.mono ?_
  rintro e w3 ⟨u, rfl, hu, hb3⟩
  obtain ⟨b5, a5, n5, c5, rfl, -⟩ := hu.open
  have hX : Below W.heap.size W w3 := below_over hb3
  have t2 := s2r.below hX s2r.lt
  have l0 := t2.cell_at 0
  have l1 := t2.cell_at 1
  have l2 := t2.free 0
  have l3 := t2.free 1
  simp only [List.getElem?_cons_zero, List.getElem?_cons_succ] at l0 l1
  have e0 : (w3.setCell ⟨w.heap.size + 1, 0, none⟩ (.bool b5)).cell? ⟨w.heap.size + 1, 0, none⟩ = some (.bool b5) := (t2.store_any 0 _).cell_at 0
  have e1 : ((w3.setCell ⟨w.heap.size + 1, 0, none⟩ (.bool b5)).setCell ⟨w.heap.size + 1, 1, none⟩ (.slice a5 n5 c5)).cell? ⟨w.heap.size + 1, 1, none⟩ = some (.slice a5 n5 c5) := ((t2.store_any 0 _).store_any 1 _).cell_at 1
  have HB := Lib.hid (below_store (below_store (hB1.trans (hX.mono hB1.size)) (g := w.heap.size + 1) (i := 0) (by omega) (.bool b5)) (g := w.heap.size + 1) (i := 1) (by omega) (.slice a5 n5 c5))
  have HF := Lib.hid (ApiV.to hu (fun _ _ hl => hl.pair t2 (.bool b5) (.slice a5 n5 c5)))
  clear s2r t2 hX hb3 hu hB1
  go_wp2
  (try simp only [Exit.inBlock, Exit.then])
  refine bodyPost_ret (v := .tuple #[.agg #[.bool b5, .slice a5 n5 c5], .bool true]) (by simp [results, Tryz.results21, go_sem, e0, e1]) rfl ?_
  exact ⟨b5, a5, n5, c5, by rw [show (1 : Int).natAbs = 1 from rfl, show decide ((rep 1).length ≤ 1024) = true from by decide], fun _ => HF.out, HB.out⟩

end Go.Proofs.YtbffpkmfhkphdaaGreatDoor
