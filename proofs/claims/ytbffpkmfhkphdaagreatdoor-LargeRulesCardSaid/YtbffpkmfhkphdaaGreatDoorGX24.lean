/- large.Add, Sub, Mul: a call of join each. The walk of big.power. The walk of (*Int).Mod of package big. -/
import Derived.Test.YtbffpkmfhkphdaaGreatDoorJoinC
import Derived.Test.YtbffpkmfhkphdaaGreatDoorGX21
set_option linter.unusedVariables false
set_option linter.unusedSimpArgs false
namespace Go.Proofs.YtbffpkmfhkphdaaGreatDoor
open Go Go.RowKit Limb

/-- What every answer looks like, and that it may be read at a later world. -/
theorem Answer.shape {ok : Bool} {w w' : World} {e : Ending} {z : Int} (h : Answer ok w w' e z) : ∃ b a n c k, e = .returned (.tuple #[.agg #[.bool b, .slice a n c], .int .i64 k]) ∧ Below w.heap.size w w' ∧
    (∀ w0 w2, Below w0.heap.size w0 w2 → (∀ l, Lay .u32 w' a l → Lay .u32 w2 a l) → Answer ok w0 w2 e z) := by
  unfold Answer at h
  split at h
  · rename_i hok
    obtain ⟨hb, ⟨h1, h2⟩ | ⟨h1, v, h2, a, n, cap, h3, h4, h5, h6⟩⟩ := h
    · exact ⟨_, _, _, _, _, h2, hb, fun w0 w2 hb2 _ => by unfold Answer; rw [if_pos hok]; exact ⟨hb2, .inl ⟨h1, h2⟩⟩⟩
    · subst h3
      exact ⟨_, _, _, _, _, h2, hb, fun w0 w2 hb2 hl => by unfold Answer; rw [if_pos hok]; exact ⟨hb2, .inr ⟨h1, _, h2, a, n, cap, rfl, h4, h5, hl _ h6⟩⟩⟩
  · rename_i hok
    obtain ⟨h1, hb⟩ := h
    exact ⟨_, _, _, _, _, h1, hb, fun w0 w2 hb2 _ => by unfold Answer; rw [if_neg hok]; exact ⟨h1, hb2⟩⟩

set_option maxHeartbeats 800000 in
set_option maxRecDepth 100000 in
theorem large_add (w : World) (n1 n2 : Bool) (a1 a2 : Option Addr) (l1 l2 : List Nat) (m1 m2 c1 c2 : Nat) (hy1 : Lay .u32 w a1 l1) (hy2 : Lay .u32 w a2 l2) (hl1 : Lim l1) (hl2 : Lim l2) (hm1 : m1 = l1.length) (hm2 : m2 = l2.length) (hb1 : m1 ≤ 9223372036854775807) (hb2 : m2 ≤ 9223372036854775807) :
    Calls Tryz.prog 37 #[.agg #[.bool n1, .slice a1 m1 c1], .agg #[.bool n2, .slice a2 m2 c2]] w fun e w' =>
      Answer (mayB n1 l1 && mayB n2 l2) w w' e (signed n1 (val l1) + signed n2 (val l2)) := by
  obtain ⟨r0, r1, r2, hW, hsz⟩ := rows3 w 24 (.bool n1) (.slice a1 m1 c1) (.bool n2) (.slice a2 m2 c2) (.bool false) (.slice none 0 0)
  obtain ⟨W, hWe⟩ : ∃ W, W = ((w.alloc (.cells #[.bool n1, .slice a1 m1 c1] 24)).alloc (.cells #[.bool n2, .slice a2 m2 c2] 24)).alloc (.cells #[.bool false, .slice none 0 0] 24) := ⟨_, rfl⟩
  rw [← hWe] at r0 r1 r2 hW hsz
  have HWe := Lib.hid hWe; clear hWe
  have HJ := Lib.hid (join_add W n1 n2 a1 a2 l1 l2 m1 m2 c1 c2 (hy1.below hW) (hy2.below hW) hl1 hl2 hm1 hm2 hb1 hb2)
  clear hm1 hm2
  go_enter Tryz.func37, Tryz.ntmps37
  go_wp2_with fail
  rw [← HWe.out]
  refine HJ.out.mono ?_
  rintro e w1 hans
  obtain ⟨b, a, n, c, k, rfl, hb, hnext⟩ := hans.shape
  have HN := Lib.hid hnext; clear hnext hans
  have hB1 : Below w.heap.size w w1 := hW.trans (hb.mono hW.size)
  have hR := r2.below hb r2.lt
  have k0 := hR.cell_at 0
  have k1 := hR.cell_at 1
  have k2 := hR.free 0
  have k3 := hR.free 1
  simp only [List.getElem?_cons_zero, List.getElem?_cons_succ] at k0 k1
  have e0 : (w1.setCell ⟨w.heap.size + 1 + 1, 0, none⟩ (.bool b)).cell? ⟨w.heap.size + 1 + 1, 0, none⟩ = some (.bool b) := (hR.store_any 0 _).cell_at 0
  have e1 : ((w1.setCell ⟨w.heap.size + 1 + 1, 0, none⟩ (.bool b)).setCell ⟨w.heap.size + 1 + 1, 1, none⟩ (.slice a n c)).cell? ⟨w.heap.size + 1 + 1, 1, none⟩ = some (.slice a n c) := ((hR.store_any 0 _).store_any 1 _).cell_at 1
  have HF := Lib.hid (below_store (below_store hB1 (g := w.heap.size + 1 + 1) (i := 0) (by omega) (.bool b)) (g := w.heap.size + 1 + 1) (i := 1) (by omega) (.slice a n c))
  go_wp2
  (try simp only [Exit.inBlock, Exit.then])
  refine bodyPost_ret (v := .tuple #[.agg #[.bool b, .slice a n c], .int .i64 k]) (by simp [results, Tryz.results37, go_sem, e0, e1]) rfl ?_
  exact HN.out _ _ HF.out (fun l hl => hl.pair hR _ _)

set_option maxHeartbeats 800000 in
set_option maxRecDepth 100000 in
theorem large_sub (w : World) (n1 n2 : Bool) (a1 a2 : Option Addr) (l1 l2 : List Nat) (m1 m2 c1 c2 : Nat) (hy1 : Lay .u32 w a1 l1) (hy2 : Lay .u32 w a2 l2) (hl1 : Lim l1) (hl2 : Lim l2) (hm1 : m1 = l1.length) (hm2 : m2 = l2.length) (hb1 : m1 ≤ 9223372036854775807) (hb2 : m2 ≤ 9223372036854775807) :
    Calls Tryz.prog 40 #[.agg #[.bool n1, .slice a1 m1 c1], .agg #[.bool n2, .slice a2 m2 c2]] w fun e w' =>
      Answer (mayB n1 l1 && mayB n2 l2) w w' e (signed n1 (val l1) - signed n2 (val l2)) := by
  obtain ⟨r0, r1, r2, hW, hsz⟩ := rows3 w 24 (.bool n1) (.slice a1 m1 c1) (.bool n2) (.slice a2 m2 c2) (.bool false) (.slice none 0 0)
  obtain ⟨W, hWe⟩ : ∃ W, W = ((w.alloc (.cells #[.bool n1, .slice a1 m1 c1] 24)).alloc (.cells #[.bool n2, .slice a2 m2 c2] 24)).alloc (.cells #[.bool false, .slice none 0 0] 24) := ⟨_, rfl⟩
  rw [← hWe] at r0 r1 r2 hW hsz
  have HWe := Lib.hid hWe; clear hWe
  have HJ := Lib.hid (join_sub W n1 n2 a1 a2 l1 l2 m1 m2 c1 c2 (hy1.below hW) (hy2.below hW) hl1 hl2 hm1 hm2 hb1 hb2)
  clear hm1 hm2
  go_enter Tryz.func40, Tryz.ntmps40
  go_wp2_with fail
  rw [← HWe.out]
  refine HJ.out.mono ?_
  rintro e w1 hans
  obtain ⟨b, a, n, c, k, rfl, hb, hnext⟩ := hans.shape
  have HN := Lib.hid hnext; clear hnext hans
  have hB1 : Below w.heap.size w w1 := hW.trans (hb.mono hW.size)
  have hR := r2.below hb r2.lt
  have k0 := hR.cell_at 0
  have k1 := hR.cell_at 1
  have k2 := hR.free 0
  have k3 := hR.free 1
  simp only [List.getElem?_cons_zero, List.getElem?_cons_succ] at k0 k1
  have e0 : (w1.setCell ⟨w.heap.size + 1 + 1, 0, none⟩ (.bool b)).cell? ⟨w.heap.size + 1 + 1, 0, none⟩ = some (.bool b) := (hR.store_any 0 _).cell_at 0
  have e1 : ((w1.setCell ⟨w.heap.size + 1 + 1, 0, none⟩ (.bool b)).setCell ⟨w.heap.size + 1 + 1, 1, none⟩ (.slice a n c)).cell? ⟨w.heap.size + 1 + 1, 1, none⟩ = some (.slice a n c) := ((hR.store_any 0 _).store_any 1 _).cell_at 1
  have HF := Lib.hid (below_store (below_store hB1 (g := w.heap.size + 1 + 1) (i := 0) (by omega) (.bool b)) (g := w.heap.size + 1 + 1) (i := 1) (by omega) (.slice a n c))
  go_wp2
  (try simp only [Exit.inBlock, Exit.then])
  refine bodyPost_ret (v := .tuple #[.agg #[.bool b, .slice a n c], .int .i64 k]) (by simp [results, Tryz.results40, go_sem, e0, e1]) rfl ?_
  exact HN.out _ _ HF.out (fun l hl => hl.pair hR _ _)

set_option maxHeartbeats 800000 in
set_option maxRecDepth 100000 in
theorem large_mul (w : World) (n1 n2 : Bool) (a1 a2 : Option Addr) (l1 l2 : List Nat) (m1 m2 c1 c2 : Nat) (hy1 : Lay .u32 w a1 l1) (hy2 : Lay .u32 w a2 l2) (hl1 : Lim l1) (hl2 : Lim l2) (hm1 : m1 = l1.length) (hm2 : m2 = l2.length) (hb1 : m1 ≤ 9223372036854775807) (hb2 : m2 ≤ 9223372036854775807) :
    Calls Tryz.prog 38 #[.agg #[.bool n1, .slice a1 m1 c1], .agg #[.bool n2, .slice a2 m2 c2]] w fun e w' =>
      Answer (mayB n1 l1 && mayB n2 l2) w w' e (signed n1 (val l1) * signed n2 (val l2)) := by
  obtain ⟨r0, r1, r2, hW, hsz⟩ := rows3 w 24 (.bool n1) (.slice a1 m1 c1) (.bool n2) (.slice a2 m2 c2) (.bool false) (.slice none 0 0)
  obtain ⟨W, hWe⟩ : ∃ W, W = ((w.alloc (.cells #[.bool n1, .slice a1 m1 c1] 24)).alloc (.cells #[.bool n2, .slice a2 m2 c2] 24)).alloc (.cells #[.bool false, .slice none 0 0] 24) := ⟨_, rfl⟩
  rw [← hWe] at r0 r1 r2 hW hsz
  have HWe := Lib.hid hWe; clear hWe
  have HJ := Lib.hid (join_mul W n1 n2 a1 a2 l1 l2 m1 m2 c1 c2 (hy1.below hW) (hy2.below hW) hl1 hl2 hm1 hm2 hb1 hb2)
  clear hm1 hm2
  go_enter Tryz.func38, Tryz.ntmps38
  go_wp2_with fail
  rw [← HWe.out]
  refine HJ.out.mono ?_
  rintro e w1 hans
  obtain ⟨b, a, n, c, k, rfl, hb, hnext⟩ := hans.shape
  have HN := Lib.hid hnext; clear hnext hans
  have hB1 : Below w.heap.size w w1 := hW.trans (hb.mono hW.size)
  have hR := r2.below hb r2.lt
  have k0 := hR.cell_at 0
  have k1 := hR.cell_at 1
  have k2 := hR.free 0
  have k3 := hR.free 1
  simp only [List.getElem?_cons_zero, List.getElem?_cons_succ] at k0 k1
  have e0 : (w1.setCell ⟨w.heap.size + 1 + 1, 0, none⟩ (.bool b)).cell? ⟨w.heap.size + 1 + 1, 0, none⟩ = some (.bool b) := (hR.store_any 0 _).cell_at 0
  have e1 : ((w1.setCell ⟨w.heap.size + 1 + 1, 0, none⟩ (.bool b)).setCell ⟨w.heap.size + 1 + 1, 1, none⟩ (.slice a n c)).cell? ⟨w.heap.size + 1 + 1, 1, none⟩ = some (.slice a n c) := ((hR.store_any 0 _).store_any 1 _).cell_at 1
  have HF := Lib.hid (below_store (below_store hB1 (g := w.heap.size + 1 + 1) (i := 0) (by omega) (.bool b)) (g := w.heap.size + 1 + 1) (i := 1) (by omega) (.slice a n c))
  go_wp2
  (try simp only [Exit.inBlock, Exit.then])
  refine bodyPost_ret (v := .tuple #[.agg #[.bool b, .slice a n c], .int .i64 k]) (by simp [results, Tryz.results38, go_sem, e0, e1]) rfl ?_
  exact HN.out _ _ HF.out (fun l hl => hl.pair hR _ _)

end Go.Proofs.YtbffpkmfhkphdaaGreatDoor

namespace Go.Proofs.YtbffpkmfhkphdaaGreatDoor
open Go Go.RowKit Limb

theorem pow_step {x k r T : Nat} (h : r * x ^ k = T) : (k % 2 = 0 → r * (x * x) ^ (k / 2) = T) ∧ (k % 2 = 1 → r * x * (x * x) ^ (k / 2) = T) := by
  have e : ∀ m, (x * x) ^ m = x ^ (2 * m) := fun m => by rw [Nat.pow_mul, show x ^ 2 = x * x from by rw [Nat.pow_succ, Nat.pow_one]]
  constructor
  · intro h0; rw [e, show 2 * (k / 2) = k from by omega]; exact h
  · intro h1; rw [e, Nat.mul_assoc, ← Nat.pow_succ', show (2 * (k / 2)).succ = k from by omega]; exact h
theorem pow_le {x k r T : Nat} (h : r * x ^ k = T) (hx : 0 < x) (hr : 0 < r) (hk : 0 < k) : x ≤ T ∧ r ≤ T := by
  have h1 : x ^ 1 ≤ x ^ k := Nat.pow_le_pow_right hx hk
  rw [Nat.pow_one] at h1
  have h2 : 0 < x ^ k := Nat.pow_pos hx
  constructor
  · rw [← h]; exact Nat.le_trans h1 (Nat.le_mul_of_pos_left _ hr)
  · rw [← h]; exact Nat.le_mul_of_pos_right _ h2

theorem row1lay (w : World) (t : TypeId) : Lay .u32 (w.alloc (.cells #[.int .u32 1] t)) (some ⟨w.heap.size, 0, none⟩) (rep 1) := by
  have h := (show Row (w.alloc (.cells #[.int .u32 1] t)) w.heap.size t (nums .u32 [1]) from row2slice _ _ _).lay
  rw [show rep 1 = [1] from by decide]
  exact h

set_option maxHeartbeats 1600000 in
set_option maxRecDepth 100000 in
theorem big_power (w : World) (a : Option Addr) (n c x k : Nat) (ha : Lay .u32 w a (rep x)) (hn : n = (rep x).length) (hc : n ≤ c) (hx : 0 < x) (hk : k < 18446744073709551616) (hT : (rep (x ^ k)).length ≤ 68719476736) (hX : (rep x).length ≤ 68719476736) :
    Calls Tryz.prog 160 #[.slice a n c, .int .u64 k] w fun e w' => ∃ a c s, e = .returned (.slice a s c) ∧ s = (rep (x ^ k)).length ∧ s ≤ c ∧ Lay .u32 w' a (rep (x ^ k)) ∧ Below w.heap.size w w' := by
  have Hn := Lib.hid hn; clear hn
  obtain ⟨T, hT'⟩ : ∃ T, T = x ^ k := ⟨_, rfl⟩
  rw [← hT'] at hT ⊢
  have h1 := row1lay w 60
  go_enter Tryz.func160, Tryz.ntmps160
  go_wp2
  go_loopw [0, 1, 5] (fun b e r wr => ∃ (a : Option Addr) (n c x k : Nat) (a' : Option Addr) (n' c' rr : Nat), b = .slice a n c ∧ e = .int .u64 k ∧ r = .slice a' n' c' ∧ Hid (n = (rep x).length) ∧ Hid (n' = (rep rr).length) ∧ n ≤ c ∧ n' ≤ c' ∧
      Lay .u32 wr a (rep x) ∧ Lay .u32 wr a' (rep rr) ∧ 0 < x ∧ 0 < rr ∧ Hid (rr * x ^ k = T) ∧ k < 18446744073709551616 ∧ Below w.heap.size w wr) (fun _ e _ _ => (intOf e).toNat)
  case atStart => exact ⟨a, n, c, x, k, _, _, _, 1, rfl, rfl, rfl, Hn, Lib.hid (by decide), hc, Nat.le_refl _, ha.below ((Below.refl _ _).alloc (Nat.le_refl _) _), h1, hx, by decide, Lib.hid (by rw [hT', Nat.one_mul]), hk, (Below.refl _ _).alloc (Nat.le_refl _) _⟩
  case round =>
    clear h1 ha Hn hc hx hk hX hT'
    obtain ⟨a, n, c, x, k, a', n', c', rr, rfl, rfl, rfl, Hn, Hn', hc, hc', ha, ha', hx, hr, Hv, hk, hbl⟩ := hrel
    by_cases h0 : k = 0
    · subst h0
      have hTe : Hid (rr = T) := Lib.hid (by rw [← Hv.out, Nat.pow_zero, Nat.mul_one])
      go_wp2
      go_ret
      rw [← hTe.out]
      exact ⟨_, _, _, rfl, Hn'.out, hc', ha', hbl⟩
    · obtain ⟨lx, lr⟩ := pow_le Hv.out hx hr (by omega)
      have lx' : n ≤ 1099511627776 := by rw [Hn.out]; exact Nat.le_trans (rep_mono lx) (Nat.le_trans hT (by decide))
      have lr' : n' ≤ 1099511627776 := by rw [Hn'.out]; exact Nat.le_trans (rep_mono lr) (Nat.le_trans hT (by decide))
      obtain ⟨st0, st1⟩ := pow_step Hv.out
      have eand : bits .and .u64 (k : Int) 1 = ((k % 2 : Nat) : Int) := by rw [and_one_u64 _ (by omega) (by omega), Int.natCast_emod]; rfl
      have d1 : decide (0 < k) = true := by simp; omega
      obtain ⟨h2, hh2⟩ : ∃ h2, h2 = k / 2 := ⟨_, rfl⟩
      have q0 : (k : Int) / 2 = (h2 : Int) := by omega
      have q1 : h2 < 18446744073709551616 := by omega
      have q2 : h2 < k := by omega
      rw [← hh2] at st0 st1
      have Hh := Lib.hid hh2; clear hh2
      by_cases hodd : k % 2 = 1
      · have hst := Lib.hid (st1 hodd)
        rw [hodd] at eand
        clear st0 st1 hodd lx lr
        have hrx : 0 < rr * x := Nat.mul_pos hr hx
        go_wp2_with fail
        refine (big_times' _ _ _ rr x n' n c' c ha' ha Hn'.out Hn.out lr' lx').mono ?_
        rintro e w2 ⟨a2, c2, n2, rfl, hn2, hc2, ha2, hb2⟩
        have Hn2 := Lib.hid hn2; clear hn2
        have hbl2 := hbl.trans (hb2.mono hbl.size)
        have hax := ha.below hb2
        by_cases hk1 : k = 1
        · subst hk1
          have d2 : decide ((1 : Int) < ((1 : Nat) : Int)) = false := by decide
          go_wp2_with fail
          go_roundw
          case rel => exact ⟨a, n, c, x, 0, a2, n2, c2, rr * x, rfl, rfl, rfl, Hn, Hn2, hc, hc2, hax, ha2, hx, hrx, Lib.hid (by rw [← hst.out, Hh.out, show 1 / 2 = 0 from rfl, Nat.pow_zero, Nat.pow_zero]), by decide, hbl2⟩
          case measure => simp [intOf]
        · have d2 : decide ((1 : Int) < (k : Int)) = true := by simp; omega
          go_wp2_with fail
          refine (big_times' _ _ _ x x n n c c hax hax Hn.out Hn.out lx' lx').mono ?_
          rintro e w3 ⟨a3, c3, n3, rfl, hn3, hc3, ha3, hb3⟩
          have Hn3 := Lib.hid hn3; clear hn3
          have hbl3 := hbl2.trans (hb3.mono hbl2.size)
          have ha2' := ha2.below hb3
          go_wp2_with fail
          go_roundw
          case rel => exact ⟨a3, n3, c3, x * x, h2, a2, n2, c2, rr * x, rfl, by go_num, rfl, Hn3, Hn2, hc3, hc2, ha3, ha2', Nat.mul_pos hx hx, hrx, hst, q1, hbl3⟩
          case measure => simp [intOf]; omega
      · have hodd0 : k % 2 = 0 := by omega
        have hst := Lib.hid (st0 hodd0)
        rw [hodd0] at eand
        have d2 : decide ((1 : Int) < (k : Int)) = true := by simp; omega
        clear st0 st1 hodd hodd0 lx lr
        go_wp2_with fail
        refine (big_times' _ _ _ x x n n c c ha ha Hn.out Hn.out lx' lx').mono ?_
        rintro e w3 ⟨a3, c3, n3, rfl, hn3, hc3, ha3, hb3⟩
        have Hn3 := Lib.hid hn3; clear hn3
        have hbl3 := hbl.trans (hb3.mono hbl.size)
        have ha2' := ha'.below hb3
        go_wp2_with fail
        go_roundw
        case rel => exact ⟨a3, n3, c3, x * x, h2, a', n', c', rr, rfl, by go_num, rfl, Hn3, Hn', hc3, hc', ha3, ha2', Nat.mul_pos hx hx, hr, hst, q1, hbl3⟩
        case measure => simp [intOf]; omega

end Go.Proofs.YtbffpkmfhkphdaaGreatDoor

namespace Go.Proofs.YtbffpkmfhkphdaaGreatDoor
open Go Go.RowKit Limb

theorem emod_of_tmod (x : Int) {y : Int} (hy : y ≠ 0) : (x.tmod y < 0 → ((x % y).natAbs = y.natAbs - (x.tmod y).natAbs ∧ (x.tmod y).natAbs ≤ y.natAbs)) ∧ (0 ≤ x.tmod y → (x % y).natAbs = (x.tmod y).natAbs) := by
  have e := Int.mul_tdiv_add_tmod x y
  have e' := Int.mul_ediv_add_emod x y
  have hb : (x.tmod y).natAbs < y.natAbs := by rw [tmod_abs]; exact Nat.mod_lt _ (by omega)
  have h1 := Int.emod_nonneg x hy
  have h2 := Int.emod_lt x hy
  generalize x.tdiv y = q at e
  generalize x.tmod y = r at e hb ⊢
  generalize x / y = q' at e'
  generalize x % y = r' at e' h1 h2 ⊢
  have h3 : y * (q - q') = r' - r := by rw [Int.mul_sub]; omega
  have key : ∀ k : Int, y * k = r' - r → k = 0 ∨ (k = 1 ∨ k = -1) := by
    intro k hk
    by_cases h0 : k = 0
    · exact .inl h0
    · right
      have hn : (y * k).natAbs = y.natAbs * k.natAbs := Int.natAbs_mul _ _
      have hlt : (r' - r).natAbs < 2 * y.natAbs := by omega
      rw [hk] at hn
      have : k.natAbs < 2 := by
        refine Nat.lt_of_not_le (fun hc => ?_)
        have := Nat.mul_le_mul_left y.natAbs hc
        omega
      omega
  rcases key _ h3 with h | h | h <;> rw [h] at h3 <;> constructor <;> intro _ <;> omega

set_option maxHeartbeats 1600000 in
set_option maxRecDepth 100000 in
theorem int_mod (w : World) (p q r : Nat) (v x y : Int) (hp : IntAt w p v) (hq : IntAt w q x) (hr : IntAt w r y) (hy : y ≠ 0) (lx : (rep x.natAbs).length ≤ 68719476736) (ly : (rep y.natAbs).length ≤ 68719476736) :
    Calls Tryz.prog 86 #[.pointer (some ⟨p, 0, none⟩), .pointer (some ⟨q, 0, none⟩), .pointer (some ⟨r, 0, none⟩)] w fun e w' => IntRes w w' e p (x % y) := by
  obtain ⟨b2, a2, n2, cap2, Hb2, Hn2, hc2, hl2, hcells2⟩ := hr.use
  obtain ⟨c0, c1⟩ := hcells2 w (Only.refl _ _)
  clear hcells2
  have lY : n2 ≤ 1099511627776 := by rw [Hn2.out]; exact Nat.le_trans ly (by decide)
  obtain ⟨hneg, hpos⟩ := emod_of_tmod x hy
  have hem := Int.emod_nonneg x hy
  have lr : (rep (x.tmod y).natAbs).length ≤ 68719476736 := by rw [tmod_abs]; exact Nat.le_trans (rep_mono (Nat.le_of_lt (Nat.mod_lt _ (by omega)))) ly
  go_enter Tryz.func86, Tryz.ntmps86
  go_wp2_with fail
  refine (big_clone _ a2 (rep y.natAbs) n2 cap2 hl2 Hn2.out lY).mono ?_
  rintro e w1 ⟨a3, c3, rfl, g1, g2, g3⟩
  obtain ⟨X, hX⟩ : ∃ X, X = (w1.alloc (.cells #[.bool false, .slice none 0 0] 117)).alloc (.cells #[.bool false, .slice none 0 0] 117) := ⟨_, rfl⟩
  have hB : Below w1.heap.size w1 X := by rw [hX]; exact ((Below.refl _ _).alloc (Nat.le_refl _) _).alloc (by rw [World.size_alloc]; omega) _
  have hA1 : IntAt X w1.heap.size 0 := by rw [hX]; exact (IntAt.new w1).below ((Below.refl _ _).alloc (Nat.le_refl _) _)
  have hA2 : IntAt X (w1.heap.size + 1) 0 := by rw [hX]; have := IntAt.new (w1.alloc (.cells #[.bool false, .slice none 0 0] 117)); rw [World.size_alloc] at this; exact this
  have hsz := hB.size
  have hsw := g3.size
  have hwX : Below w.heap.size w X := g3.trans (hB.mono hsw)
  have HQ := Lib.hid (int_quorem X w1.heap.size q r (w1.heap.size + 1) 0 0 x y hA1 (hq.below hwX) (hr.below hwX) hA2 (by omega) hy lx ly)
  have HX := Lib.hid hX; clear hX hA1 hA2
  go_wp2_with fail
  rw [← HX.out]
  refine HQ.out.mono ?_
  rintro e w2 ⟨rfl, k1, k2, k3⟩
  have hx2 : Below w1.heap.size w1 w2 := hB.trans (k3.belowB hsz (by intro z hz; simp only [List.mem_cons, List.not_mem_nil, or_false] at hz; omega))
  have hw2 : Below w.heap.size w w2 := g3.trans (hx2.mono hsw)
  have hlY := g2.below hx2
  have hp2 := hp.below hw2
  obtain ⟨b4, a4, n4, cap4, Hb4, Hn4, hc4, hl4, hcells4⟩ := k2.use
  obtain ⟨d0, d1⟩ := hcells4 w2 (Only.refl _ _)
  clear hcells4 HX HQ k1 k3 c0 c1
  have hb4 := Hb4.out
  have l4 : n4 ≤ 1099511627776 := by rw [Hn4.out]; exact Nat.le_trans lr (by decide)
  by_cases hn : x.tmod y < 0
  · obtain ⟨hE, hL⟩ := hneg hn
    have hbt : b4 = true := by rw [hb4]; simpa using hn
    subst hbt
    clear hb4 Hb4 hneg hpos hn
    go_wp2_with fail
    refine (big_less' _ _ _ y.natAbs (x.tmod y).natAbs n2 n4 c3 cap4 hlY hl4 Hn2.out Hn4.out lY hL).mono ?_
    rintro e w3 ⟨a5, c5, n5, rfl, hn5, hc5, hl5, hb5⟩
    rw [← hE] at hn5 hl5
    have Hn5 := Lib.hid hn5; clear hn5
    have HE := Lib.hid hE; clear hE
    go_wp2_with fail
    refine (big_made _ p v (x % y) false a5 n5 c5 (hp2.below hb5) hl5 Hn5.out hc5 ⟨(fun h => by (cases h)), fun _ => hem⟩).mono ?_
    rintro e w4 ⟨rfl, m1, m2⟩
    go_wp2
    go_ret
    exact ⟨rfl, m1, (Only.of_below (hw2.trans (hb5.mono hw2.size))).trans m2 (by simp)⟩
  · have hE := hpos (by omega)
    have hbt : b4 = false := by rw [hb4]; simpa using hn
    subst hbt
    rw [← hE] at hl4 Hn4
    clear hb4 Hb4 hneg hpos hn hE
    go_wp2_with fail
    refine (big_made _ p v (x % y) false a4 n4 cap4 hp2 hl4 Hn4.out hc4 ⟨(fun h => by (cases h)), fun _ => hem⟩).mono ?_
    rintro e w4 ⟨rfl, m1, m2⟩
    go_wp2
    go_ret
    exact ⟨rfl, m1, (Only.of_below hw2).trans m2 (by simp)⟩

end Go.Proofs.YtbffpkmfhkphdaaGreatDoor
