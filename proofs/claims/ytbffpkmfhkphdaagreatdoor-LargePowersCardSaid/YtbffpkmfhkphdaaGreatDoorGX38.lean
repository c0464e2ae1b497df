/- The walk of the reference's power: 2 to a power. The walk of the reference's Quo. The walk of the reference's Gcd. -/
import Derived.Test.YtbffpkmfhkphdaaGreatDoorGX33
import Derived.Test.YtbffpkmfhkphdaaGreatDoorGX36
import Derived.Test.YtbffpkmfhkphdaaGreatDoorGX32
import Derived.Test.YtbffpkmfhkphdaaGreatDoorDivideC
import Derived.Test.YtbffpkmfhkphdaaGreatDoorDivisorC
set_option linter.unusedVariables false
set_option linter.unusedSimpArgs false
namespace Go.Proofs.YtbffpkmfhkphdaaGreatDoor
open Go Go.RowKit Limb

theorem power_words {q s : Nat} (hs : s < 32) : (List.replicate (q + 1) 0).set q (2 ^ s) = List.replicate q 0 ++ [2 ^ s] := by
  rw [List.replicate_succ', List.set_append_right _ _ (by simp)]; simp
theorem power_val {q s : Nat} (hs : s < 32) : val ((List.replicate (q + 1) 0).set q (2 ^ s)) = 2 ^ (32 * q + s) := by
  rw [power_words hs, val_append, val_replicate, List.length_replicate, W_two, Nat.pow_add]; simp [val]

set_option maxHeartbeats 800000 in
set_option maxRecDepth 100000 in
theorem ref_power (w : World) (n : Nat) (hn : n ≤ 1048576) :
    Calls Tryz.prog 76 #[.int .i64 n] w fun e w' => ∃ u, e = .returned u ∧ ApiV w' u ((2 : Int) ^ n) ∧ Below w.heap.size w w' := by
  obtain ⟨q, hq⟩ : ∃ q, q = n / 32 := ⟨_, rfl⟩
  obtain ⟨s, hs⟩ : ∃ s, s = n % 32 := ⟨_, rfl⟩
  have e1 : (n : Int) / 32 = q := by omega
  have e2 : (n : Int) % 32 = s := by omega
  have ql : q ≤ 32768 := by omega
  have sl : s < 32 := by omega
  obtain ⟨z, hz⟩ : ∃ z : Int, z = (2 : Int) ^ n := ⟨_, rfl⟩
  have hz0 : 0 ≤ z := by rw [hz]; exact Int.pow_nonneg (by decide)
  have hv : val ((List.replicate (q + 1) 0).set q (2 ^ s)) = z.natAbs := by rw [power_val sl, hz, Int.natAbs_pow, show 32 * q + s = n by omega]; rfl
  rw [← hz]
  have Hz0 := Lib.hid hz0
  clear hq hs hz hz0 hn
  obtain ⟨p, hp⟩ : ∃ p, p = 2 ^ s := ⟨_, rfl⟩
  have ep : (2 : Int) ^ s = (p : Int) := by rw [hp, Int.natCast_pow]; rfl
  have epl : p < 4294967296 := by rw [hp]; exact Nat.pow_lt_pow_right (by decide) sl
  have ep1 : (1 : Int) * 2 ^ s = (p : Int) := by rw [Int.one_mul]; exact ep
  rw [← hp] at hv
  have HV := Lib.hid hv
  clear hp hv
  obtain ⟨W, hWe⟩ : ∃ W, W = w.alloc (.cells #[.bool false, .slice none 0 0] 24) := ⟨_, rfl⟩
  have hW : Below w.heap.size w W := by rw [hWe]; exact (Below.refl _ _).alloc (Nat.le_refl _) _
  have hWs : W.heap.size = w.heap.size + 1 := by rw [hWe, World.size_alloc]
  have r0 : Row W w.heap.size 24 [.bool false, .slice none 0 0] := by rw [hWe]; unfold Row; exact heap_alloc_new _ _
  have HWe := Lib.hid hWe; clear hWe
  have hlim : Lim ((List.replicate (q + 1) 0).set q p) := (Lim.replicate _ (by decide)).set epl
  have Hlim := Lib.hid hlim; clear hlim
  go_enter Tryz.func76, Tryz.ntmps76
  go_wp2_with (at_make; rw [← HWe.out]; refine wpList_make_row rfl _ _ _ rfl 60 (.int .u32 0) 4 Tryz.underlying22 info32 rfl _ _ _ _ (q + 1) (q + 1) rfl rfl (by simp) (by simp) (by omega) (by omega) (by omega) ?_; intro w1 g hg1 hg2 hrow hbel; rw [← nums_replicate] at hrow; have ig := row_index (P := Tryz.prog) Tryz.underlying22 size32 g (q + 1) (q + 1) .i64 (q : Int) q rfl (by omega); have hcell := hrow.cell (i := q) (by simp); have hfk := hrow.free q)
  have hr2 := hrow.store q (p : Int) p rfl
  have hB1 := hW.trans (hbel.mono hW.size)
  have hg3 : w.heap.size < g := by omega
  have hr0 := (r0.below hbel r0.lt).other (a := ⟨g, q, none⟩) (by simp; omega) (.int .u32 p)
  have hB2 := below_store hB1 (g := g) (i := q) (by omega) (.int .u32 p)
  obtain ⟨V, hV⟩ : ∃ V, V = w1.setCell ⟨g, q, none⟩ (.int .u32 p) := ⟨_, rfl⟩
  rw [← hV] at hr2 hr0 hB2 ⊢
  clear hV hrow ig hcell hfk hbel hB1
  refine (ref_made V false (some ⟨g, 0, none⟩) _ (q + 1) (q + 1) z hr2.lay Hlim.out (by simp) (by omega) (Nat.le_refl _) HV.out ⟨fun h => (by cases h), fun _ => Hz0.out⟩).mono ?_
  rintro e w4 ⟨u, rfl, hu, hb⟩
  obtain ⟨a, c, rfl, k0, k1, k2, k3, e0, e1, hf⟩ := api_store hr0 hB2 (Nat.le_refl _) hu hb
  go_wp2_with fail
  (try simp only [Exit.inBlock, Exit.then])
  refine bodyPost_ret (v := .agg #[.bool (decide (z < 0)), .slice a (rep z.natAbs).length c]) (by simp [results, Tryz.results76, go_sem, e0, e1]) rfl ?_
  exact ⟨_, rfl, hf.out⟩

end Go.Proofs.YtbffpkmfhkphdaaGreatDoor

namespace Go.Proofs.YtbffpkmfhkphdaaGreatDoor
open Go Go.RowKit Limb

theorem rows4_keep {V : World} {g : Nat} {t : TypeId} {a0 a1 b0 b1 : Value} (r0 : Row V g t [a0, a1]) (r1 : Row V (g + 1) t [b0, b1]) (hg : g + 1 + 1 ≤ V.heap.size) :
    (∀ X, Below V.heap.size V X → X.cell? ⟨g, 0, none⟩ = some a0 ∧ X.cell? ⟨g, 1, none⟩ = some a1 ∧ X.cell? ⟨g + 1, 0, none⟩ = some b0 ∧ X.cell? ⟨g + 1, 1, none⟩ = some b1) ∧
    (∀ X, Below (g + 1 + 1) V X → X.cell? ⟨g, 0, none⟩ = some a0 ∧ X.cell? ⟨g, 1, none⟩ = some a1 ∧ X.cell? ⟨g + 1, 0, none⟩ = some b0 ∧ X.cell? ⟨g + 1, 1, none⟩ = some b1) := by
  have key : ∀ X, Below (g + 1 + 1) V X → X.cell? ⟨g, 0, none⟩ = some a0 ∧ X.cell? ⟨g, 1, none⟩ = some a1 ∧ X.cell? ⟨g + 1, 0, none⟩ = some b0 ∧ X.cell? ⟨g + 1, 1, none⟩ = some b1 := fun X h => by
    have p0 := r0.below h (by omega)
    have p1 := r1.below h (by omega)
    exact ⟨p0.cell_at 0, p0.cell_at 1, p1.cell_at 0, p1.cell_at 1⟩
  exact ⟨fun X h => key X (h.mono hg), key⟩

/-- Two results stored. -/
theorem pair2 {w X : World} {g g' : Nat} (u0 u1 v0 v1 : Value) {b0 b0' : Bool} {a0 a0' : Option Addr} {n0 c0 n0' c0' : Nat} (ra : Row X g 24 [.bool b0, .slice a0 n0 c0]) (rb : Row X g' 24 [.bool b0', .slice a0' n0' c0']) (hne : g ≠ g') (hX : Below w.heap.size w X) (hg : w.heap.size ≤ g) (hg' : w.heap.size ≤ g') :
    ∃ U, U = (((X.setCell ⟨g, 0, none⟩ u0).setCell ⟨g, 1, none⟩ u1).setCell ⟨g', 0, none⟩ v0).setCell ⟨g', 1, none⟩ v1 ∧
      U.cell? ⟨g, 0, none⟩ = some u0 ∧ U.cell? ⟨g, 1, none⟩ = some u1 ∧ U.cell? ⟨g', 0, none⟩ = some v0 ∧ U.cell? ⟨g', 1, none⟩ = some v1 ∧ Below w.heap.size w U ∧ (∀ x l, Lay .u32 X x l → Lay .u32 U x l) := by
  have hrb : Row ((X.setCell ⟨g, 0, none⟩ u0).setCell ⟨g, 1, none⟩ u1) g' 24 [.bool b0', .slice a0' n0' c0'] := (rb.other (by simpa using Ne.symm hne) _).other (by simpa using Ne.symm hne) _
  refine ⟨_, rfl, ?_⟩
  have ga : Row ((((X.setCell ⟨g, 0, none⟩ u0).setCell ⟨g, 1, none⟩ u1).setCell ⟨g', 0, none⟩ v0).setCell ⟨g', 1, none⟩ v1) g 24 [u0, u1] := (((ra.store_any 0 u0).store_any 1 u1).other (by simpa using hne) _).other (by simpa using hne) _
  have gb : Row ((((X.setCell ⟨g, 0, none⟩ u0).setCell ⟨g, 1, none⟩ u1).setCell ⟨g', 0, none⟩ v0).setCell ⟨g', 1, none⟩ v1) g' 24 [v0, v1] := (hrb.store_any 0 _).store_any 1 _
  exact ⟨ga.cell_at 0, ga.cell_at 1, gb.cell_at 0, gb.cell_at 1, below_store (below_store (below_store (below_store hX hg _) hg _) hg' _) hg' _, fun x l hl => (hl.pair ra _ _).pair hrb _ _⟩
theorem ApiV.to {X U : World} {u : Value} {z : Int} (h : ApiV X u z) (hl : ∀ x l, Lay .u32 X x l → Lay .u32 U x l) : ApiV U u z := by
  obtain ⟨a, c, h1, h2, h3⟩ := h; exact ⟨a, c, h1, h2, hl _ _ h3⟩

/-- Two integers made, as an answer. -/
def QuoRes (w w' : World) (e : Ending) (q r : Int) : Prop :=
  ∃ b a n c b' a' n' c', e = .returned (.tuple #[.agg #[.bool b, .slice a n c], .agg #[.bool b', .slice a' n' c']]) ∧ ApiV w' (.agg #[.bool b, .slice a n c]) q ∧ ApiV w' (.agg #[.bool b', .slice a' n' c']) r ∧ Below w.heap.size w w'

/-- made, in a world since W: an integer. -/
theorem since_made2 {W X : World} {z : Int} {s : Bool} {a : Option Addr} {n c : Nat} (hs : (s = true → z ≤ 0) ∧ (s = false → 0 ≤ z)) (hr : Raw X a n c z.natAbs) (h : Below W.heap.size W X) :
    Calls Tryz.prog 79 #[.bool s, .slice a n c] X fun e X' => (∃ a3 c3, e = .returned (.agg #[.bool (decide (z < 0)), .slice a3 (rep z.natAbs).length c3]) ∧ Hid (ApiV X' (.agg #[.bool (decide (z < 0)), .slice a3 (rep z.natAbs).length c3]) z ∧ Below X.heap.size X X')) ∧ Below W.heap.size W X' := by
  obtain ⟨zs, h1, h2, h3, h4, h5, h6⟩ := hr
  refine (ref_made X s a zs n c z h6 h4 h1 h3 h2 h5 hs).mono ?_
  rintro e X' ⟨u, rfl, hu, hb⟩
  have hb' := h.trans (hb.mono h.size)
  obtain ⟨a3, c3, rfl, _⟩ := id hu
  exact ⟨⟨a3, c3, rfl, Lib.hid ⟨hu, hb⟩⟩, hb'⟩
theorem Raw.below {X X' : World} {a : Option Addr} {n c N : Nat} (h : Raw X a n c N) (hb : Below X.heap.size X X') : Raw X' a n c N := by
  obtain ⟨zs, h1, h2, h3, h4, h5, h6⟩ := h; exact ⟨zs, h1, h2, h3, h4, h5, h6.below hb⟩

theorem quo_sign {x y : Int} : ((decide (x < 0) != decide (y < 0)) = true → x.tdiv y ≤ 0) ∧ ((decide (x < 0) != decide (y < 0)) = false → 0 ≤ x.tdiv y) := by
  have hp : ∀ a b : Int, 0 ≤ a → 0 ≤ b → 0 ≤ a.tdiv b := fun a b ha hb => Int.tdiv_nonneg ha hb
  rcases Int.lt_or_le x 0 with hx | hx <;> rcases Int.lt_or_le y 0 with hy | hy
  · have := hp (-x) (-y) (by omega) (by omega)
    rw [Int.neg_tdiv, Int.tdiv_neg, Int.neg_neg] at this
    simp [hx, hy]; omega
  · have := hp (-x) y (by omega) hy
    rw [Int.neg_tdiv] at this
    have h2 : ¬ y < 0 := by omega
    simp [hx, h2]; omega
  · have := hp x (-y) hx (by omega)
    rw [Int.tdiv_neg] at this
    have h2 : ¬ x < 0 := by omega
    simp [hy, h2]; omega
  · have := hp x y hx hy
    have h2 : ¬ y < 0 := by omega
    have h3 : ¬ x < 0 := by omega
    simp [h2, h3]; omega
theorem rem_sign {x y : Int} : (decide (x < 0) = true → x.tmod y ≤ 0) ∧ (decide (x < 0) = false → 0 ≤ x.tmod y) := by
  constructor
  · intro h
    have h := of_decide_eq_true h
    have := Int.tmod_nonneg y (a := -x) (by omega)
    rw [Int.neg_tmod] at this; omega
  · intro h
    have h := of_decide_eq_false h
    exact Int.tmod_nonneg y (by omega)

set_option maxHeartbeats 1600000 in
set_option maxRecDepth 1000000 in
theorem ref_quo (w : World) (v1 v2 : Value) (x y : Int) (h1 : ApiV w v1 x) (h2 : ApiV w v2 y) (lx : (rep x.natAbs).length ≤ 1073741824) (ly : (rep y.natAbs).length ≤ 1073741824) (hy : y ≠ 0) :
    Calls Tryz.prog 156 #[v1, v2] w fun e w' => QuoRes w w' e (x.tdiv y) (x.tmod y) := by
  obtain ⟨a1, c1, rfl, hc1, hl1⟩ := h1
  obtain ⟨a2, c2, rfl, hc2, hl2⟩ := h2
  obtain ⟨n1, hn1⟩ : ∃ n, n = (rep x.natAbs).length := ⟨_, rfl⟩
  obtain ⟨n2, hn2⟩ : ∃ n, n = (rep y.natAbs).length := ⟨_, rfl⟩
  obtain ⟨s1, hs1⟩ : ∃ s, s = decide (x < 0) := ⟨_, rfl⟩
  obtain ⟨s2, hs2⟩ : ∃ s, s = decide (y < 0) := ⟨_, rfl⟩
  have hq := @quo_sign x y
  have hr := @rem_sign x y
  rw [← hs1, ← hs2] at hq
  rw [← hs1] at hr
  rw [← hn1] at lx
  rw [← hn2] at ly
  rw [← hs1, ← hs2, ← hn1, ← hn2]
  obtain ⟨W, hWe, r0, r1, r2, r3, hW, hsz⟩ := rows4 w 24 (.bool s1) (.slice a1 n1 c1) (.bool s2) (.slice a2 n2 c2) (.bool false) (.slice none 0 0) (.bool false) (.slice none 0 0)
  have HWe := Lib.hid hWe; clear hWe
  have hP := ref_parts W a1 a2 x.natAbs y.natAbs n1 n2 c1 c2 (hl1.below hW) (hl2.below hW) hn1 hn2 lx ly (by omega)
  rw [show x.natAbs / y.natAbs = (x.tdiv y).natAbs from (Int.natAbs_tdiv x y).symm, show x.natAbs % y.natAbs = (x.tmod y).natAbs from (Int.natAbs_tmod x y).symm] at hP
  have HP := Lib.hid hP; clear hP
  obtain ⟨q, hqv⟩ : ∃ q, q = x.tdiv y := ⟨_, rfl⟩
  obtain ⟨r, hrv⟩ : ∃ r, r = x.tmod y := ⟨_, rfl⟩
  have lq : (rep q.natAbs).length ≤ 1073741824 := by rw [hqv, Int.natAbs_tdiv]; exact Nat.le_trans (rep_mono (Nat.div_le_self _ _)) (by omega)
  have lr : (rep r.natAbs).length ≤ 1073741824 := by rw [hrv, Int.natAbs_tmod]; exact Nat.le_trans (rep_mono (Nat.mod_le _ _)) (by omega)
  rw [← hqv] at HP hq ⊢
  rw [← hrv] at HP hr ⊢
  have Hq := Lib.hid hq; clear hq
  have Hr := Lib.hid hr; clear hr
  have c0 := r0.cell_at 0
  have c01 := r0.cell_at 1
  have c10 := r1.cell_at 0
  have c11 := r1.cell_at 1
  simp only [List.getElem?_cons_zero, List.getElem?_cons_succ] at c0 c01 c10 c11
  clear hn1 hn2 hs1 hs2 hqv hrv hy
  go_enter Tryz.func156, Tryz.ntmps156
  go_wp2_with fail
  rw [← HWe.out]
  refine HP.out.mono ?_
  rintro e V ⟨aq, nq, cq, ar, nr, cr, rfl, hnq, hnr, hcq, hcr, hlq, hlr, hb⟩
  have rq : Raw V aq nq cq q.natAbs := ⟨rep q.natAbs, hnq, hcq, by omega, rep_lim _, val_rep _, hlq⟩
  have rr : Raw V ar nr cr r.natAbs := ⟨rep r.natAbs, hnr, hcr, by omega, rep_lim _, val_rep _, hlr⟩
  clear hnq hnr hlq hlr c0 c01 c10 c11
  have hWV : Below w.heap.size w V := hW.trans (hb.mono hW.size)
  have p0 := r0.below hb r0.lt
  have p1 := r1.below hb r1.lt
  have p2 := r2.below hb r2.lt
  have p3 := r3.below hb r3.lt
  have hszV := hb.size
  have c0 := p0.cell_at 0
  have c01 := p0.cell_at 1
  have c10 := p1.cell_at 0
  have c11 := p1.cell_at 1
  simp only [List.getElem?_cons_zero, List.getElem?_cons_succ] at c0 c01 c10 c11
  obtain ⟨hk, hs⟩ := rows4_keep p0 p1 (by omega)
  have HK := Lib.hid hk; clear hk
  have HS := Lib.hid hs; clear hs
  have hm : ∀ X z s a n c, ((a = aq ∧ n = nq ∧ c = cq ∧ z = q ∧ s = (s1 != s2)) ∨ (a = ar ∧ n = nr ∧ c = cr ∧ z = r ∧ s = s1)) → Below V.heap.size V X →
      Calls Tryz.prog 79 #[.bool s, .slice a n c] X fun e X' => (∃ a3 c3, e = .returned (.agg #[.bool (decide (z < 0)), .slice a3 (rep z.natAbs).length c3]) ∧ Hid (ApiV X' (.agg #[.bool (decide (z < 0)), .slice a3 (rep z.natAbs).length c3]) z ∧ Below X.heap.size X X')) ∧ Below V.heap.size V X' := by
    rintro X z s a n c (⟨rfl, rfl, rfl, rfl, rfl⟩ | ⟨rfl, rfl, rfl, rfl, rfl⟩) h
    · exact since_made2 Hq.out (rq.below h) h
    · exact since_made2 Hr.out (rr.below h) h
  have HM := Lib.hid hm; clear hm
  clear rq rr
  have hfin := fun X (h : Below V.heap.size V X) => show X.cell? ⟨w.heap.size + 1 + 1, 0, none⟩ = some (.bool false) ∧ X.cell? ⟨w.heap.size + 1 + 1, 1, none⟩ = some (.slice none 0 0) ∧ X.frozen? ⟨w.heap.size + 1 + 1, 0, none⟩ = false ∧ X.frozen? ⟨w.heap.size + 1 + 1, 1, none⟩ = false ∧
      X.cell? ⟨w.heap.size + 1 + 1 + 1, 0, none⟩ = some (.bool false) ∧ X.cell? ⟨w.heap.size + 1 + 1 + 1, 1, none⟩ = some (.slice none 0 0) ∧ X.frozen? ⟨w.heap.size + 1 + 1 + 1, 0, none⟩ = false ∧ X.frozen? ⟨w.heap.size + 1 + 1 + 1, 1, none⟩ = false from
    ⟨(p2.below h p2.lt).cell_at 0, (p2.below h p2.lt).cell_at 1, (p2.below h p2.lt).free 0, (p2.below h p2.lt).free 1, (p3.below h p3.lt).cell_at 0, (p3.below h p3.lt).cell_at 1, (p3.below h p3.lt).free 0, (p3.below h p3.lt).free 1⟩
  have HF := Lib.hid hfin; clear hfin
  have h := Below.refl V.heap.size V
  go_wp2_with fail
  go_region_held3 (fun X => (X.cell? ⟨w.heap.size, 0, none⟩ = some (.bool s1) ∧ X.cell? ⟨w.heap.size, 1, none⟩ = some (.slice a1 n1 c1) ∧ X.cell? ⟨w.heap.size + 1, 0, none⟩ = some (.bool s2) ∧ X.cell? ⟨w.heap.size + 1, 1, none⟩ = some (.slice a2 n2 c2)))
    (first | (apply HK.out; (repeat (first | exact h | apply Below.drew)); done) | (apply HS.out; (repeat (refine below_store ?_ (by omega) _)); apply Below.mono; (repeat (first | exact h | apply Below.drew)); omega))
    (first
      | (go_at_call 79; apply Calls.mono; apply HM.out; exact .inl ⟨rfl, rfl, rfl, rfl, rfl⟩; (repeat (first | exact h | apply Below.drew)); clear h; rintro e w' ⟨⟨a3, c3, rfl, hfq⟩, h⟩)
      | (go_at_call 79; apply Calls.mono; apply HM.out; exact .inr ⟨rfl, rfl, rfl, rfl, rfl⟩; (repeat (first | exact h | apply Below.drew)); clear h; rintro e w' ⟨⟨a4, c4, rfl, hfr⟩, h⟩; obtain ⟨m0, m1, m2, m3, m4, m5, m6, m7⟩ := HF.out _ h))
  have hXw := hWV.trans (h.mono hWV.size)
  obtain ⟨U, hU, f0, f1, f2, f3, hBU, hlay⟩ := pair2 (.bool (decide (q < 0))) (.slice a3 (rep q.natAbs).length c3) (.bool (decide (r < 0))) (.slice a4 (rep r.natAbs).length c4) (p2.below h p2.lt) (p3.below h p3.lt) (by omega) hXw (by omega) (by omega)
  have HU := Lib.hid hU; clear hU
  have HQ := Lib.hid (ApiV.to (hfq.out.1.below hfr.out.2) hlay)
  have HR := Lib.hid (ApiV.to hfr.out.1 hlay)
  clear hfq hfr hlay
  go_wp2
  (try simp only [Exit.inBlock, Exit.then])
  rw [← HU.out]
  refine bodyPost_ret (v := .tuple #[.agg #[.bool (decide (q < 0)), .slice a3 (rep q.natAbs).length c3], .agg #[.bool (decide (r < 0)), .slice a4 (rep r.natAbs).length c4]]) (by simp [results, Tryz.results156, go_sem, f0, f1, f2, f3]) rfl ?_
  exact ⟨_, _, _, _, _, _, _, _, rfl, HQ.out, HR.out, hBU⟩

end Go.Proofs.YtbffpkmfhkphdaaGreatDoor

namespace Go.Proofs.YtbffpkmfhkphdaaGreatDoor
open Go Go.RowKit Limb

set_option maxHeartbeats 3200000 in
set_option maxRecDepth 1000000 in
theorem ref_gcd (w : World) (v1 v2 : Value) (x y : Int) (h1 : ApiV w v1 x) (h2 : ApiV w v2 y) (lx : (rep x.natAbs).length ≤ 1048576) (ly : (rep y.natAbs).length ≤ 1048576) :
    Calls Tryz.prog 27 #[v1, v2] w fun e w' => ∃ u, e = .returned u ∧ ApiV w' u (Nat.gcd x.natAbs y.natAbs : Nat) ∧ Below w.heap.size w w' := by
  obtain ⟨a1, c1, rfl, hc1, hl1⟩ := h1
  obtain ⟨a2, c2, rfl, hc2, hl2⟩ := h2
  obtain ⟨m1, hm1⟩ : ∃ m, m = (rep x.natAbs).length := ⟨_, rfl⟩
  obtain ⟨m2, hm2⟩ : ∃ m, m = (rep y.natAbs).length := ⟨_, rfl⟩
  obtain ⟨s1, hs1⟩ : ∃ s, s = decide (x < 0) := ⟨_, rfl⟩
  obtain ⟨s2, hs2⟩ : ∃ s, s = decide (y < 0) := ⟨_, rfl⟩
  rw [← hs1, ← hm1, ← hs2, ← hm2]
  rw [← hm1] at lx hc1
  rw [← hm2] at ly hc2
  obtain ⟨r0, r1, r2, hW, hsz⟩ := rows3 w 24 (.bool s1) (.slice a1 m1 c1) (.bool s2) (.slice a2 m2 c2) (.bool false) (.slice none 0 0)
  obtain ⟨V, hV⟩ : ∃ W, W = ((w.alloc (.cells #[.bool s1, .slice a1 m1 c1] 24)).alloc (.cells #[.bool s2, .slice a2 m2 c2] 24)).alloc (.cells #[.bool false, .slice none 0 0] 24) := ⟨_, rfl⟩
  rw [← hV] at r0 r1 r2 hW hsz
  have HV := Lib.hid hV; clear hV
  have q1 := r0.cell_at 1
  have q3 := r1.cell_at 1
  simp only [List.getElem?_cons_zero, List.getElem?_cons_succ] at q1 q3
  have H1 : Hid (Num V.drew x.natAbs a1 m1 c1) := Lib.hid ⟨hm1, hc1, (hl1.below hW).drewN 1⟩
  have H2 : Hid (Num V.drew y.natAbs a2 m2 c2) := Lib.hid ⟨hm2, hc2, (hl2.below hW).drewN 1⟩
  obtain ⟨G, hG⟩ : ∃ G, G = Nat.gcd x.natAbs y.natAbs := ⟨_, rfl⟩
  rw [← hG]
  have HG := Lib.hid hG
  clear hm1 hm2 hs1 hs2 hl1 hl2 hc1 hc2 hG hsz
  go_enter Tryz.func27, Tryz.ntmps27
  go_wp2_with fail
  rw [← HV.out]
  go_region
  go_wp2_with fail
  go_loopw [5, 6] (fun xv yv wr => ∃ (p q : Nat) (ax ay : Option Addr) (nx cx ny cy : Nat), xv = .slice ax nx cx ∧ yv = .slice ay ny cy ∧ Hid (Num wr p ax nx cx) ∧ Hid (Num wr q ay ny cy) ∧ nx ≤ 1048576 ∧ ny ≤ 1048576 ∧ Hid (Nat.gcd p q = G) ∧ Row wr (w.heap.size + 1 + 1) 24 [.bool false, .slice none 0 0] ∧ Below w.heap.size w wr) (fun _ yv wr => numAt wr yv)
  case atStart => exact ⟨x.natAbs, y.natAbs, a1, a2, m1, c1, m2, c2, rfl, rfl, Lib.hid H1.out, Lib.hid H2.out, lx, ly, Lib.hid HG.out.symm, r2.drew, hW.drew⟩
  case round =>
    obtain ⟨p, q, ax, ay, nx, cx, ny, cy, rfl, rfl, Hp, Hq, lp, lq, Hg, hR, hB⟩ := hrel
    clear r0 r1 r2 q1 q3 hW H1 H2 HG lx ly
    have Hm := Lib.hid (numAt_eq (c := cy) Hq.out.2.2 Hq.out.1)
    by_cases q0 : 0 < ny
    · have d1 : decide ((0 : Int) < (ny : Int)) = true := by rw [decide_eq_true_eq]; omega
      have d1' : decide (0 < ny) = true := by rw [decide_eq_true_eq]; exact q0
      have hq0 : 0 < q := len_some Hq.out.1 q0
      have Hg2 := Lib.hid (show Nat.gcd q (p % q) = G from by rw [Nat.gcd_comm, ← Nat.gcd_rec, Nat.gcd_comm]; exact Hg.out)
      have Hrl := Lib.hid (Nat.mod_lt p hq0)
      clear q0
      go_wp2_with fail
      refine (ref_parts wr ax ay p q nx ny cx cy Hp.out.2.2 Hq.out.2.2 Hp.out.1 Hq.out.1 (by omega) (by omega) hq0).mono ?_
      rintro e w5 ⟨a3, s3, d3, a4, s4, d4, rfl, hn3, hn4, hc3, hc4, hl3, hl4, hb5⟩
      have Hq5 := Lib.hid (Hq.out.below hb5)
      have Hr5 : Hid (Num w5 (p % q) a4 s4 d4) := Lib.hid ⟨hn4, hc4, hl4⟩
      have ls4 : s4 ≤ 1048576 := by rw [hn4]; exact Nat.le_trans (rep_mono (Nat.le_of_lt Hrl.out)) (by rw [← Hq.out.1]; exact lq)
      have hB5 := hB.trans (hb5.mono hB.size)
      have hR5 := hR.below hb5 hR.lt
      have Hm2 := Lib.hid (numAt_eq (c := d4) Hr5.out.2.2 Hr5.out.1)
      clear hn3 hn4 hc3 hc4 hl3 hl4 hb5
      go_wp2_with fail
      go_roundw
      case rel => exact ⟨q, p % q, ay, a4, ny, cy, s4, d4, rfl, rfl, Lib.hid Hq5.out, Lib.hid Hr5.out, lq, ls4, Lib.hid Hg2.out, hR5, hB5⟩
      case measure => rw [Hm2.out, Hm.out]; exact Hrl.out
    · have d1 : decide ((0 : Int) < (ny : Int)) = false := by rw [decide_eq_false_iff_not]; omega
      have d1' : decide (0 < ny) = false := by rw [decide_eq_false_iff_not]; exact q0
      have hy0 : q = 0 := len_nought (by rw [← Hq.out.1]; omega)
      have Hpg : Hid (p = G) := Lib.hid (by have h := Hg.out; rwa [hy0, Nat.gcd_zero_right] at h)
      have Hmd := Lib.hid (ref_made wr false ax (rep p) nx cx (G : Nat) Hp.out.2.2 (rep_lim _) Hp.out.1 (by omega) Hp.out.2.1 (by rw [val_rep, Int.natAbs_natCast, Hpg.out]) ⟨fun h => (by cases h), fun _ => Int.natCast_nonneg _⟩)
      obtain ⟨z, hz⟩ : ∃ z : Int, z = (G : Nat) := ⟨_, rfl⟩
      rw [← hz] at Hmd
      have HZ := Lib.hid hz
      clear q0 hy0 hz
      go_wp2_with fail
      refine Hmd.out.mono ?_
      rintro e w4 ⟨u, rfl, hu, hb⟩
      obtain ⟨a, c, rfl, k0, k1, k2, k3, e0, e1, hf⟩ := api_store hR hB (by omega) hu hb
      go_wp2_with fail
      (try simp only [Exit.inBlock, Exit.then])
      refine bodyPost_ret (v := .agg #[.bool (decide (z < 0)), .slice a (rep z.natAbs).length c]) (by simp [results, Tryz.results27, go_sem, e0, e1]) rfl ?_
      rw [← HZ.out]
      exact ⟨_, rfl, hf.out⟩

end Go.Proofs.YtbffpkmfhkphdaaGreatDoor
