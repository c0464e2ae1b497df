/- The walk of the reference's Quo. The walk of the reference's Div. -/
import Derived.Test.YtbffpkmfhkphdaaGreatDoorGRefP
import Derived.Test.YtbffpkmfhkphdaaGreatDoorGRefC
import Derived.Test.YtbffpkmfhkphdaaGreatDoorGDiv
import Derived.Test.YtbffpkmfhkphdaaGreatDoorHeld
namespace Go.Proofs.YtbffpkmfhkphdaaGreatDoor
open Go Go.RowKit Limb

theorem rows4_keep {V : World} {g : Nat} {t : TypeId} {a0 a1 b0 b1 : Value} (r0 : Row V g t [a0, a1]) (r1 : Row V (g + 1) t [b0, b1]) (hg : g + 1 + 1 ≤ V.heap.size) :
    (∀ X, Below V.heap.size V X → X.cell? ⟨g, 0, none⟩ = some a0 ∧ X.cell? ⟨g, 1, none⟩ = some a1 ∧ X.cell? ⟨g + 1, 0, none⟩ = some b0 ∧ X.cell? ⟨g + 1, 1, none⟩ = some b1) ∧
    (∀ X, Below (g + 1 + 1) V X → X.cell? ⟨g, 0, none⟩ = some a0 ∧ X.cell? ⟨g, 1, none⟩ = some a1 ∧ X.cell? ⟨g + 1, 0, none⟩ = some b0 ∧ X.cell? ⟨g + 1, 1, none⟩ = some b1) := by
  have key : ∀ X, Below (g + 1 + 1) V X → X.cell? ⟨g, 0, none⟩ = some a0 ∧ X.cell? ⟨g, 1, none⟩ = some a1 ∧ X.cell? ⟨g + 1, 0, none⟩ = some b0 ∧ X.cell? ⟨g + 1, 1, none⟩ = some b1 := fun X h => by
    have p0 := r0.below h (by omega)
    have p1 := r1.below h (by omega)
    exact ⟨p0.cell_at 0, p0.cell_at 1, p1.cell_at 0, p1.cell_at 1⟩
  exact ⟨fun X h => key X (h.mono hg), key⟩

/-- Two results stored. -/
theorem pair2 {w X : World} {g g' : Nat} (u0 u1 v0 v1 : Value) {b0 b0' : Bool} {a0 a0' : Option Addr} {n0 c0 n0' c0' : Nat} (ra : Row X g 24 [.bool b0, .slice a0 n0 c0]) (rb : Row X g' 24 [.bool b0', .slice a0' n0' c0']) (hne : g ≠ g') (hX : Below w.heap.size w X) (hg : w.heap.size ≤ g) (hg' : w.heap.size ≤ g') :
    ∃ U, U = (((X.setCell ⟨g, 0, none⟩ u0).setCell ⟨g, 1, none⟩ u1).setCell ⟨g', 0, none⟩ v0).setCell ⟨g', 1, none⟩ v1 ∧
      U.cell? ⟨g, 0, none⟩ = some u0 ∧ U.cell? ⟨g, 1, none⟩ = some u1 ∧ U.cell? ⟨g', 0, none⟩ = some v0 ∧ U.cell? ⟨g', 1, none⟩ = some v1 ∧ Below w.heap.size w U ∧ (∀ x l, Lay .u32 X x l → Lay .u32 U x l) := by
  have hrb : Row ((X.setCell ⟨g, 0, none⟩ u0).setCell ⟨g, 1, none⟩ u1) g' 24 [.bool b0', .slice a0' n0' c0'] := (rb.other (by simpa using Ne.symm hne) _).other (by simpa using Ne.symm hne) _
  refine ⟨_, rfl, ?_⟩
  have ga : Row ((((X.setCell ⟨g, 0, none⟩ u0).setCell ⟨g, 1, none⟩ u1).setCell ⟨g', 0, none⟩ v0).setCell ⟨g', 1, none⟩ v1) g 24 [u0, u1] := (((ra.store_any 0 u0).store_any 1 u1).other (by simpa using hne) _).other (by simpa using hne) _
  have gb : Row ((((X.setCell ⟨g, 0, none⟩ u0).setCell ⟨g, 1, none⟩ u1).setCell ⟨g', 0, none⟩ v0).setCell ⟨g', 1, none⟩ v1) g' 24 [v0, v1] := (hrb.store_any 0 _).store_any 1 _
  exact ⟨ga.cell_at 0, ga.cell_at 1, gb.cell_at 0, gb.cell_at 1, below_store (below_store (below_store (below_store hX hg _) hg _) hg' _) hg' _, fun x l hl => (hl.pair ra _ _).pair hrb _ _⟩
theorem ApiV.to {X U : World} {u : Value} {z : Int} (h : ApiV X u z) (hl : ∀ x l, Lay .u32 X x l → Lay .u32 U x l) : ApiV U u z := by
  obtain ⟨a, c, h1, h2, h3⟩ := h; exact ⟨a, c, h1, h2, hl _ _ h3⟩

/-- Two integers made, as an answer. -/
def QuoRes (w w' : World) (e : Ending) (q r : Int) : Prop :=
  ∃ b a n c b' a' n' c', e = .returned (.tuple #[.agg #[.bool b, .slice a n c], .agg #[.bool b', .slice a' n' c']]) ∧ ApiV w' (.agg #[.bool b, .slice a n c]) q ∧ ApiV w' (.agg #[.bool b', .slice a' n' c']) r ∧ Below w.heap.size w w'

/-- made, in a world since W: an integer. -/
theorem since_made2 {W X : World} {z : Int} {s : Bool} {a : Option Addr} {n c : Nat} (hs : (s = true → z ≤ 0) ∧ (s = false → 0 ≤ z)) (hr : Raw X a n c z.natAbs) (h : Below W.heap.size W X) :
    Calls Tryz.prog 79 #[.bool s, .slice a n c] X fun e X' => (∃ a3 c3, e = .returned (.agg #[.bool (decide (z < 0)), .slice a3 (rep z.natAbs).length c3]) ∧ Hid (ApiV X' (.agg #[.bool (decide (z < 0)), .slice a3 (rep z.natAbs).length c3]) z ∧ Below X.heap.size X X')) ∧ Below W.heap.size W X' := by
  obtain ⟨zs, h1, h2, h3, h4, h5, h6⟩ := hr
  refine (ref_made X s a zs n c z h6 h4 h1 h3 h2 h5 hs).mono ?_
  rintro e X' ⟨u, rfl, hu, hb⟩
  have hb' := h.trans (hb.mono h.size)
  obtain ⟨a3, c3, rfl, _⟩ := id hu
  exact ⟨⟨a3, c3, rfl, Lib.hid ⟨hu, hb⟩⟩, hb'⟩
theorem Raw.below {X X' : World} {a : Option Addr} {n c N : Nat} (h : Raw X a n c N) (hb : Below X.heap.size X X') : Raw X' a n c N := by
  obtain ⟨zs, h1, h2, h3, h4, h5, h6⟩ := h; exact ⟨zs, h1, h2, h3, h4, h5, h6.below hb⟩

theorem quo_sign {x y : Int} : ((decide (x < 0) != decide (y < 0)) = true → x.tdiv y ≤ 0) ∧ ((decide (x < 0) != decide (y < 0)) = false → 0 ≤ x.tdiv y) := by
  have hp : ∀ a b : Int, 0 ≤ a → 0 ≤ b → 0 ≤ a.tdiv b := fun a b ha hb => Int.tdiv_nonneg ha hb
  rcases Int.lt_or_le x 0 with hx | hx <;> rcases Int.lt_or_le y 0 with hy | hy
  · have := hp (-x) (-y) (by omega) (by omega)
    rw [Int.neg_tdiv, Int.tdiv_neg, Int.neg_neg] at this
    simp [hx, hy]; omega
  · have := hp (-x) y (by omega) hy
    rw [Int.neg_tdiv] at this
    have h2 : ¬ y < 0 := by omega
    simp [hx, h2]; omega
  · have := hp x (-y) hx (by omega)
    rw [Int.tdiv_neg] at this
    have h2 : ¬ x < 0 := by omega
    simp [hy, h2]; omega
  · have := hp x y hx hy
    have h2 : ¬ y < 0 := by omega
    have h3 : ¬ x < 0 := by omega
    simp [h2, h3]; omega
theorem rem_sign {x y : Int} : (decide (x < 0) = true → x.tmod y ≤ 0) ∧ (decide (x < 0) = false → 0 ≤ x.tmod y) := by
  constructor
  · intro h
    have h := of_decide_eq_true h
    have := Int.tmod_nonneg y (a := -x) (by omega)
    rw [Int.neg_tmod] at this; omega
  · intro h
    have h := of_decide_eq_false h
    exact Int.tmod_nonneg y (by omega)

set_option maxHeartbeats 1600000 in
set_option maxRecDepth 1000000 in
theorem ref_quo (w : World) (v1 v2 : Value) (x y : Int) (h1 : ApiV w v1 x) (h2 : ApiV w v2 y) (lx : (rep x.natAbs).length ≤ 1073741824) (ly : (rep y.natAbs).length ≤ 1073741824) (hy : y ≠ 0) :
    Calls Tryz.prog 156 #[v1, v2] w fun e w' => QuoRes w w' e (x.tdiv y) (x.tmod y) := by
  obtain ⟨a1, c1, rfl, hc1, hl1⟩ := h1
  obtain ⟨a2, c2, rfl, hc2, hl2⟩ := h2
  obtain ⟨n1, hn1⟩ : ∃ n, n = (rep x.natAbs).length := ⟨_, rfl⟩
  obtain ⟨n2, hn2⟩ : ∃ n, n = (rep y.natAbs).length := ⟨_, rfl⟩
  obtain ⟨s1, hs1⟩ : ∃ s, s = decide (x < 0) := ⟨_, rfl⟩
  obtain ⟨s2, hs2⟩ : ∃ s, s = decide (y < 0) := ⟨_, rfl⟩
  have hq := @quo_sign x y
  have hr := @rem_sign x y
  rw [← hs1, ← hs2] at hq
  rw [← hs1] at hr
  rw [← hn1] at lx
  rw [← hn2] at ly
  rw [← hs1, ← hs2, ← hn1, ← hn2]
  obtain ⟨W, hWe, r0, r1, r2, r3, hW, hsz⟩ := rows4 w 24 (.bool s1) (.slice a1 n1 c1) (.bool s2) (.slice a2 n2 c2) (.bool false) (.slice none 0 0) (.bool false) (.slice none 0 0)
  have HWe := Lib.hid hWe; clear hWe
  have hP := ref_parts W a1 a2 x.natAbs y.natAbs n1 n2 c1 c2 (hl1.below hW) (hl2.below hW) hn1 hn2 lx ly (by omega)
  rw [show x.natAbs / y.natAbs = (x.tdiv y).natAbs from (Int.natAbs_tdiv x y).symm, show x.natAbs % y.natAbs = (x.tmod y).natAbs from (Int.natAbs_tmod x y).symm] at hP
  have HP := Lib.hid hP; clear hP
  obtain ⟨q, hqv⟩ : ∃ q, q = x.tdiv y := ⟨_, rfl⟩
  obtain ⟨r, hrv⟩ : ∃ r, r = x.tmod y := ⟨_, rfl⟩
  have lq : (rep q.natAbs).length ≤ 1073741824 := by rw [hqv, Int.natAbs_tdiv]; exact Nat.le_trans (rep_mono (Nat.div_le_self _ _)) (by omega)
  have lr : (rep r.natAbs).length ≤ 1073741824 := by rw [hrv, Int.natAbs_tmod]; exact Nat.le_trans (rep_mono (Nat.mod_le _ _)) (by omega)
  rw [← hqv] at HP hq ⊢
  rw [← hrv] at HP hr ⊢
  have Hq := Lib.hid hq; clear hq
  have Hr := Lib.hid hr; clear hr
  have c0 := r0.cell_at 0
  have c01 := r0.cell_at 1
  have c10 := r1.cell_at 0
  have c11 := r1.cell_at 1
  simp only [List.getElem?_cons_zero, List.getElem?_cons_succ] at c0 c01 c10 c11
  clear hn1 hn2 hs1 hs2 hqv hrv hy
  go_enter Tryz.func156, Tryz.ntmps156
  go_wp2_with fail
  rw [← HWe.out]
  refine HP.out.mono ?_
  rintro e V ⟨aq, nq, cq, ar, nr, cr, rfl, hnq, hnr, hcq, hcr, hlq, hlr, hb⟩
  have rq : Raw V aq nq cq q.natAbs := ⟨rep q.natAbs, hnq, hcq, by omega, rep_lim _, val_rep _, hlq⟩
  have rr : Raw V ar nr cr r.natAbs := ⟨rep r.natAbs, hnr, hcr, by omega, rep_lim _, val_rep _, hlr⟩
  clear hnq hnr hlq hlr c0 c01 c10 c11
  have hWV : Below w.heap.size w V := hW.trans (hb.mono hW.size)
  have p0 := r0.below hb r0.lt
  have p1 := r1.below hb r1.lt
  have p2 := r2.below hb r2.lt
  have p3 := r3.below hb r3.lt
  have hszV := hb.size
  have c0 := p0.cell_at 0
  have c01 := p0.cell_at 1
  have c10 := p1.cell_at 0
  have c11 := p1.cell_at 1
  simp only [List.getElem?_cons_zero, List.getElem?_cons_succ] at c0 c01 c10 c11
  obtain ⟨hk, hs⟩ := rows4_keep p0 p1 (by omega)
  have HK := Lib.hid hk; clear hk
  have HS := Lib.hid hs; clear hs
  have hm : ∀ X z s a n c, ((a = aq ∧ n = nq ∧ c = cq ∧ z = q ∧ s = (s1 != s2)) ∨ (a = ar ∧ n = nr ∧ c = cr ∧ z = r ∧ s = s1)) → Below V.heap.size V X →
      Calls Tryz.prog 79 #[.bool s, .slice a n c] X fun e X' => (∃ a3 c3, e = .returned (.agg #[.bool (decide (z < 0)), .slice a3 (rep z.natAbs).length c3]) ∧ Hid (ApiV X' (.agg #[.bool (decide (z < 0)), .slice a3 (rep z.natAbs).length c3]) z ∧ Below X.heap.size X X')) ∧ Below V.heap.size V X' := by
    rintro X z s a n c (⟨rfl, rfl, rfl, rfl, rfl⟩ | ⟨rfl, rfl, rfl, rfl, rfl⟩) h
    · exact since_made2 Hq.out (rq.below h) h
    · exact since_made2 Hr.out (rr.below h) h
  have HM := Lib.hid hm; clear hm
  clear rq rr
  have hfin := fun X (h : Below V.heap.size V X) => show X.cell? ⟨w.heap.size + 1 + 1, 0, none⟩ = some (.bool false) ∧ X.cell? ⟨w.heap.size + 1 + 1, 1, none⟩ = some (.slice none 0 0) ∧ X.frozen? ⟨w.heap.size + 1 + 1, 0, none⟩ = false ∧ X.frozen? ⟨w.heap.size + 1 + 1, 1, none⟩ = false ∧
      X.cell? ⟨w.heap.size + 1 + 1 + 1, 0, none⟩ = some (.bool false) ∧ X.cell? ⟨w.heap.size + 1 + 1 + 1, 1, none⟩ = some (.slice none 0 0) ∧ X.frozen? ⟨w.heap.size + 1 + 1 + 1, 0, none⟩ = false ∧ X.frozen? ⟨w.heap.size + 1 + 1 + 1, 1, none⟩ = false from
    ⟨(p2.below h p2.lt).cell_at 0, (p2.below h p2.lt).cell_at 1, (p2.below h p2.lt).free 0, (p2.below h p2.lt).free 1, (p3.below h p3.lt).cell_at 0, (p3.below h p3.lt).cell_at 1, (p3.below h p3.lt).free 0, (p3.below h p3.lt).free 1⟩
  have HF := Lib.hid hfin; clear hfin
  have h := Below.refl V.heap.size V
  go_wp2_with fail
  go_region_held3 (fun X => (X.cell? ⟨w.heap.size, 0, none⟩ = some (.bool s1) ∧ X.cell? ⟨w.heap.size, 1, none⟩ = some (.slice a1 n1 c1) ∧ X.cell? ⟨w.heap.size + 1, 0, none⟩ = some (.bool s2) ∧ X.cell? ⟨w.heap.size + 1, 1, none⟩ = some (.slice a2 n2 c2)))
    (first | (apply HK.out; (repeat (first | exact h | apply Below.drew)); done) | (apply HS.out; (repeat (refine below_store ?_ (by omega) _)); apply Below.mono; (repeat (first | exact h | apply Below.drew)); omega))
    (first
      | (go_at_call 79; apply Calls.mono; apply HM.out; exact .inl ⟨rfl, rfl, rfl, rfl, rfl⟩; (repeat (first | exact h | apply Below.drew)); clear h; rintro e w' ⟨⟨a3, c3, rfl, hfq⟩, h⟩)
      | (go_at_call 79; apply Calls.mono; apply HM.out; exact .inr ⟨rfl, rfl, rfl, rfl, rfl⟩; (repeat (first | exact h | apply Below.drew)); clear h; rintro e w' ⟨⟨a4, c4, rfl, hfr⟩, h⟩; obtain ⟨m0, m1, m2, m3, m4, m5, m6, m7⟩ := HF.out _ h))
  have hXw := hWV.trans (h.mono hWV.size)
  obtain ⟨U, hU, f0, f1, f2, f3, hBU, hlay⟩ := pair2 (.bool (decide (q < 0))) (.slice a3 (rep q.natAbs).length c3) (.bool (decide (r < 0))) (.slice a4 (rep r.natAbs).length c4) (p2.below h p2.lt) (p3.below h p3.lt) (by omega) hXw (by omega) (by omega)
  have HU := Lib.hid hU; clear hU
  have HQ := Lib.hid (ApiV.to (hfq.out.1.below hfr.out.2) hlay)
  have HR := Lib.hid (ApiV.to hfr.out.1 hlay)
  clear hfq hfr hlay
  go_wp2
  (try simp only [Exit.inBlock, Exit.then])
  rw [← HU.out]
  refine bodyPost_ret (v := .tuple #[.agg #[.bool (decide (q < 0)), .slice a3 (rep q.natAbs).length c3], .agg #[.bool (decide (r < 0)), .slice a4 (rep r.natAbs).length c4]]) (by simp [results, Tryz.results156, go_sem, f0, f1, f2, f3]) rfl ?_
  exact ⟨_, _, _, _, _, _, _, _, rfl, HQ.out, HR.out, hBU⟩

end Go.Proofs.YtbffpkmfhkphdaaGreatDoor

namespace Go.Proofs.YtbffpkmfhkphdaaGreatDoor
open Go Go.RowKit Limb

theorem ApiV.parts {V : World} {b : Bool} {a : Option Addr} {n c : Nat} {z : Int} (h : ApiV V (.agg #[.bool b, .slice a n c]) z) : b = decide (z < 0) ∧ n = (rep z.natAbs).length ∧ n ≤ c ∧ Lay .u32 V a (rep z.natAbs) := by
  obtain ⟨a', c', e, h2, h3⟩ := h
  simp only [Value.agg.injEq, List.toArray_inj, List.cons.injEq, Array.mk.injEq, Value.bool.injEq, Value.slice.injEq, and_true] at e
  obtain ⟨rfl, rfl, rfl, rfl⟩ := e
  exact ⟨rfl, rfl, h2, h3⟩

theorem pair2_row {X U : World} {g g' h : Nat} {t : TypeId} {cs : List Value} {u0 u1 v0 v1 : Value} (hU : U = (((X.setCell ⟨g, 0, none⟩ u0).setCell ⟨g, 1, none⟩ u1).setCell ⟨g', 0, none⟩ v0).setCell ⟨g', 1, none⟩ v1) (hr : Row X h t cs) (h1 : h ≠ g) (h2 : h ≠ g') : Row U h t cs := by
  rw [hU]; exact (((hr.other (by exact h1) _).other (by exact h1) _).other (by exact h2) _).other (by exact h2) _

/-- Two pairs of cells and a third. -/
def Six (k g : Nat) (bq : Bool) (aq : Option Addr) (nq cq : Nat) (br : Bool) (ar : Option Addr) (nr cr : Nat) (s2 : Bool) (a2 : Option Addr) (n2 c2 : Nat) (X : World) : Prop :=
  X.cell? ⟨k, 0, none⟩ = some (.bool bq) ∧ X.cell? ⟨k, 1, none⟩ = some (.slice aq nq cq) ∧ X.cell? ⟨k + 1, 0, none⟩ = some (.bool br) ∧ X.cell? ⟨k + 1, 1, none⟩ = some (.slice ar nr cr) ∧ X.cell? ⟨g, 0, none⟩ = some (.bool s2) ∧ X.cell? ⟨g, 1, none⟩ = some (.slice a2 n2 c2)

set_option maxHeartbeats 1600000 in
set_option maxRecDepth 1000000 in
theorem ref_div (w : World) (v1 v2 : Value) (x y : Int) (h1 : ApiV w v1 x) (h2 : ApiV w v2 y) (lx : (rep x.natAbs).length ≤ 1048576) (ly : (rep y.natAbs).length ≤ 1048576) (hy : y ≠ 0) :
    Calls Tryz.prog 77 #[v1, v2] w fun e w' => QuoRes w w' e (x.fdiv y) (x.fmod y) := by
  have h1' := h1
  have h2' := h2
  obtain ⟨a1, c1, rfl, hc1, hl1⟩ := h1
  obtain ⟨a2, c2, rfl, hc2, hl2⟩ := h2
  obtain ⟨n1, hn1⟩ : ∃ n, n = (rep x.natAbs).length := ⟨_, rfl⟩
  obtain ⟨n2, hn2⟩ : ∃ n, n = (rep y.natAbs).length := ⟨_, rfl⟩
  obtain ⟨s1, hs1⟩ : ∃ s, s = decide (x < 0) := ⟨_, rfl⟩
  obtain ⟨s2, hs2⟩ : ∃ s, s = decide (y < 0) := ⟨_, rfl⟩
  rw [← hs1, ← hn1] at h1' ⊢
  rw [← hs2, ← hn2] at h2' ⊢
  obtain ⟨W, hWe, r0, r1, r2, r3, hW, hsz⟩ := rows4 w 24 (.bool s1) (.slice a1 n1 c1) (.bool s2) (.slice a2 n2 c2) (.bool false) (.slice none 0 0) (.bool false) (.slice none 0 0)
  have HWe := Lib.hid hWe; clear hWe
  have hQ := ref_quo W _ _ x y (h1'.below hW) (h2'.below hW) (by omega) (by omega) hy
  obtain ⟨q, hqv⟩ : ∃ q, q = x.tdiv y := ⟨_, rfl⟩
  obtain ⟨r, hrv⟩ : ∃ r, r = x.tmod y := ⟨_, rfl⟩
  have lq : (rep q.natAbs).length ≤ 1048576 := by rw [hqv, Int.natAbs_tdiv]; exact Nat.le_trans (rep_mono (Nat.div_le_self _ _)) (by omega)
  have lr : (rep r.natAbs).length ≤ 1048576 := by rw [hrv, Int.natAbs_tmod]; exact Nat.le_trans (rep_mono (Nat.mod_le _ _)) (by omega)
  rw [← hqv, ← hrv] at hQ
  have HQ := Lib.hid hQ; clear hQ
  have c0 := r0.cell_at 0
  have c01 := r0.cell_at 1
  have c10 := r1.cell_at 0
  have c11 := r1.cell_at 1
  simp only [List.getElem?_cons_zero, List.getElem?_cons_succ] at c0 c01 c10 c11
  have Hn1 := Lib.hid hn1; clear hn1
  have Hn2 := Lib.hid hn2; clear hn2
  have Hs1 := Lib.hid hs1; clear hs1
  have Hs2 := Lib.hid hs2; clear hs2
  have Hqv := Lib.hid hqv; clear hqv
  have Hrv := Lib.hid hrv; clear hrv
  go_enter Tryz.func77, Tryz.ntmps77
  go_wp2_with fail
  rw [← HWe.out]
  refine HQ.out.mono ?_
  rintro e V ⟨bq, aq, nq, cq, br, ar, nr, cr, rfl, huq, hur, hb⟩
  clear c0 c01 c10 c11
  have hWV : Below w.heap.size w V := hW.trans (hb.mono hW.size)
  have hszV := hb.size
  obtain ⟨eb1, en1, hcq, hlq⟩ := huq.parts
  obtain ⟨eb2, en2, hcr, hlr⟩ := hur.parts
  obtain ⟨k, hk⟩ : ∃ k, k = V.heap.size := ⟨_, rfl⟩
  obtain ⟨U, hU⟩ : ∃ U, U = (V.alloc (.cells #[.bool bq, .slice aq nq cq] 24)).alloc (.cells #[.bool br, .slice ar nr cr] 24) := ⟨_, rfl⟩
  have hVU : Below V.heap.size V U := by rw [hU]; exact ((Below.refl _ _).alloc (Nat.le_refl _) _).alloc (by rw [World.size_alloc]; omega) _
  have hWU : Below w.heap.size w U := hWV.trans (hVU.mono hWV.size)
  have hbU := hb.trans (hVU.mono hb.size)
  have u0 := r0.below hbU r0.lt
  have u1 := r1.below hbU r1.lt
  have u2 := r2.below hbU r2.lt
  have u3 := r3.below hbU r3.lt
  have u6 : Row U k 24 [.bool bq, .slice aq nq cq] := by rw [hU, hk]; apply Row.alloc; unfold Row; exact heap_alloc_new _ _
  have u7 : Row U (k + 1) 24 [.bool br, .slice ar nr cr] := by
    have h := heap_alloc_new (V.alloc (.cells #[.bool bq, .slice aq nq cq] 24)) (.cells #[.bool br, .slice ar nr cr] 24)
    rw [World.size_alloc, ← hk] at h
    rw [hU]; exact h
  have hk4 : w.heap.size + 1 + 1 + 1 < k := by omega
  have HU := Lib.hid hU; clear hU
  have Hk := Lib.hid hk; clear hk
  have k10 := u1.cell_at 0
  have k11 := u1.cell_at 1
  have k60 := u6.cell_at 0
  have k61 := u6.cell_at 1
  have k70 := u7.cell_at 0
  have k71 := u7.cell_at 1
  have k40 := u2.cell_at 0
  have k41 := u2.cell_at 1
  have k50 := u3.cell_at 0
  have k51 := u3.cell_at 1
  have f40 := u2.free 0
  have f41 := u2.free 1
  have f50 := u3.free 0
  have f51 := u3.free 1
  simp only [List.getElem?_cons_zero, List.getElem?_cons_succ] at k10 k11 k60 k61 k70 k71 k40 k41 k50 k51
  have k10' := k10
  rw [HU.out] at k10'
  have m46 : w.heap.size + 1 + 1 ≠ k := by omega
  have m47 : w.heap.size + 1 + 1 ≠ k + 1 := by omega
  have m56 : w.heap.size + 1 + 1 + 1 ≠ k := by omega
  have m57 : w.heap.size + 1 + 1 + 1 ≠ k + 1 := by omega
  have m64 : k ≠ w.heap.size + 1 + 1 := by omega
  have m74 : k + 1 ≠ w.heap.size + 1 + 1 := by omega
  have m65 : k ≠ w.heap.size + 1 + 1 + 1 := by omega
  have m75 : k + 1 ≠ w.heap.size + 1 + 1 + 1 := by omega
  obtain ⟨fix1, fix2⟩ := floor_fix (x := x) hy
  rw [← Hrv.out, ← Hqv.out] at fix1 fix2
  by_cases hfix : r ≠ 0 ∧ br ≠ s2
  · obtain ⟨hr0, hbr⟩ := hfix
    have hd : Hid (x.fdiv y = q - 1 ∧ x.fmod y = r + y) := Lib.hid (fix1 (by rw [Ne, sgnI_zero]; exact hr0) (by
      rw [Ne, sgnI_eq]
      rw [eb2, Hs2.out, Ne, decide_eq_decide] at hbr
      exact fun h => hbr h.1))
    have d1 : decide (0 < nr) = true := by rw [decide_eq_true_eq, en2]; have := rep_length_zero (n := r.natAbs); omega
    have hbs : (br != s2) = true := by rw [bne_iff_ne]; exact hbr
    have hbs2 : (br == s2) = false := by rw [beq_eq_false_iff_ne]; exact hbr
    have huqU := huq.below hVU
    have hurU := hur.below hVU
    have huyU := h2'.below hWU
    have HOf := Lib.hid (fun X (h : Below U.heap.size U X) => (ref_of X 1 (by decide) (by decide)).mono fun e X' he => show (∃ b a n c, e = .returned (.agg #[.bool b, .slice a n c]) ∧ ApiV X' (.agg #[.bool b, .slice a n c]) 1) ∧ Below U.heap.size U X' from by
      obtain ⟨u, rfl, hu, hb⟩ := he
      obtain ⟨a, c, rfl, _⟩ := id hu
      exact ⟨⟨_, _, _, _, rfl, hu⟩, h.trans (hb.mono h.size)⟩)
    have HSu := Lib.hid (fun X b a n c (hv : ApiV X (.agg #[.bool b, .slice a n c]) 1) (h : Below U.heap.size U X) => (ref_sub X _ _ q 1 (huqU.below h) hv (by omega) (by decide)).mono fun e X' he => show (∃ b a n c, e = .returned (.agg #[.bool b, .slice a n c]) ∧ ApiV X' (.agg #[.bool b, .slice a n c]) (q - 1)) ∧ Below U.heap.size U X' from by
      obtain ⟨u, rfl, hu, hb⟩ := he
      obtain ⟨a, c, rfl, _⟩ := id hu
      exact ⟨⟨_, _, _, _, rfl, hu⟩, h.trans (hb.mono h.size)⟩)
    have HAd := Lib.hid (fun X (h : Below U.heap.size U X) => (ref_add X _ _ r y (hurU.below h) (huyU.below h) (by omega) (by omega)).mono fun e X' he => show (∃ b a n c, e = .returned (.agg #[.bool b, .slice a n c]) ∧ Hid (ApiV X' (.agg #[.bool b, .slice a n c]) (r + y) ∧ Below X.heap.size X X')) ∧ Below U.heap.size U X' from by
      obtain ⟨u, rfl, hu, hb⟩ := he
      obtain ⟨a, c, rfl, _⟩ := id hu
      exact ⟨⟨_, _, _, _, rfl, Lib.hid ⟨hu, hb⟩⟩, h.trans (hb.mono h.size)⟩)
    have hsix := fun X (h : Below U.heap.size U X) => show Six k (w.heap.size + 1) bq aq nq cq br ar nr cr s2 a2 n2 c2 X from
      ⟨(u6.below h u6.lt).cell_at 0, (u6.below h u6.lt).cell_at 1, (u7.below h u7.lt).cell_at 0, (u7.below h u7.lt).cell_at 1, (u1.below h u1.lt).cell_at 0, (u1.below h u1.lt).cell_at 1⟩
    have H6 := Lib.hid hsix; clear hsix
    have h0 : Below U.heap.size U U.drew := (Below.refl _ _).drew
    have hS := H6.out _ h0
    clear fix1 fix2 huq hur eb1 en1 eb2 en2 hr0 hbr huqU hurU huyU
    go_wp2_with fail
    rw [← HU.out, ← Hk.out]
    refine wp_region_S (n := 6) (S := Six k (w.heap.size + 1) bq aq nq cq br ar nr cr s2 a2 n2 c2) (by kernel_rfl) (by decide) (fun inv => ?_)
    refine wpAnyS_take_at (i := 0) (v := .agg #[.bool bq, .slice aq nq cq]) 25 inv rfl rfl (by kernel_rfl) (by kernel_rfl) (by kernel_rfl) (by decide) (by decide) (by kernel_rfl) (by kernel_rfl) (fun _ _ _ h => h) (.inl ⟨rfl, fun w hS => by obtain ⟨h0, h1, h2, h3, h4, h5⟩ := hS; go_simp⟩) hS (fun inv => ?_)
    simp only [Act.put, List.setIfInBounds_toArray, List.set_cons_zero, List.set_cons_succ]
    refine wpAnyS_take_at (i := 3) (v := .agg #[.bool br, .slice ar nr cr]) 28 inv rfl rfl (by kernel_rfl) (by kernel_rfl) (by kernel_rfl) (by decide) (by decide) (by kernel_rfl) (by kernel_rfl) (fun _ _ _ h => h) (.inl ⟨rfl, fun w hS => by obtain ⟨h0, h1, h2, h3, h4, h5⟩ := hS; go_simp⟩) hS (fun inv => ?_)
    simp only [Act.put, List.setIfInBounds_toArray, List.set_cons_zero, List.set_cons_succ]
    refine wpAnyS_take_at (i := 4) (v := .agg #[.bool s2, .slice a2 n2 c2]) 29 inv rfl rfl (by kernel_rfl) (by kernel_rfl) (by kernel_rfl) (by decide) (by decide) (by kernel_rfl) (by kernel_rfl) (fun _ _ _ h => h) (.inl ⟨rfl, fun w hS => by obtain ⟨h0, h1, h2, h3, h4, h5⟩ := hS; go_simp⟩) hS (fun inv => ?_)
    simp only [Act.put, List.setIfInBounds_toArray, List.set_cons_zero, List.set_cons_succ]
    refine wpAnyS_one (i := 1) inv (by decide) (by kernel_rfl) (fun inv => ?_)
    unfold wpOp
    go_simp
    refine .inl ((HOf.out _ h0).mono ?_)
    rintro e X1 ⟨⟨b1, b2, b3, b4, rfl, hone⟩, hX1⟩
    refine ⟨H6.out _ hX1, ?_⟩
    refine wpAnyS_one (i := 2) inv (by decide) (by kernel_rfl) (fun inv => ?_)
    unfold wpOp
    go_simp
    refine .inl ((HSu.out _ _ _ _ _ hone hX1).mono ?_)
    rintro e X2 ⟨⟨q1, q2, q3, q4, rfl, hq⟩, hX2⟩
    clear hone
    refine ⟨H6.out _ hX2, ?_⟩
    refine wpAnyS_one (i := 5) inv (by decide) (by kernel_rfl) (fun inv => ?_)
    unfold wpOp
    go_simp
    refine .inl ((HAd.out _ hX2).mono ?_)
    rintro e X3 ⟨⟨t1, t2, t3, t4, rfl, ht⟩, hX3⟩
    refine ⟨H6.out _ hX3, ?_⟩
    refine wpAnyS_tail (by decide) ?_
    have hWX := hWU.trans (hX3.mono hWU.size)
    have x2 := u2.below hX3 u2.lt
    have x3 := u3.below hX3 u3.lt
    have x6 := u6.below hX3 u6.lt
    have x7 := u7.below hX3 u7.lt
    obtain ⟨Y, hY, y0, y1, y2, y3, hBY, hlY⟩ := pair2 (.bool q1) (.slice q2 q3 q4) (.bool t1) (.slice t2 t3 t4) x6 x7 (by omega) hWX (by omega) (by omega)
    have z2 := pair2_row hY x2 m46 m47
    have z3 := pair2_row hY x3 m56 m57
    obtain ⟨U', hU', f0, f1, f2, f3, hBU, hlay⟩ := pair2 (.bool q1) (.slice q2 q3 q4) (.bool t1) (.slice t2 t3 t4) z2 z3 (by omega) hBY (by omega) (by omega)
    have HU' := Lib.hid hU'; clear hU'
    have HQ1 := Lib.hid (ApiV.to (ApiV.to (hq.below ht.out.2) hlY) hlay)
    have HR1 := Lib.hid (ApiV.to (ApiV.to ht.out.1 hlY) hlay)
    have HY := Lib.hid hY; clear hY
    clear k10 k11 k60 k61 k70 k71 k40 k41 k50 k51 f40 f41 f50 f51 hlY hlay hq ht
    have k60 := x6.cell_at 0
    have k61 := x6.cell_at 1
    have k70 := x7.cell_at 0
    have k71 := x7.cell_at 1
    have f60 := x6.free 0
    have f61 := x6.free 1
    have f70 := x7.free 0
    have f71 := x7.free 1
    have k40 := z2.cell_at 0
    have k41 := z2.cell_at 1
    have k50 := z3.cell_at 0
    have k51 := z3.cell_at 1
    have f40 := z2.free 0
    have f41 := z2.free 1
    have f50 := z3.free 0
    have f51 := z3.free 1
    simp only [List.getElem?_cons_zero, List.getElem?_cons_succ] at k60 k61 k70 k71 k40 k41 k50 k51
    clear u0 u1 u2 u3 u6 u7 x2 x3 x6 x7 z2 z3
    refine wpAny_one (i := 6) (by kernel_rfl) ?_
    unfold wpOp
    go_simp
    refine .inl (wpAny_one (i := 7) (by kernel_rfl) ?_)
    unfold wpOp
    go_simp
    refine .inl (wpAny_done (by kernel_rfl) ?_ _)
    rw [← HY.out]
    clear k60 k61 k70 k71 f60 f61 f70 f71
    go_wp2_with fail
    go_region
    all_goals
      go_wp2
      (try simp only [Exit.inBlock, Exit.then])
      rw [← HU'.out]
      refine bodyPost_ret (v := .tuple #[.agg #[.bool q1, .slice q2 q3 q4], .agg #[.bool t1, .slice t2 t3 t4]]) (by simp [results, Tryz.results77, go_sem, f0, f1, f2, f3]) rfl ?_
      rw [hd.out.1, hd.out.2]
      exact ⟨_, _, _, _, _, _, _, _, rfl, HQ1.out, HR1.out, hBU.drew⟩
  · have hd : Hid (x.fdiv y = q ∧ x.fmod y = r) := Lib.hid (fix2 (by
      rw [sgnI_zero, sgnI_eq]
      by_cases hr0 : r = 0
      · exact .inl hr0
      · right
        have hbs : br = s2 := by
          refine Classical.byContradiction (fun h => hfix ⟨hr0, h⟩)
        rw [eb2, Hs2.out, decide_eq_decide] at hbs
        exact ⟨hbs, by omega⟩))
    obtain ⟨U', hU', f0, f1, f2, f3, hBU, hlay⟩ := pair2 (.bool bq) (.slice aq nq cq) (.bool br) (.slice ar nr cr) u2 u3 (by omega) hWU (by omega) (by omega)
    have HU' := Lib.hid hU'; clear hU'
    have HQ1 := Lib.hid (ApiV.to (huq.below hVU) hlay)
    have HR1 := Lib.hid (ApiV.to (hur.below hVU) hlay)
    by_cases hn0 : nr = 0
    · have d1 : decide (0 < nr) = false := by rw [decide_eq_false_iff_not]; omega
      clear fix1 fix2 hlay huq hur hn0 eb1 en1 eb2 en2 hfix u0 u1 u2 u3 u6 u7
      go_wp2_with fail
      rw [← HU.out, ← Hk.out]
      go_region
      all_goals
        go_wp2
        (try simp only [Exit.inBlock, Exit.then])
        rw [← HU'.out]
        refine bodyPost_ret (v := .tuple #[.agg #[.bool bq, .slice aq nq cq], .agg #[.bool br, .slice ar nr cr]]) (by simp [results, Tryz.results77, go_sem, f0, f1, f2, f3]) rfl ?_
        rw [hd.out.1, hd.out.2]
        exact ⟨_, _, _, _, _, _, _, _, rfl, HQ1.out, HR1.out, hBU.drew⟩
    · have d1 : decide (0 < nr) = true := by rw [decide_eq_true_eq]; omega
      have hbs : br = s2 := by
        refine Classical.byContradiction (fun h => hfix ⟨fun e => hn0 (by rw [en2, e]; rfl), h⟩)
      subst hbs
      clear fix1 fix2 hlay huq hur hn0 eb1 en1 eb2 en2 hfix u0 u1 u2 u3 u6 u7
      go_wp2_with fail
      rw [← HU.out, ← Hk.out]
      go_region
      all_goals
        go_wp2
        (try simp only [Exit.inBlock, Exit.then])
        rw [← HU'.out]
        refine bodyPost_ret (v := .tuple #[.agg #[.bool bq, .slice aq nq cq], .agg #[.bool br, .slice ar nr cr]]) (by simp [results, Tryz.results77, go_sem, f0, f1, f2, f3]) rfl ?_
        rw [hd.out.1, hd.out.2]
        exact ⟨_, _, _, _, _, _, _, _, rfl, HQ1.out, HR1.out, hBU.drew⟩

end Go.Proofs.YtbffpkmfhkphdaaGreatDoor
