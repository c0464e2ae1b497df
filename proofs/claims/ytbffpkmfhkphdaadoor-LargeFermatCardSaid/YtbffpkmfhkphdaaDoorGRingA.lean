/- LargeRing's closures: must, add, sub, mul, where no answer is too long. LargeRing's calls, as its great region asks them. -/
import Derived.Test.YtbffpkmfhkphdaaDoorGEach
import Derived.Test.YtbffpkmfhkphdaaDoorGAid
import Derived.Test.YtbffpkmfhkphdaaDoorGRefA
import Derived.Deep.RegionHeld3
namespace Go.Proofs.YtbffpkmfhkphdaaDoor
open Go Go.RowKit Limb

theorem setCell_self {W : World} {p : Nat} {t : TypeId} {v : Value} (r : Row W p t [v]) : W.setCell ⟨p, 0, none⟩ v = W := by
  have h : W.heap.modify p (fun o => o) = W.heap := by
    apply Array.ext_getElem?
    intro i
    rw [Array.getElem?_modify]
    split <;> simp
  unfold Row at r
  have e : (W.setCell ⟨p, 0, none⟩ v).heap = W.heap := by
    apply Array.ext_getElem?
    intro i
    simp only [World.setCell, Array.getElem?_modify]
    by_cases hi : p = i
    · subst hi; simp [r]
    · simp [hi]
  show { W with heap := (W.setCell ⟨p, 0, none⟩ v).heap } = W
  rw [e]

set_option maxHeartbeats 800000 in
set_option maxRecDepth 100000 in
theorem ring_must (w : World) (b : Bool) (a : Option Addr) (n c p : Nat) (r : Row w p 4 [.bool true]) :
    Calls Tryd.prog 25 #[.agg #[.bool b, .slice a n c], .int .i64 0, .pointer (some ⟨p, 0, none⟩)] w fun e w' => e = .returned (.agg #[.bool b, .slice a n c]) ∧ Below w.heap.size w w' := by
  obtain ⟨W, hWe, r0, r1, hW, hsz⟩ := rows2 w 24 (.bool b) (.slice a n c) (.bool false) (.slice none 0 0)
  have rp := r.below hW r.lt
  have hself := setCell_self rp
  have kp := rp.cell_at 0
  have fp := rp.free 0
  have k0 := r0.cell_at 0
  have k1 := r0.cell_at 1
  have k2 := r1.cell_at 0
  have k3 := r1.cell_at 1
  have f2 := r1.free 0
  have f3 := r1.free 1
  have e0 : (W.setCell ⟨w.heap.size + 1, 0, none⟩ (.bool b)).cell? ⟨w.heap.size + 1, 0, none⟩ = some (.bool b) := (r1.store_any 0 _).cell_at 0
  have e1 : ((W.setCell ⟨w.heap.size + 1, 0, none⟩ (.bool b)).setCell ⟨w.heap.size + 1, 1, none⟩ (.slice a n c)).cell? ⟨w.heap.size + 1, 0, none⟩ = some (.bool b) := ((r1.store_any 0 _).store_any 1 _).cell_at 0
  have e2 : ((W.setCell ⟨w.heap.size + 1, 0, none⟩ (.bool b)).setCell ⟨w.heap.size + 1, 1, none⟩ (.slice a n c)).cell? ⟨w.heap.size + 1, 1, none⟩ = some (.slice a n c) := ((r1.store_any 0 _).store_any 1 _).cell_at 1
  simp only [List.getElem?_cons_zero, List.getElem?_cons_succ] at kp k0 k1 k2 k3
  rw [hWe] at hself kp fp k0 k1 k2 k3 f2 f3 e0 e1 e2
  clear rp r0 r1 hW hsz hWe
  go_enter Tryd.func25, Tryd.ntmps25
  go_wp2
  (try simp only [Exit.inBlock, Exit.then])
  refine bodyPost_ret (v := .agg #[.bool b, .slice a n c]) (by simp [results, Tryd.results25, go_sem, e0, e1, e2]) rfl ?_
  exact ⟨rfl, ((Below.refl _ _).alloc (Nat.le_refl _) _).alloc (by rw [World.size_alloc]; omega) _⟩

theorem ApiV.may {w : World} {v : Value} {x : Int} (h : ApiV w v x) (l : (rep x.natAbs).length ≤ 1024) : ∃ b a n c, v = .agg #[.bool b, .slice a n c] ∧ Lay .u32 w a (rep x.natAbs) ∧ n = (rep x.natAbs).length ∧ n ≤ c ∧ mayB b (rep x.natAbs) = true ∧ signed b (val (rep x.natAbs)) = x := by
  obtain ⟨a, c, e, h1, h2⟩ := h
  exact ⟨_, a, _, c, e, h2, rfl, h1, mayB_small l, signed_rep x⟩
theorem api_add (w : World) (v1 v2 : Value) (x y : Int) (h1 : ApiV w v1 x) (h2 : ApiV w v2 y) (l1 : (rep x.natAbs).length ≤ 1024) (l2 : (rep y.natAbs).length ≤ 1024) :
    Calls Tryd.prog 17 #[v1, v2] w fun e w' => Answer true w w' e (x + y) := by
  obtain ⟨b1, a1, n1, c1, rfl, k1, e1, _, m1, s1⟩ := h1.may l1
  obtain ⟨b2, a2, n2, c2, rfl, k2, e2, _, m2, s2⟩ := h2.may l2
  have := large_add w b1 b2 a1 a2 _ _ n1 n2 c1 c2 k1 k2 (rep_lim _) (rep_lim _) e1 e2 (by omega) (by omega)
  rw [m1, m2, s1, s2] at this
  exact this
theorem api_sub (w : World) (v1 v2 : Value) (x y : Int) (h1 : ApiV w v1 x) (h2 : ApiV w v2 y) (l1 : (rep x.natAbs).length ≤ 1024) (l2 : (rep y.natAbs).length ≤ 1024) :
    Calls Tryd.prog 18 #[v1, v2] w fun e w' => Answer true w w' e (x - y) := by
  obtain ⟨b1, a1, n1, c1, rfl, k1, e1, _, m1, s1⟩ := h1.may l1
  obtain ⟨b2, a2, n2, c2, rfl, k2, e2, _, m2, s2⟩ := h2.may l2
  have := large_sub w b1 b2 a1 a2 _ _ n1 n2 c1 c2 k1 k2 (rep_lim _) (rep_lim _) e1 e2 (by omega) (by omega)
  rw [m1, m2, s1, s2] at this
  exact this
theorem api_mul (w : World) (v1 v2 : Value) (x y : Int) (h1 : ApiV w v1 x) (h2 : ApiV w v2 y) (l1 : (rep x.natAbs).length ≤ 1024) (l2 : (rep y.natAbs).length ≤ 1024) :
    Calls Tryd.prog 19 #[v1, v2] w fun e w' => Answer true w w' e (x * y) := by
  obtain ⟨b1, a1, n1, c1, rfl, k1, e1, _, m1, s1⟩ := h1.may l1
  obtain ⟨b2, a2, n2, c2, rfl, k2, e2, _, m2, s2⟩ := h2.may l2
  have := large_mul w b1 b2 a1 a2 _ _ n1 n2 c1 c2 k1 k2 (rep_lim _) (rep_lim _) e1 e2 (by omega) (by omega)
  rw [m1, m2, s1, s2] at this
  exact this
set_option maxHeartbeats 1600000 in
set_option maxRecDepth 100000 in
theorem ring_add (w : World) (v1 v2 : Value) (x y : Int) (p q : Nat) (r : Row w p 4 [.bool true]) (rq : Row w q 41 [.func (.func 25) #[] #[.pointer (some ⟨p, 0, none⟩)]])
    (h1 : ApiV w v1 x) (h2 : ApiV w v2 y) (l1 : (rep x.natAbs).length ≤ 1024) (l2 : (rep y.natAbs).length ≤ 1024) (l3 : (rep (x + y).natAbs).length ≤ 1024) :
    Calls Tryd.prog 26 #[v1, v2, .pointer (some ⟨q, 0, none⟩)] w fun e w' => ∃ u, e = .returned u ∧ ApiV w' u (x + y) ∧ Below w.heap.size w w' := by
  obtain ⟨z, hz⟩ : ∃ z, z = x + y := ⟨_, rfl⟩
  obtain ⟨b1, a1, n1, c1, rfl, _⟩ := h1.open
  obtain ⟨b2, a2, n2, c2, rfl, _⟩ := h2.open
  obtain ⟨W0, hW0e, r3, r4, hW0, hsz0⟩ := rows2 w 24 (.bool b1) (.slice a1 n1 c1) (.bool b2) (.slice a2 n2 c2)
  obtain ⟨W, hWe, r5, hW1, hsz⟩ := rows1 W0 24 (.bool false) (.slice none 0 0)
  have s3 := r3.below hW1 r3.lt
  have s4 := r4.below hW1 r4.lt
  have hW : Below w.heap.size w W := hW0.trans (hW1.mono hW0.size)
  have sp := r.below hW r.lt
  have sq := rq.below hW rq.lt
  rw [hsz0] at r5
  rw [hW0e] at hWe
  have HWe := Lib.hid hWe; clear hWe hW0e
  have hA := fun X (h : Below W.heap.size W X) => (api_add X _ _ x y ((h1.below hW).below h) ((h2.below hW).below h) l1 l2).mono fun e X' he => he.ok l3
  rw [← hz] at hA ⊢
  have HA := Lib.hid (fun X (h : Below W.heap.size W X) => (hA X h).mono fun e X' he => show (∃ b a n c, e = .returned (.tuple #[.agg #[.bool b, .slice a n c], .int .i64 0]) ∧ Hid (ApiV X' (.agg #[.bool b, .slice a n c]) z)) ∧ Below W.heap.size W X' from by
    obtain ⟨b, a, n, c, rfl, hh, hb⟩ := he
    exact ⟨⟨b, a, n, c, rfl, hh⟩, h.trans (hb.mono h.size)⟩)
  have HM := Lib.hid (fun X b a n c (hu : Hid (ApiV X (.agg #[.bool b, .slice a n c]) z)) (h : Below W.heap.size W X) => (ring_must X b a n c p (sp.below h sp.lt)).mono fun e X' he => show (e = .returned (.agg #[.bool b, .slice a n c]) ∧ Hid (ApiV X' (.agg #[.bool b, .slice a n c]) z)) ∧ Below W.heap.size W X' from
    ⟨⟨he.1, Lib.hid (ApiV.below hu.out he.2)⟩, h.trans (he.2.mono h.size)⟩)
  have hqlt := rq.lt
  have hle : w.heap.size + 1 + 1 ≤ W.heap.size := by omega
  have hk := fun X (h : Below (w.heap.size + 1 + 1) W X) => show X.cell? ⟨w.heap.size, 0, none⟩ = some (.bool b1) ∧ X.cell? ⟨w.heap.size, 1, none⟩ = some (.slice a1 n1 c1) ∧ X.cell? ⟨w.heap.size + 1, 0, none⟩ = some (.bool b2) ∧ X.cell? ⟨w.heap.size + 1, 1, none⟩ = some (.slice a2 n2 c2) ∧
      X.cell? ⟨q, 0, none⟩ = some (.func (.func 25) #[] #[.pointer (some ⟨p, 0, none⟩)]) from
    ⟨(s3.below h (by omega)).cells.1, (s3.below h (by omega)).cells.2, (s4.below h (by omega)).cells.1, (s4.below h (by omega)).cells.2, (sq.below h (by omega)).cell_at 0⟩
  have HKa := Lib.hid (fun X (h : Below W.heap.size W X) => hk X (h.mono hle))
  have HK := Lib.hid hk; clear hk
  have h := Below.refl W.heap.size W
  clear hA h1 h2 l1 l2 l3 hz r3 r4 hW0 hW1 hsz0 hsz s3 s4 sp sq r rq hqlt
  go_enter Tryd.func26, Tryd.ntmps26
  go_wp2_with fail
  rw [← HWe.out]
  go_region_held3 (fun X => X.cell? ⟨w.heap.size, 0, none⟩ = some (.bool b1) ∧ X.cell? ⟨w.heap.size, 1, none⟩ = some (.slice a1 n1 c1) ∧ X.cell? ⟨w.heap.size + 1, 0, none⟩ = some (.bool b2) ∧ X.cell? ⟨w.heap.size + 1, 1, none⟩ = some (.slice a2 n2 c2) ∧
      X.cell? ⟨q, 0, none⟩ = some (.func (.func 25) #[] #[.pointer (some ⟨p, 0, none⟩)]))
    (first | (apply HKa.out; (repeat (first | exact h | apply Below.drew)); done) | (apply HK.out; exact below_store (below_store (h.mono hle) (Nat.le_refl _) _) (Nat.le_refl _) _))
    (first
    | (go_at_call 17; apply Calls.mono; apply HA.out; (repeat (first | exact h | apply Below.drew)); clear h; rintro e w' ⟨⟨b, a, n, c, rfl, Hu⟩, h⟩)
    | (go_at_call 25; apply Calls.mono; apply HM.out; exact Hu; (repeat (first | exact h | apply Below.drew)); clear h Hu; rintro e w' ⟨⟨rfl, Hu⟩, h⟩; have t5 := r5.below h r5.lt; have k50 := t5.cell_at 0; have k51 := t5.cell_at 1; have f50 := t5.free 0; have f51 := t5.free 1; simp only [List.getElem?_cons_zero, List.getElem?_cons_succ] at k50 k51))
  have e0 := ((t5.store_any 0 (.bool b)).store_any 1 (.slice a n c)).cell_at 0
  have e1 := ((t5.store_any 0 (.bool b)).store_any 1 (.slice a n c)).cell_at 1
  simp only [List.set_cons_zero, List.set_cons_succ, List.getElem?_cons_zero, List.getElem?_cons_succ] at e0 e1
  have hfin := Lib.hid (And.intro (ApiV.to Hu.out (fun x l hl => hl.pair t5 (.bool b) (.slice a n c))) (below_store (below_store (hW.trans (h.mono hW.size)) (show w.heap.size ≤ w.heap.size + 1 + 1 by omega) (i := 0) (.bool b)) (show w.heap.size ≤ w.heap.size + 1 + 1 by omega) (i := 1) (.slice a n c)))
  clear k50 k51 f50 f51 t5 r5 Hu
  go_wp2
  (try simp only [Exit.inBlock, Exit.then])
  refine bodyPost_ret (v := .agg #[.bool b, .slice a n c]) (by simp [results, Tryd.results26, go_sem, e0, e1]) rfl ?_
  exact ⟨_, rfl, hfin.out.1, hfin.out.2⟩

set_option maxHeartbeats 1600000 in
set_option maxRecDepth 100000 in
theorem ring_sub (w : World) (v1 v2 : Value) (x y : Int) (p q : Nat) (r : Row w p 4 [.bool true]) (rq : Row w q 41 [.func (.func 25) #[] #[.pointer (some ⟨p, 0, none⟩)]])
    (h1 : ApiV w v1 x) (h2 : ApiV w v2 y) (l1 : (rep x.natAbs).length ≤ 1024) (l2 : (rep y.natAbs).length ≤ 1024) (l3 : (rep (x - y).natAbs).length ≤ 1024) :
    Calls Tryd.prog 27 #[v1, v2, .pointer (some ⟨q, 0, none⟩)] w fun e w' => ∃ u, e = .returned u ∧ ApiV w' u (x - y) ∧ Below w.heap.size w w' := by
  obtain ⟨z, hz⟩ : ∃ z, z = x - y := ⟨_, rfl⟩
  obtain ⟨b1, a1, n1, c1, rfl, _⟩ := h1.open
  obtain ⟨b2, a2, n2, c2, rfl, _⟩ := h2.open
  obtain ⟨W0, hW0e, r3, r4, hW0, hsz0⟩ := rows2 w 24 (.bool b1) (.slice a1 n1 c1) (.bool b2) (.slice a2 n2 c2)
  obtain ⟨W, hWe, r5, hW1, hsz⟩ := rows1 W0 24 (.bool false) (.slice none 0 0)
  have s3 := r3.below hW1 r3.lt
  have s4 := r4.below hW1 r4.lt
  have hW : Below w.heap.size w W := hW0.trans (hW1.mono hW0.size)
  have sp := r.below hW r.lt
  have sq := rq.below hW rq.lt
  rw [hsz0] at r5
  rw [hW0e] at hWe
  have HWe := Lib.hid hWe; clear hWe hW0e
  have hA := fun X (h : Below W.heap.size W X) => (api_sub X _ _ x y ((h1.below hW).below h) ((h2.below hW).below h) l1 l2).mono fun e X' he => he.ok l3
  rw [← hz] at hA ⊢
  have HA := Lib.hid (fun X (h : Below W.heap.size W X) => (hA X h).mono fun e X' he => show (∃ b a n c, e = .returned (.tuple #[.agg #[.bool b, .slice a n c], .int .i64 0]) ∧ Hid (ApiV X' (.agg #[.bool b, .slice a n c]) z)) ∧ Below W.heap.size W X' from by
    obtain ⟨b, a, n, c, rfl, hh, hb⟩ := he
    exact ⟨⟨b, a, n, c, rfl, hh⟩, h.trans (hb.mono h.size)⟩)
  have HM := Lib.hid (fun X b a n c (hu : Hid (ApiV X (.agg #[.bool b, .slice a n c]) z)) (h : Below W.heap.size W X) => (ring_must X b a n c p (sp.below h sp.lt)).mono fun e X' he => show (e = .returned (.agg #[.bool b, .slice a n c]) ∧ Hid (ApiV X' (.agg #[.bool b, .slice a n c]) z)) ∧ Below W.heap.size W X' from
    ⟨⟨he.1, Lib.hid (ApiV.below hu.out he.2)⟩, h.trans (he.2.mono h.size)⟩)
  have hqlt := rq.lt
  have hle : w.heap.size + 1 + 1 ≤ W.heap.size := by omega
  have hk := fun X (h : Below (w.heap.size + 1 + 1) W X) => show X.cell? ⟨w.heap.size, 0, none⟩ = some (.bool b1) ∧ X.cell? ⟨w.heap.size, 1, none⟩ = some (.slice a1 n1 c1) ∧ X.cell? ⟨w.heap.size + 1, 0, none⟩ = some (.bool b2) ∧ X.cell? ⟨w.heap.size + 1, 1, none⟩ = some (.slice a2 n2 c2) ∧
      X.cell? ⟨q, 0, none⟩ = some (.func (.func 25) #[] #[.pointer (some ⟨p, 0, none⟩)]) from
    ⟨(s3.below h (by omega)).cells.1, (s3.below h (by omega)).cells.2, (s4.below h (by omega)).cells.1, (s4.below h (by omega)).cells.2, (sq.below h (by omega)).cell_at 0⟩
  have HKa := Lib.hid (fun X (h : Below W.heap.size W X) => hk X (h.mono hle))
  have HK := Lib.hid hk; clear hk
  have h := Below.refl W.heap.size W
  clear hA h1 h2 l1 l2 l3 hz r3 r4 hW0 hW1 hsz0 hsz s3 s4 sp sq r rq hqlt
  go_enter Tryd.func27, Tryd.ntmps27
  go_wp2_with fail
  rw [← HWe.out]
  go_region_held3 (fun X => X.cell? ⟨w.heap.size, 0, none⟩ = some (.bool b1) ∧ X.cell? ⟨w.heap.size, 1, none⟩ = some (.slice a1 n1 c1) ∧ X.cell? ⟨w.heap.size + 1, 0, none⟩ = some (.bool b2) ∧ X.cell? ⟨w.heap.size + 1, 1, none⟩ = some (.slice a2 n2 c2) ∧
      X.cell? ⟨q, 0, none⟩ = some (.func (.func 25) #[] #[.pointer (some ⟨p, 0, none⟩)]))
    (first | (apply HKa.out; (repeat (first | exact h | apply Below.drew)); done) | (apply HK.out; exact below_store (below_store (h.mono hle) (Nat.le_refl _) _) (Nat.le_refl _) _))
    (first
    | (go_at_call 18; apply Calls.mono; apply HA.out; (repeat (first | exact h | apply Below.drew)); clear h; rintro e w' ⟨⟨b, a, n, c, rfl, Hu⟩, h⟩)
    | (go_at_call 25; apply Calls.mono; apply HM.out; exact Hu; (repeat (first | exact h | apply Below.drew)); clear h Hu; rintro e w' ⟨⟨rfl, Hu⟩, h⟩; have t5 := r5.below h r5.lt; have k50 := t5.cell_at 0; have k51 := t5.cell_at 1; have f50 := t5.free 0; have f51 := t5.free 1; simp only [List.getElem?_cons_zero, List.getElem?_cons_succ] at k50 k51))
  have e0 := ((t5.store_any 0 (.bool b)).store_any 1 (.slice a n c)).cell_at 0
  have e1 := ((t5.store_any 0 (.bool b)).store_any 1 (.slice a n c)).cell_at 1
  simp only [List.set_cons_zero, List.set_cons_succ, List.getElem?_cons_zero, List.getElem?_cons_succ] at e0 e1
  have hfin := Lib.hid (And.intro (ApiV.to Hu.out (fun x l hl => hl.pair t5 (.bool b) (.slice a n c))) (below_store (below_store (hW.trans (h.mono hW.size)) (show w.heap.size ≤ w.heap.size + 1 + 1 by omega) (i := 0) (.bool b)) (show w.heap.size ≤ w.heap.size + 1 + 1 by omega) (i := 1) (.slice a n c)))
  clear k50 k51 f50 f51 t5 r5 Hu
  go_wp2
  (try simp only [Exit.inBlock, Exit.then])
  refine bodyPost_ret (v := .agg #[.bool b, .slice a n c]) (by simp [results, Tryd.results27, go_sem, e0, e1]) rfl ?_
  exact ⟨_, rfl, hfin.out.1, hfin.out.2⟩

set_option maxHeartbeats 1600000 in
set_option maxRecDepth 100000 in
theorem ring_mul (w : World) (v1 v2 : Value) (x y : Int) (p q : Nat) (r : Row w p 4 [.bool true]) (rq : Row w q 41 [.func (.func 25) #[] #[.pointer (some ⟨p, 0, none⟩)]])
    (h1 : ApiV w v1 x) (h2 : ApiV w v2 y) (l1 : (rep x.natAbs).length ≤ 1024) (l2 : (rep y.natAbs).length ≤ 1024) (l3 : (rep (x * y).natAbs).length ≤ 1024) :
    Calls Tryd.prog 28 #[v1, v2, .pointer (some ⟨q, 0, none⟩)] w fun e w' => ∃ u, e = .returned u ∧ ApiV w' u (x * y) ∧ Below w.heap.size w w' := by
  obtain ⟨z, hz⟩ : ∃ z, z = x * y := ⟨_, rfl⟩
  obtain ⟨b1, a1, n1, c1, rfl, _⟩ := h1.open
  obtain ⟨b2, a2, n2, c2, rfl, _⟩ := h2.open
  obtain ⟨W0, hW0e, r3, r4, hW0, hsz0⟩ := rows2 w 24 (.bool b1) (.slice a1 n1 c1) (.bool b2) (.slice a2 n2 c2)
  obtain ⟨W, hWe, r5, hW1, hsz⟩ := rows1 W0 24 (.bool false) (.slice none 0 0)
  have s3 := r3.below hW1 r3.lt
  have s4 := r4.below hW1 r4.lt
  have hW : Below w.heap.size w W := hW0.trans (hW1.mono hW0.size)
  have sp := r.below hW r.lt
  have sq := rq.below hW rq.lt
  rw [hsz0] at r5
  rw [hW0e] at hWe
  have HWe := Lib.hid hWe; clear hWe hW0e
  have hA := fun X (h : Below W.heap.size W X) => (api_mul X _ _ x y ((h1.below hW).below h) ((h2.below hW).below h) l1 l2).mono fun e X' he => he.ok l3
  rw [← hz] at hA ⊢
  have HA := Lib.hid (fun X (h : Below W.heap.size W X) => (hA X h).mono fun e X' he => show (∃ b a n c, e = .returned (.tuple #[.agg #[.bool b, .slice a n c], .int .i64 0]) ∧ Hid (ApiV X' (.agg #[.bool b, .slice a n c]) z)) ∧ Below W.heap.size W X' from by
    obtain ⟨b, a, n, c, rfl, hh, hb⟩ := he
    exact ⟨⟨b, a, n, c, rfl, hh⟩, h.trans (hb.mono h.size)⟩)
  have HM := Lib.hid (fun X b a n c (hu : Hid (ApiV X (.agg #[.bool b, .slice a n c]) z)) (h : Below W.heap.size W X) => (ring_must X b a n c p (sp.below h sp.lt)).mono fun e X' he => show (e = .returned (.agg #[.bool b, .slice a n c]) ∧ Hid (ApiV X' (.agg #[.bool b, .slice a n c]) z)) ∧ Below W.heap.size W X' from
    ⟨⟨he.1, Lib.hid (ApiV.below hu.out he.2)⟩, h.trans (he.2.mono h.size)⟩)
  have hqlt := rq.lt
  have hle : w.heap.size + 1 + 1 ≤ W.heap.size := by omega
  have hk := fun X (h : Below (w.heap.size + 1 + 1) W X) => show X.cell? ⟨w.heap.size, 0, none⟩ = some (.bool b1) ∧ X.cell? ⟨w.heap.size, 1, none⟩ = some (.slice a1 n1 c1) ∧ X.cell? ⟨w.heap.size + 1, 0, none⟩ = some (.bool b2) ∧ X.cell? ⟨w.heap.size + 1, 1, none⟩ = some (.slice a2 n2 c2) ∧
      X.cell? ⟨q, 0, none⟩ = some (.func (.func 25) #[] #[.pointer (some ⟨p, 0, none⟩)]) from
    ⟨(s3.below h (by omega)).cells.1, (s3.below h (by omega)).cells.2, (s4.below h (by omega)).cells.1, (s4.below h (by omega)).cells.2, (sq.below h (by omega)).cell_at 0⟩
  have HKa := Lib.hid (fun X (h : Below W.heap.size W X) => hk X (h.mono hle))
  have HK := Lib.hid hk; clear hk
  have h := Below.refl W.heap.size W
  clear hA h1 h2 l1 l2 l3 hz r3 r4 hW0 hW1 hsz0 hsz s3 s4 sp sq r rq hqlt
  go_enter Tryd.func28, Tryd.ntmps28
  go_wp2_with fail
  rw [← HWe.out]
  go_region_held3 (fun X => X.cell? ⟨w.heap.size, 0, none⟩ = some (.bool b1) ∧ X.cell? ⟨w.heap.size, 1, none⟩ = some (.slice a1 n1 c1) ∧ X.cell? ⟨w.heap.size + 1, 0, none⟩ = some (.bool b2) ∧ X.cell? ⟨w.heap.size + 1, 1, none⟩ = some (.slice a2 n2 c2) ∧
      X.cell? ⟨q, 0, none⟩ = some (.func (.func 25) #[] #[.pointer (some ⟨p, 0, none⟩)]))
    (first | (apply HKa.out; (repeat (first | exact h | apply Below.drew)); done) | (apply HK.out; exact below_store (below_store (h.mono hle) (Nat.le_refl _) _) (Nat.le_refl _) _))
    (first
    | (go_at_call 19; apply Calls.mono; apply HA.out; (repeat (first | exact h | apply Below.drew)); clear h; rintro e w' ⟨⟨b, a, n, c, rfl, Hu⟩, h⟩)
    | (go_at_call 25; apply Calls.mono; apply HM.out; exact Hu; (repeat (first | exact h | apply Below.drew)); clear h Hu; rintro e w' ⟨⟨rfl, Hu⟩, h⟩; have t5 := r5.below h r5.lt; have k50 := t5.cell_at 0; have k51 := t5.cell_at 1; have f50 := t5.free 0; have f51 := t5.free 1; simp only [List.getElem?_cons_zero, List.getElem?_cons_succ] at k50 k51))
  have e0 := ((t5.store_any 0 (.bool b)).store_any 1 (.slice a n c)).cell_at 0
  have e1 := ((t5.store_any 0 (.bool b)).store_any 1 (.slice a n c)).cell_at 1
  simp only [List.set_cons_zero, List.set_cons_succ, List.getElem?_cons_zero, List.getElem?_cons_succ] at e0 e1
  have hfin := Lib.hid (And.intro (ApiV.to Hu.out (fun x l hl => hl.pair t5 (.bool b) (.slice a n c))) (below_store (below_store (hW.trans (h.mono hW.size)) (show w.heap.size ≤ w.heap.size + 1 + 1 by omega) (i := 0) (.bool b)) (show w.heap.size ≤ w.heap.size + 1 + 1 by omega) (i := 1) (.slice a n c)))
  clear k50 k51 f50 f51 t5 r5 Hu
  go_wp2
  (try simp only [Exit.inBlock, Exit.then])
  refine bodyPost_ret (v := .agg #[.bool b, .slice a n c]) (by simp [results, Tryd.results28, go_sem, e0, e1]) rfl ?_
  exact ⟨_, rfl, hfin.out.1, hfin.out.2⟩

end Go.Proofs.YtbffpkmfhkphdaaDoor

namespace Go.Proofs.YtbffpkmfhkphdaaDoor
open Go Go.RowKit Limb

theorem yes_add {U : World} {p q : Nat} (r : Row U p 4 [.bool true]) (rq : Row U q 41 [.func (.func 25) #[] #[.pointer (some ⟨p, 0, none⟩)]]) {V : Nat → Value → World → Prop} {i : Nat} (x y : Int)
    (l1 : (rep x.natAbs).length ≤ 1024) (l2 : (rep y.natAbs).length ≤ 1024) (l3 : (rep (x + y).natAbs).length ≤ 1024) (hV : ∀ v X, ApiV X v (x + y) → V i v X) (u v : Value) (X : World) (hS : Below U.heap.size U X) (hu : ApiV X u x) (hv : ApiV X v y) :
    Yes Tryd.prog (fun X => Below U.heap.size U X) V i 26 (#[u, v] ++ #[.pointer (some ⟨q, 0, none⟩)]) X := by
  unfold Yes
  rw [show (#[u, v] ++ #[Value.pointer (some ⟨q, 0, none⟩)] : Array Value) = #[u, v, .pointer (some ⟨q, 0, none⟩)] by simp]
  refine (ring_add X u v x y p q (r.below hS r.lt) (rq.below hS rq.lt) hu hv l1 l2 l3).mono ?_
  rintro e X' ⟨z, rfl, hz, hb⟩
  exact ⟨z, rfl, hS.trans (hb.mono hS.size), hb, hV z X' hz⟩
theorem yes_sub {U : World} {p q : Nat} (r : Row U p 4 [.bool true]) (rq : Row U q 41 [.func (.func 25) #[] #[.pointer (some ⟨p, 0, none⟩)]]) {V : Nat → Value → World → Prop} {i : Nat} (x y : Int)
    (l1 : (rep x.natAbs).length ≤ 1024) (l2 : (rep y.natAbs).length ≤ 1024) (l3 : (rep (x - y).natAbs).length ≤ 1024) (hV : ∀ v X, ApiV X v (x - y) → V i v X) (u v : Value) (X : World) (hS : Below U.heap.size U X) (hu : ApiV X u x) (hv : ApiV X v y) :
    Yes Tryd.prog (fun X => Below U.heap.size U X) V i 27 (#[u, v] ++ #[.pointer (some ⟨q, 0, none⟩)]) X := by
  unfold Yes
  rw [show (#[u, v] ++ #[Value.pointer (some ⟨q, 0, none⟩)] : Array Value) = #[u, v, .pointer (some ⟨q, 0, none⟩)] by simp]
  refine (ring_sub X u v x y p q (r.below hS r.lt) (rq.below hS rq.lt) hu hv l1 l2 l3).mono ?_
  rintro e X' ⟨z, rfl, hz, hb⟩
  exact ⟨z, rfl, hS.trans (hb.mono hS.size), hb, hV z X' hz⟩
theorem yes_mul {U : World} {p q : Nat} (r : Row U p 4 [.bool true]) (rq : Row U q 41 [.func (.func 25) #[] #[.pointer (some ⟨p, 0, none⟩)]]) {V : Nat → Value → World → Prop} {i : Nat} (x y : Int)
    (l1 : (rep x.natAbs).length ≤ 1024) (l2 : (rep y.natAbs).length ≤ 1024) (l3 : (rep (x * y).natAbs).length ≤ 1024) (hV : ∀ v X, ApiV X v (x * y) → V i v X) (u v : Value) (X : World) (hS : Below U.heap.size U X) (hu : ApiV X u x) (hv : ApiV X v y) :
    Yes Tryd.prog (fun X => Below U.heap.size U X) V i 28 (#[u, v] ++ #[.pointer (some ⟨q, 0, none⟩)]) X := by
  unfold Yes
  rw [show (#[u, v] ++ #[Value.pointer (some ⟨q, 0, none⟩)] : Array Value) = #[u, v, .pointer (some ⟨q, 0, none⟩)] by simp]
  refine (ring_mul X u v x y p q (r.below hS r.lt) (rq.below hS rq.lt) hu hv l1 l2 l3).mono ?_
  rintro e X' ⟨z, rfl, hz, hb⟩
  exact ⟨z, rfl, hS.trans (hb.mono hS.size), hb, hV z X' hz⟩
theorem same_api (X : World) (u v : Value) (x : Int) (hu : ApiV X u x) (hv : ApiV X v x) (l : (rep x.natAbs).length ≤ 9223372036854775807) :
    Calls Tryd.prog 12 #[u, v] X fun e X' => e = .returned (.bool true) ∧ Below X.heap.size X X' := by
  obtain ⟨a1, c1, rfl, _, k1⟩ := hu
  obtain ⟨a2, c2, rfl, _, k2⟩ := hv
  exact law_same X _ a1 a2 _ _ c1 c2 k1 k2 rfl l
theorem yes_same {U : World} {V : Nat → Value → World → Prop} {i : Nat} (x y : Int) (e : x = y) (l : (rep x.natAbs).length ≤ 1024) (hV : ∀ X, V i (.bool true) X) (u v : Value) (X : World) (hS : Below U.heap.size U X) (hu : ApiV X u x) (hv : ApiV X v y) :
    Yes Tryd.prog (fun X => Below U.heap.size U X) V i 12 (#[u, v] ++ #[]) X := by
  subst e
  unfold Yes
  rw [show (#[u, v] ++ #[] : Array Value) = #[u, v] by simp]
  refine (same_api X u v x hu hv (by omega)).mono ?_
  rintro e X' ⟨rfl, hb⟩
  exact ⟨_, rfl, hS.trans (hb.mono hS.size), hb, hV X'⟩
theorem yes_of {U : World} {V : Nat → Value → World → Prop} {i : Nat} (k : Int) (h1 : -9223372036854775808 ≤ k) (h2 : k ≤ 9223372036854775807) (hV : ∀ v X, ApiV X v k → V i v X) (v : Value) (X : World) (hS : Below U.heap.size U X) (hv : v = .int .i64 k) :
    Yes Tryd.prog (fun X => Below U.heap.size U X) V i 29 (#[v] ++ #[]) X := by
  subst hv
  unfold Yes
  rw [show (#[Value.int .i64 k] ++ #[] : Array Value) = #[.int .i64 k] by simp]
  refine (large_of X k h1 h2).mono ?_
  rintro e X' ⟨u, rfl, hu, hb⟩
  exact ⟨_, rfl, hS.trans (hb.mono hS.size), hb, hV u X' hu⟩
theorem api_compare (X : World) (v1 v2 : Value) (x y : Int) (h1 : ApiV X v1 x) (h2 : ApiV X v2 y) (l1 : (rep x.natAbs).length ≤ 1024) (l2 : (rep y.natAbs).length ≤ 1024) :
    Calls Tryd.prog 16 #[v1, v2] X fun e X' => e = .returned (.tuple #[.int .i64 (cmpZ x y), .int .i64 0]) ∧ Below X.heap.size X X' := by
  obtain ⟨b1, a1, n1, c1, rfl, k1, e1, _, m1, s1⟩ := h1.may l1
  obtain ⟨b2, a2, n2, c2, rfl, k2, e2, _, m2, s2⟩ := h2.may l2
  have := large_compare X b1 b2 a1 a2 _ _ n1 n2 c1 c2 k1 k2 (rep_lim _) (rep_lim _) e1 e2 (by omega) (by omega)
  rw [m1, m2, s1, s2] at this
  exact this
theorem api_div (X : World) (v1 v2 : Value) (x y : Int) (h1 : ApiV X v1 x) (h2 : ApiV X v2 y) (l1 : (rep x.natAbs).length ≤ 1024) (l2 : (rep y.natAbs).length ≤ 1024) :
    Calls Tryd.prog 8 #[v1, v2] X fun e X' => DivAnswer true true X X' e x y := by
  obtain ⟨b1, a1, n1, c1, rfl, k1, e1, _, m1, s1⟩ := h1.may l1
  obtain ⟨b2, a2, n2, c2, rfl, k2, e2, _, m2, s2⟩ := h2.may l2
  have := large_div X b1 b2 a1 a2 _ _ n1 n2 c1 c2 k1 k2 (rep_lim _) (rep_lim _) e1 e2 (by omega) (by omega)
  rw [m1, m2, s1, s2] at this
  exact this
theorem api_quo (X : World) (v1 v2 : Value) (x y : Int) (h1 : ApiV X v1 x) (h2 : ApiV X v2 y) (l1 : (rep x.natAbs).length ≤ 1024) (l2 : (rep y.natAbs).length ≤ 1024) :
    Calls Tryd.prog 7 #[v1, v2] X fun e X' => DivAnswer true false X X' e x y := by
  obtain ⟨b1, a1, n1, c1, rfl, k1, e1, _, m1, s1⟩ := h1.may l1
  obtain ⟨b2, a2, n2, c2, rfl, k2, e2, _, m2, s2⟩ := h2.may l2
  have := large_quo X b1 b2 a1 a2 _ _ n1 n2 c1 c2 k1 k2 (rep_lim _) (rep_lim _) e1 e2 (by omega) (by omega)
  rw [m1, m2, s1, s2] at this
  exact this
theorem cmp_tests (x y : Int) (b : Bool) (n : Nat) (hb : b = decide (x - y < 0)) (hn : n = (rep (x - y).natAbs).length) : decide (cmpZ x y < 0) = b ∧ ((n : Int) == 0) = (cmpZ x y == 0) := by
  have h0 : n = 0 ↔ x = y := by rw [hn, rep_length_zero]; omega
  unfold cmpZ
  subst hb
  by_cases h1 : x < y
  · have h2 : x - y < 0 := by omega
    have h3 : ((n : Int) == 0) = false := by rw [beq_eq_false_iff_ne]; omega
    rw [if_pos h1, h3]; simp [h2]
  · rw [if_neg h1]
    have h2 : ¬ x - y < 0 := by omega
    by_cases h3 : x = y
    · have h4 : ((n : Int) == 0) = true := by rw [beq_iff_eq]; have := h0.2 h3; omega
      rw [if_pos h3, h4]; simp [h2]
    · have h4 : ((n : Int) == 0) = false := by rw [beq_eq_false_iff_ne]; omega
      rw [if_neg h3, h4]; simp [h2]
theorem dec_zero {n : Nat} (h : n = 0) : decide (0 < n) = false ∧ decide ((0 : Int) < (n : Int)) = false := ⟨by rw [decide_eq_false_iff_not]; omega, by rw [decide_eq_false_iff_not]; omega⟩
theorem dec_pos {n : Nat} (h : n ≠ 0) : decide (0 < n) = true ∧ decide ((0 : Int) < (n : Int)) = true := ⟨by rw [decide_eq_true_eq]; omega, by rw [decide_eq_true_eq]; omega⟩
theorem quo_lens {x y : Int} {nx ny : Nat} (lx : (rep x.natAbs).length ≤ nx) (ly : (rep y.natAbs).length ≤ ny) : (rep (x.fdiv y).natAbs).length ≤ nx ∧ (rep (x.fmod y).natAbs).length ≤ nx + ny ∧ (rep (x.tdiv y).natAbs).length ≤ nx ∧ (rep (x.tmod y).natAbs).length ≤ nx + ny := by
  by_cases hy : y = 0
  · subst hy
    rw [Int.fdiv_zero, Int.fmod_zero, Int.tdiv_zero, Int.tmod_zero]
    have : (rep (0 : Int).natAbs).length = 0 := rfl
    omega
  · have h1 := rep_mono (dquo_abs true x hy)
    have h2 := rep_mono (Nat.le_of_lt (drem_abs true x hy))
    have h3 := rep_mono (dquo_abs false x hy)
    have h4 := rep_mono (Nat.le_of_lt (drem_abs false x hy))
    exact ⟨Nat.le_trans h1 lx, by have := Nat.le_trans h2 ly; have : (rep (x.fmod y).natAbs).length ≤ ny := this; omega, Nat.le_trans h3 lx, by have := Nat.le_trans h4 ly; have : (rep (x.tmod y).natAbs).length ≤ ny := this; omega⟩
theorem eq_f (x y : Int) : x.fdiv y * y + x.fmod y = x := by have := Int.fmod_add_mul_fdiv x y; rw [Int.mul_comm] at this; omega
theorem eq_t (x y : Int) : x.tdiv y * y + x.tmod y = x := by have := Int.tmod_add_mul_tdiv x y; rw [Int.mul_comm] at this; omega
theorem fmod_sgn (x y : Int) (hy : y ≠ 0) (r : Int) (hr : r = x.fmod y) (b : Bool) (n : Nat) (b2 : Bool) (e1 : b = decide (r < 0)) (e2 : n = (rep r.natAbs).length) (e3 : b2 = decide (y < 0)) (hp : 0 < n) : (b != b2) = false := by
  have h0 : r ≠ 0 := fun e => by have := rep_length_zero (n := r.natAbs); omega
  have h1 := Int.emod_nonneg x hy
  have h2 := Int.emod_lt x hy
  rw [Int.fmod_eq_emod] at hr
  subst e1 e3
  by_cases hy0 : y < 0
  · have h3 : r < 0 := by
      split at hr
      · rename_i h
        rcases h with h | h
        · omega
        · rw [Int.emod_eq_zero_of_dvd h] at hr; omega
      · omega
    simp [h3, hy0]
  · have h3 : ¬ r < 0 := by
      split at hr
      · omega
      · rename_i h; exact absurd (.inl (by omega)) h
    simp [h3, hy0]
theorem tmod_sgn (x y : Int) (_ : y ≠ 0) (r : Int) (hr : r = x.tmod y) (b : Bool) (n : Nat) (b1 : Bool) (e1 : b = decide (r < 0)) (e2 : n = (rep r.natAbs).length) (e3 : b1 = decide (x < 0)) (hp : 0 < n) : (b != b1) = false := by
  have h0 : r ≠ 0 := fun e => by have := rep_length_zero (n := r.natAbs); omega
  subst e1 e3
  by_cases hx : x < 0
  · have h1 := Int.tmod_nonneg (a := -x) y (by omega)
    rw [Int.neg_tmod] at h1
    have h3 : r < 0 := by omega
    simp [h3, hx]
  · have h1 := Int.tmod_nonneg (a := x) y (by omega)
    have h3 : ¬ r < 0 := by omega
    simp [h3, hx]
theorem load_cell0 {X : World} {g : Nat} {b : Bool} {v : Value} (h : Cell2 X g (.bool b) v) : (Instr.loadAt 4 (.pointer (some ⟨g, 0, none⟩))).run Tryd.prog X = .ok (.bool b) X := by
  obtain ⟨_, h0, h1⟩ := h
  go_simp
theorem load_cell1 {X : World} {g : Nat} {u : Value} {a : Option Addr} {n c : Nat} (h : Cell2 X g u (.slice a n c)) : (Instr.loadAt 22 (.pointer (some ⟨g, 1, none⟩))).run Tryd.prog X = .ok (.slice a n c) X := by
  obtain ⟨_, h0, h1⟩ := h
  go_simp
theorem ApiV.abs {w : World} {b : Bool} {a : Option Addr} {n c : Nat} {z : Int} (h : ApiV w (.agg #[.bool b, .slice a n c]) z) : ApiV w (.agg #[.bool false, .slice a n c]) (z.natAbs : Int) := by
  obtain ⟨e1, e2, e3, e4⟩ := h.parts
  refine ⟨a, c, ?_, ?_, ?_⟩
  · rw [Int.natAbs_natCast, ← e2]; simp
  · rw [Int.natAbs_natCast, ← e2]; exact e3
  · rw [Int.natAbs_natCast]; exact e4
theorem compare_less (X : World) (b1 b2 : Bool) (a1 a2 : Option Addr) (n1 n2 c1 c2 : Nat) (r y : Int) (h1 : ApiV X (.agg #[.bool b1, .slice a1 n1 c1]) r) (h2 : ApiV X (.agg #[.bool b2, .slice a2 n2 c2]) y) (l1 : (rep r.natAbs).length ≤ 1024) (l2 : (rep y.natAbs).length ≤ 1024) (hlt : r.natAbs < y.natAbs) :
    Calls Tryd.prog 16 #[.agg #[.bool false, .slice a1 n1 c1], .agg #[.bool false, .slice a2 n2 c2]] X fun e X' => e = .returned (.tuple #[.int .i64 (-1), .int .i64 0]) ∧ Below X.heap.size X X' := by
  have := api_compare X _ _ _ _ h1.abs h2.abs (by rw [Int.natAbs_natCast]; exact l1) (by rw [Int.natAbs_natCast]; exact l2)
  rw [show cmpZ (r.natAbs : Int) (y.natAbs : Int) = -1 from by unfold cmpZ; rw [if_pos (by omega)]] at this
  exact this
/-- A whole integer is read. -/
theorem load_pair {X : World} {g : Nat} {u v : Value} (h : Cell2 X g u v) : (Instr.loadAt 24 (.pointer (some ⟨g, 0, none⟩))).run Tryd.prog X = .ok (.agg #[u, v]) X := by
  obtain ⟨_, h0, h1⟩ := h
  go_simp

end Go.Proofs.YtbffpkmfhkphdaaDoor
