/- The walks of large.join with the three operations, and of large.Add, Sub, Mul. -/
import Derived.Test.YtbffpkmfhkphdaaGreatDoorAtC
set_option linter.unusedVariables false
set_option linter.unusedSimpArgs false
namespace Go.Proofs.YtbffpkmfhkphdaaGreatDoor
open Go Go.RowKit Limb

/-- The value of an integer of package api: a sign and a slice. -/
def apiV (neg : Bool) (a : Option Addr) (n cap : Nat) : Value := .agg #[.bool neg, .slice a n cap]
/-- The answer of a call that refuses an integer. -/
def errRange : Ending := .returned (.tuple #[.agg #[.bool false, .slice none 0 0], .int .i64 1])

/-- What a call answers of integers that may be, or not. -/
def Answer (ok : Bool) (w w' : World) (e : Ending) (z : Int) : Prop := if ok = true then ApiRes w w' e z else e = errRange ∧ Below w.heap.size w w'
theorem Answer.no {w w' : World} {e : Ending} {z : Int} (h : e = errRange ∧ Below w.heap.size w w') : Answer false w w' e z := h
theorem Answer.yes {w w' : World} {e : Ending} {z : Int} (h : ApiRes w w' e z) : Answer true w w' e z := h

theorem rows3 (w : World) (t : TypeId) (a0 a1 b0 b1 c0 c1 : Value) :
    Row (((w.alloc (.cells #[a0, a1] t)).alloc (.cells #[b0, b1] t)).alloc (.cells #[c0, c1] t)) w.heap.size t [a0, a1] ∧
    Row (((w.alloc (.cells #[a0, a1] t)).alloc (.cells #[b0, b1] t)).alloc (.cells #[c0, c1] t)) (w.heap.size + 1) t [b0, b1] ∧
    Row (((w.alloc (.cells #[a0, a1] t)).alloc (.cells #[b0, b1] t)).alloc (.cells #[c0, c1] t)) (w.heap.size + 1 + 1) t [c0, c1] ∧
    Below w.heap.size w (((w.alloc (.cells #[a0, a1] t)).alloc (.cells #[b0, b1] t)).alloc (.cells #[c0, c1] t)) ∧
    (((w.alloc (.cells #[a0, a1] t)).alloc (.cells #[b0, b1] t)).alloc (.cells #[c0, c1] t)).heap.size = w.heap.size + 1 + 1 + 1 := by
  have s1 := World.size_alloc w (.cells #[a0, a1] t)
  have s2 := World.size_alloc (w.alloc (.cells #[a0, a1] t)) (.cells #[b0, b1] t)
  have s3 := World.size_alloc ((w.alloc (.cells #[a0, a1] t)).alloc (.cells #[b0, b1] t)) (.cells #[c0, c1] t)
  refine ⟨?_, ?_, ?_, (((Below.refl _ _).alloc (Nat.le_refl _) _).alloc (by omega) _).alloc (by omega) _, by omega⟩
  · refine Row.alloc (Row.alloc ?_ _) _; unfold Row; exact heap_alloc_new _ _
  · refine Row.alloc ?_ _; unfold Row; have := heap_alloc_new (w.alloc (.cells #[a0, a1] t)) (.cells #[b0, b1] t); rw [s1] at this; exact this
  · unfold Row; have := heap_alloc_new ((w.alloc (.cells #[a0, a1] t)).alloc (.cells #[b0, b1] t)) (.cells #[c0, c1] t); rw [show ((w.alloc (.cells #[a0, a1] t)).alloc (.cells #[b0, b1] t)).heap.size = w.heap.size + 1 + 1 from by omega] at this; exact this
theorem row2slice (w : World) (t : TypeId) (cs : Array Value) : Row (w.alloc (.cells cs t)) w.heap.size t cs.toList := by unfold Row; exact heap_alloc_new _ _

set_option maxHeartbeats 800000 in
set_option maxRecDepth 100000 in
theorem join_add (w : World) (n1 n2 : Bool) (a1 a2 : Option Addr) (l1 l2 : List Nat) (m1 m2 c1 c2 : Nat) (hy1 : Lay .u32 w a1 l1) (hy2 : Lay .u32 w a2 l2) (hl1 : Lim l1) (hl2 : Lim l2) (hm1 : m1 = l1.length) (hm2 : m2 = l2.length) (hb1 : m1 ≤ 9223372036854775807) (hb2 : m2 ≤ 9223372036854775807) :
    Calls Tryz.prog 103 #[.agg #[.bool n1, .slice a1 m1 c1], .agg #[.bool n2, .slice a2 m2 c2], .func (.func 72) #[] #[]] w fun e w' =>
      Answer (mayB n1 l1 && mayB n2 l2) w w' e (signed n1 (val l1) + signed n2 (val l2)) := by
  obtain ⟨r0, r1, r2, hW, hsz⟩ := rows3 w 24 (.bool n1) (.slice a1 m1 c1) (.bool n2) (.slice a2 m2 c2) (.bool false) (.slice none 0 0)
  obtain ⟨W, hWe⟩ : ∃ W, W = ((w.alloc (.cells #[.bool n1, .slice a1 m1 c1] 24)).alloc (.cells #[.bool n2, .slice a2 m2 c2] 24)).alloc (.cells #[.bool false, .slice none 0 0] 24) := ⟨_, rfl⟩
  rw [← hWe] at r0 r1 r2 hW hsz
  have HWe := Lib.hid hWe; clear hWe
  have hmay := fun g h1 h2 h3 => large_may2 (W.alloc (.cells #[.bool n1, .slice a1 m1 c1, .bool n2, .slice a2 m2 c2] 24)) g n1 n2 a1 a2 l1 l2 m1 m2 c1 c2 h1 h2 h3 hl1 hl2 hm1 hm2 hb1 hb2
  have Hm1 := Lib.hid hm1; clear hm1
  have Hm2 := Lib.hid hm2; clear hm2
  have hmay' := hmay (w.heap.size + 1 + 1 + 1) (by rw [← hsz]; exact row2slice _ _ _) ((hy1.below hW).below ((Below.refl _ _).alloc (Nat.le_refl _) _)) ((hy2.below hW).below ((Below.refl _ _).alloc (Nat.le_refl _) _))
  have HM := Lib.hid hmay'; clear hmay hmay'
  cases hb : (mayB n1 l1 && mayB n2 l2) with
  | false =>
    rw [hb] at HM
    clear hb
    go_enter Tryz.func103, Tryz.ntmps103
    go_wp2_with fail
    rw [← HWe.out]
    refine HM.out.mono ?_
    rintro e w1 ⟨rfl, hbw⟩
    have hB1 : Below w.heap.size w w1 := hW.trans ((below_over hbw).mono hW.size)
    have r2' := r2.below (below_over hbw) r2.lt
    have rc0 := r2'.cell_at 0
    have rc1 := r2'.cell_at 1
    have rf0 := r2'.free 0
    have rf1 := r2'.free 1
    simp only [List.getElem?_cons_zero, List.getElem?_cons_succ] at rc0 rc1
    have e0 : (w1.setCell ⟨w.heap.size + 1 + 1, 0, none⟩ (.bool false)).cell? ⟨w.heap.size + 1 + 1, 0, none⟩ = some (.bool false) := (r2'.store_any 0 _).cell_at 0
    have e1 : ((w1.setCell ⟨w.heap.size + 1 + 1, 0, none⟩ (.bool false)).setCell ⟨w.heap.size + 1 + 1, 1, none⟩ (.slice none 0 0)).cell? ⟨w.heap.size + 1 + 1, 1, none⟩ = some (.slice none 0 0) := ((r2'.store_any 0 _).store_any 1 _).cell_at 1
    go_wp2
    (try simp only [Exit.inBlock, Exit.then])
    refine bodyPost_ret (v := .tuple #[.agg #[.bool false, .slice none 0 0], .int .i64 1]) (by simp [results, Tryz.results103, go_sem, e0, e1]) rfl ?_
    exact Answer.no ⟨rfl, below_store (below_store hB1 (by omega) _) (by omega) _⟩
  | true =>
    rw [hb] at HM
    simp only [Bool.and_eq_true] at hb
    obtain ⟨x1, x2, x3⟩ := mayB_int hl1 hb.1
    obtain ⟨y1, y2, y3⟩ := mayB_int hl2 hb.2
    have s1 : (rep (signed n1 (val l1)).natAbs).length ≤ 1024 := by rw [← x1]; omega
    have s2 : (rep (signed n2 (val l2)).natAbs).length ≤ 1024 := by rw [← y1]; omega
    have ls1 : m1 ≤ 1024 := by rw [Hm1.out]; exact x3
    have ls2 : m2 ≤ 1024 := by rw [Hm2.out]; exact y3
    have s3 : (rep (signed n1 (val l1) + signed n2 (val l2)).natAbs).length ≤ 68719476736 := Nat.le_trans (len_addI s1 s2) (by decide)
    clear hb x1 x2 y1 y2
    obtain ⟨z1, hz1⟩ : ∃ z, z = signed n1 (val l1) := ⟨_, rfl⟩
    obtain ⟨z2, hz2⟩ : ∃ z, z = signed n2 (val l2) := ⟨_, rfl⟩
    rw [← hz1, ← hz2] at s3 ⊢
    rw [← hz1] at s1
    rw [← hz2] at s2
    have s4 : (rep z1.natAbs).length ≤ 68719476736 := Nat.le_trans s1 (by decide)
    have s5 : (rep z2.natAbs).length ≤ 68719476736 := Nat.le_trans s2 (by decide)
    by_cases hfit : (rep (z1 + z2).natAbs).length ≤ 1024
    · go_enter Tryz.func103, Tryz.ntmps103
      go_wp2_with fail
      rw [← HWe.out]
      refine HM.out.mono ?_
      rintro e w1 ⟨rfl, hbw⟩
      have hbw' := below_over hbw
      have hB1 : Below w.heap.size w w1 := hW.trans (hbw'.mono hW.size)
      have q0 := r0.below hbw' r0.lt
      have q1 := r1.below hbw' r1.lt
      have q2 := r2.below hbw' r2.lt
      have l1' := hy1.below hB1
      have l2' := hy2.below hB1
      have hsz1 : w.heap.size + 3 ≤ w1.heap.size := by have := hbw'.size; omega
      have hw : ∀ X ls v z, (v = .agg #[.bool n1, .slice a1 m1 c1] ∧ z = z1) ∨ (v = .agg #[.bool n2, .slice a2 m2 c2] ∧ z = z2) → At w1 X ls → Calls Tryz.prog 60 #[v] X fun e X' => ∃ p, e = .returned (.pointer (some ⟨p, 0, none⟩)) ∧ At w1 X' ((p, z) :: ls) := by
        rintro X ls v z (⟨rfl, rfl⟩ | ⟨rfl, rfl⟩) h
        · rw [hz1]; exact at_wide h n1 a1 l1 m1 c1 l1' hl1 Hm1.out (by omega)
        · rw [hz2]; exact at_wide h n2 a2 l2 m2 c2 l2' hl2 Hm2.out (by omega)
      have HW := Lib.hid hw; clear hw hz1 hz2
      have hk : ∀ X, Below w1.heap.size w1 X → (X.cell? ⟨w.heap.size, 0, none⟩ = some (.bool n1) ∧ X.cell? ⟨w.heap.size, 1, none⟩ = some (.slice a1 m1 c1) ∧ X.cell? ⟨w.heap.size + 1, 0, none⟩ = some (.bool n2) ∧ X.cell? ⟨w.heap.size + 1, 1, none⟩ = some (.slice a2 m2 c2)) ∧
          Row X (w.heap.size + 1 + 1) 24 [.bool false, .slice none 0 0] ∧ X.cell? ⟨w.heap.size + 1 + 1, 0, none⟩ = some (.bool false) ∧ X.cell? ⟨w.heap.size + 1 + 1, 1, none⟩ = some (.slice none 0 0) ∧ X.frozen? ⟨w.heap.size + 1 + 1, 0, none⟩ = false ∧ X.frozen? ⟨w.heap.size + 1 + 1, 1, none⟩ = false := by
        intro X hX
        have p0 := q0.below hX (by omega)
        have p1 := q1.below hX (by omega)
        have p2 := q2.below hX (by omega)
        exact ⟨⟨p0.cell_at 0, p0.cell_at 1, p1.cell_at 0, p1.cell_at 1⟩, p2, p2.cell_at 0, p2.cell_at 1, p2.free 0, p2.free 1⟩
      have HK := Lib.hid hk; clear hk
      have hs : ∀ X, Below (w.heap.size + 1 + 1) w1 X → (X.cell? ⟨w.heap.size, 0, none⟩ = some (.bool n1) ∧ X.cell? ⟨w.heap.size, 1, none⟩ = some (.slice a1 m1 c1) ∧ X.cell? ⟨w.heap.size + 1, 0, none⟩ = some (.bool n2) ∧ X.cell? ⟨w.heap.size + 1, 1, none⟩ = some (.slice a2 m2 c2)) := by
        intro X hX
        have p0 := q0.below hX (by omega)
        have p1 := q1.below hX (by omega)
        exact ⟨p0.cell_at 0, p0.cell_at 1, p1.cell_at 0, p1.cell_at 1⟩
      have HS := Lib.hid hs; clear hs
      have h := At.refl w1
      clear q0 q1 q2 l1' l2' hbw' hbw
      go_wp2_with fail
      go_region_held3 (fun X => (X.cell? ⟨w.heap.size, 0, none⟩ = some (.bool n1) ∧ X.cell? ⟨w.heap.size, 1, none⟩ = some (.slice a1 m1 c1) ∧ X.cell? ⟨w.heap.size + 1, 0, none⟩ = some (.bool n2) ∧ X.cell? ⟨w.heap.size + 1, 1, none⟩ = some (.slice a2 m2 c2)))
        (first | (apply And.left; apply HK.out; apply At.below; (repeat (first | exact h | apply At.drew | apply At.drewN | apply At.new)); done) | (apply HS.out; apply below_store; apply below_store; apply Below.mono; apply At.below; (repeat (first | exact h | apply At.drew | apply At.drewN | apply At.new)); omega; exact Nat.le_refl _; exact Nat.le_refl _))
        (first
          | (go_at_call 60; apply Calls.mono; apply HW.out; (first | exact .inl ⟨rfl, rfl⟩ | exact .inr ⟨rfl, rfl⟩); (repeat (first | exact h | apply At.drew | apply At.drewN | apply At.new)); clear h; rintro e w' ⟨p, rfl, h⟩)
          | (go_at_call 72; apply Calls.mono; apply at_add (w1 := w1) (hs := s4) (ht := s5); (repeat (first | exact h | apply At.drew | apply At.drewN | apply At.new)); (first | exact .head _ | exact .tail _ (.head _) | exact .tail _ (.tail _ (.head _)) | exact .tail _ (.tail _ (.tail _ (.head _))) | exact .tail _ (.tail _ (.tail _ (.tail _ (.head _))))); (first | exact .head _ | exact .tail _ (.head _) | exact .tail _ (.tail _ (.head _)) | exact .tail _ (.tail _ (.tail _ (.head _))) | exact .tail _ (.tail _ (.tail _ (.tail _ (.head _))))); (first | exact .head _ | exact .tail _ (.head _) | exact .tail _ (.tail _ (.head _)) | exact .tail _ (.tail _ (.tail _ (.head _))) | exact .tail _ (.tail _ (.tail _ (.tail _ (.head _))))); clear h; rintro e w' ⟨rfl, h⟩)
          | (go_at_call 62; apply Calls.mono; apply at_narrow_ok (w1 := w1) (hs := hfit); (repeat (first | exact h | apply At.drew | apply At.drewN | apply At.new)); exact mem_upd _ (by (first | exact .head _ | exact .tail _ (.head _) | exact .tail _ (.tail _ (.head _)) | exact .tail _ (.tail _ (.tail _ (.head _))) | exact .tail _ (.tail _ (.tail _ (.tail _ (.head _)))))); clear h; rintro e w' ⟨⟨ar, cr, rfl, hcr, hlr⟩, h⟩; obtain ⟨-, hR, k0, k1, k2, k3⟩ := HK.out _ (At.below h)))
      all_goals
        have e0 : (w'.setCell ⟨w.heap.size + 1 + 1, 0, none⟩ (.bool (decide (z1 + z2 < 0)))).cell? ⟨w.heap.size + 1 + 1, 0, none⟩ = some (.bool (decide (z1 + z2 < 0))) := (hR.store_any 0 _).cell_at 0
        have e1 : ((w'.setCell ⟨w.heap.size + 1 + 1, 0, none⟩ (.bool (decide (z1 + z2 < 0)))).setCell ⟨w.heap.size + 1 + 1, 1, none⟩ (.slice ar (rep (z1 + z2).natAbs).length cr)).cell? ⟨w.heap.size + 1 + 1, 1, none⟩ = some (.slice ar (rep (z1 + z2).natAbs).length cr) := ((hR.store_any 0 _).store_any 1 _).cell_at 1
        have hfin : Below w.heap.size w ((w'.setCell ⟨w.heap.size + 1 + 1, 0, none⟩ (.bool (decide (z1 + z2 < 0)))).setCell ⟨w.heap.size + 1 + 1, 1, none⟩ (.slice ar (rep (z1 + z2).natAbs).length cr)) := below_store (below_store (hB1.trans (h.below.mono hB1.size)) (by omega) _) (by omega) _
        have HL := Lib.hid (hlr.pair hR (.bool (decide (z1 + z2 < 0))) (.slice ar (rep (z1 + z2).natAbs).length cr))
        clear hlr
        have HF := Lib.hid hfin; clear hfin
        go_wp2
        (try simp only [Exit.inBlock, Exit.then])
        refine bodyPost_ret (v := .tuple #[.agg #[(.bool (decide (z1 + z2 < 0))), (.slice ar (rep (z1 + z2).natAbs).length cr)], .int .i64 0]) (by simp [results, Tryz.results103, go_sem, e0, e1]) rfl ?_
        exact Answer.yes ⟨HF.out, .inr ⟨hfit, _, rfl, ar, _, cr, rfl, rfl, hcr, HL.out⟩⟩
    · go_enter Tryz.func103, Tryz.ntmps103
      go_wp2_with fail
      rw [← HWe.out]
      refine HM.out.mono ?_
      rintro e w1 ⟨rfl, hbw⟩
      have hbw' := below_over hbw
      have hB1 : Below w.heap.size w w1 := hW.trans (hbw'.mono hW.size)
      have q0 := r0.below hbw' r0.lt
      have q1 := r1.below hbw' r1.lt
      have q2 := r2.below hbw' r2.lt
      have l1' := hy1.below hB1
      have l2' := hy2.below hB1
      have hsz1 : w.heap.size + 3 ≤ w1.heap.size := by have := hbw'.size; omega
      have hw : ∀ X ls v z, (v = .agg #[.bool n1, .slice a1 m1 c1] ∧ z = z1) ∨ (v = .agg #[.bool n2, .slice a2 m2 c2] ∧ z = z2) → At w1 X ls → Calls Tryz.prog 60 #[v] X fun e X' => ∃ p, e = .returned (.pointer (some ⟨p, 0, none⟩)) ∧ At w1 X' ((p, z) :: ls) := by
        rintro X ls v z (⟨rfl, rfl⟩ | ⟨rfl, rfl⟩) h
        · rw [hz1]; exact at_wide h n1 a1 l1 m1 c1 l1' hl1 Hm1.out (by omega)
        · rw [hz2]; exact at_wide h n2 a2 l2 m2 c2 l2' hl2 Hm2.out (by omega)
      have HW := Lib.hid hw; clear hw hz1 hz2
      have hk : ∀ X, Below w1.heap.size w1 X → (X.cell? ⟨w.heap.size, 0, none⟩ = some (.bool n1) ∧ X.cell? ⟨w.heap.size, 1, none⟩ = some (.slice a1 m1 c1) ∧ X.cell? ⟨w.heap.size + 1, 0, none⟩ = some (.bool n2) ∧ X.cell? ⟨w.heap.size + 1, 1, none⟩ = some (.slice a2 m2 c2)) ∧
          Row X (w.heap.size + 1 + 1) 24 [.bool false, .slice none 0 0] ∧ X.cell? ⟨w.heap.size + 1 + 1, 0, none⟩ = some (.bool false) ∧ X.cell? ⟨w.heap.size + 1 + 1, 1, none⟩ = some (.slice none 0 0) ∧ X.frozen? ⟨w.heap.size + 1 + 1, 0, none⟩ = false ∧ X.frozen? ⟨w.heap.size + 1 + 1, 1, none⟩ = false := by
        intro X hX
        have p0 := q0.below hX (by omega)
        have p1 := q1.below hX (by omega)
        have p2 := q2.below hX (by omega)
        exact ⟨⟨p0.cell_at 0, p0.cell_at 1, p1.cell_at 0, p1.cell_at 1⟩, p2, p2.cell_at 0, p2.cell_at 1, p2.free 0, p2.free 1⟩
      have HK := Lib.hid hk; clear hk
      have hs : ∀ X, Below (w.heap.size + 1 + 1) w1 X → (X.cell? ⟨w.heap.size, 0, none⟩ = some (.bool n1) ∧ X.cell? ⟨w.heap.size, 1, none⟩ = some (.slice a1 m1 c1) ∧ X.cell? ⟨w.heap.size + 1, 0, none⟩ = some (.bool n2) ∧ X.cell? ⟨w.heap.size + 1, 1, none⟩ = some (.slice a2 m2 c2)) := by
        intro X hX
        have p0 := q0.below hX (by omega)
        have p1 := q1.below hX (by omega)
        exact ⟨p0.cell_at 0, p0.cell_at 1, p1.cell_at 0, p1.cell_at 1⟩
      have HS := Lib.hid hs; clear hs
      have h := At.refl w1
      clear q0 q1 q2 l1' l2' hbw' hbw
      go_wp2_with fail
      go_region_held3 (fun X => (X.cell? ⟨w.heap.size, 0, none⟩ = some (.bool n1) ∧ X.cell? ⟨w.heap.size, 1, none⟩ = some (.slice a1 m1 c1) ∧ X.cell? ⟨w.heap.size + 1, 0, none⟩ = some (.bool n2) ∧ X.cell? ⟨w.heap.size + 1, 1, none⟩ = some (.slice a2 m2 c2)))
        (first | (apply And.left; apply HK.out; apply At.below; (repeat (first | exact h | apply At.drew | apply At.drewN | apply At.new)); done) | (apply HS.out; apply below_store; apply below_store; apply Below.mono; apply At.below; (repeat (first | exact h | apply At.drew | apply At.drewN | apply At.new)); omega; exact Nat.le_refl _; exact Nat.le_refl _))
        (first
          | (go_at_call 60; apply Calls.mono; apply HW.out; (first | exact .inl ⟨rfl, rfl⟩ | exact .inr ⟨rfl, rfl⟩); (repeat (first | exact h | apply At.drew | apply At.drewN | apply At.new)); clear h; rintro e w' ⟨p, rfl, h⟩)
          | (go_at_call 72; apply Calls.mono; apply at_add (w1 := w1) (hs := s4) (ht := s5); (repeat (first | exact h | apply At.drew | apply At.drewN | apply At.new)); (first | exact .head _ | exact .tail _ (.head _) | exact .tail _ (.tail _ (.head _)) | exact .tail _ (.tail _ (.tail _ (.head _))) | exact .tail _ (.tail _ (.tail _ (.tail _ (.head _))))); (first | exact .head _ | exact .tail _ (.head _) | exact .tail _ (.tail _ (.head _)) | exact .tail _ (.tail _ (.tail _ (.head _))) | exact .tail _ (.tail _ (.tail _ (.tail _ (.head _))))); (first | exact .head _ | exact .tail _ (.head _) | exact .tail _ (.tail _ (.head _)) | exact .tail _ (.tail _ (.tail _ (.head _))) | exact .tail _ (.tail _ (.tail _ (.tail _ (.head _))))); clear h; rintro e w' ⟨rfl, h⟩)
          | (go_at_call 62; apply Calls.mono; apply at_narrow_long (w1 := w1) (hs := s3) (hk := hfit); (repeat (first | exact h | apply At.drew | apply At.drewN | apply At.new)); exact mem_upd _ (by (first | exact .head _ | exact .tail _ (.head _) | exact .tail _ (.tail _ (.head _)) | exact .tail _ (.tail _ (.tail _ (.head _))) | exact .tail _ (.tail _ (.tail _ (.tail _ (.head _)))))); clear h; rintro e w' ⟨rfl, h⟩; obtain ⟨-, hR, k0, k1, k2, k3⟩ := HK.out _ (At.below h)))
      all_goals
        have e0 : (w'.setCell ⟨w.heap.size + 1 + 1, 0, none⟩ (.bool false)).cell? ⟨w.heap.size + 1 + 1, 0, none⟩ = some (.bool false) := (hR.store_any 0 _).cell_at 0
        have e1 : ((w'.setCell ⟨w.heap.size + 1 + 1, 0, none⟩ (.bool false)).setCell ⟨w.heap.size + 1 + 1, 1, none⟩ (.slice none 0 0)).cell? ⟨w.heap.size + 1 + 1, 1, none⟩ = some (.slice none 0 0) := ((hR.store_any 0 _).store_any 1 _).cell_at 1
        have hfin : Below w.heap.size w ((w'.setCell ⟨w.heap.size + 1 + 1, 0, none⟩ (.bool false)).setCell ⟨w.heap.size + 1 + 1, 1, none⟩ (.slice none 0 0)) := below_store (below_store (hB1.trans (h.below.mono hB1.size)) (by omega) _) (by omega) _
        have HF := Lib.hid hfin; clear hfin
        go_wp2
        (try simp only [Exit.inBlock, Exit.then])
        refine bodyPost_ret (v := .tuple #[.agg #[(.bool false), (.slice none 0 0)], .int .i64 2]) (by simp [results, Tryz.results103, go_sem, e0, e1]) rfl ?_
        exact Answer.yes ⟨HF.out, .inl ⟨by omega, rfl⟩⟩

set_option maxHeartbeats 800000 in
set_option maxRecDepth 100000 in
theorem join_sub (w : World) (n1 n2 : Bool) (a1 a2 : Option Addr) (l1 l2 : List Nat) (m1 m2 c1 c2 : Nat) (hy1 : Lay .u32 w a1 l1) (hy2 : Lay .u32 w a2 l2) (hl1 : Lim l1) (hl2 : Lim l2) (hm1 : m1 = l1.length) (hm2 : m2 = l2.length) (hb1 : m1 ≤ 9223372036854775807) (hb2 : m2 ≤ 9223372036854775807) :
    Calls Tryz.prog 103 #[.agg #[.bool n1, .slice a1 m1 c1], .agg #[.bool n2, .slice a2 m2 c2], .func (.func 106) #[] #[]] w fun e w' =>
      Answer (mayB n1 l1 && mayB n2 l2) w w' e (signed n1 (val l1) - signed n2 (val l2)) := by
  obtain ⟨r0, r1, r2, hW, hsz⟩ := rows3 w 24 (.bool n1) (.slice a1 m1 c1) (.bool n2) (.slice a2 m2 c2) (.bool false) (.slice none 0 0)
  obtain ⟨W, hWe⟩ : ∃ W, W = ((w.alloc (.cells #[.bool n1, .slice a1 m1 c1] 24)).alloc (.cells #[.bool n2, .slice a2 m2 c2] 24)).alloc (.cells #[.bool false, .slice none 0 0] 24) := ⟨_, rfl⟩
  rw [← hWe] at r0 r1 r2 hW hsz
  have HWe := Lib.hid hWe; clear hWe
  have hmay := fun g h1 h2 h3 => large_may2 (W.alloc (.cells #[.bool n1, .slice a1 m1 c1, .bool n2, .slice a2 m2 c2] 24)) g n1 n2 a1 a2 l1 l2 m1 m2 c1 c2 h1 h2 h3 hl1 hl2 hm1 hm2 hb1 hb2
  have Hm1 := Lib.hid hm1; clear hm1
  have Hm2 := Lib.hid hm2; clear hm2
  have hmay' := hmay (w.heap.size + 1 + 1 + 1) (by rw [← hsz]; exact row2slice _ _ _) ((hy1.below hW).below ((Below.refl _ _).alloc (Nat.le_refl _) _)) ((hy2.below hW).below ((Below.refl _ _).alloc (Nat.le_refl _) _))
  have HM := Lib.hid hmay'; clear hmay hmay'
  cases hb : (mayB n1 l1 && mayB n2 l2) with
  | false =>
    rw [hb] at HM
    clear hb
    go_enter Tryz.func103, Tryz.ntmps103
    go_wp2_with fail
    rw [← HWe.out]
    refine HM.out.mono ?_
    rintro e w1 ⟨rfl, hbw⟩
    have hB1 : Below w.heap.size w w1 := hW.trans ((below_over hbw).mono hW.size)
    have r2' := r2.below (below_over hbw) r2.lt
    have rc0 := r2'.cell_at 0
    have rc1 := r2'.cell_at 1
    have rf0 := r2'.free 0
    have rf1 := r2'.free 1
    simp only [List.getElem?_cons_zero, List.getElem?_cons_succ] at rc0 rc1
    have e0 : (w1.setCell ⟨w.heap.size + 1 + 1, 0, none⟩ (.bool false)).cell? ⟨w.heap.size + 1 + 1, 0, none⟩ = some (.bool false) := (r2'.store_any 0 _).cell_at 0
    have e1 : ((w1.setCell ⟨w.heap.size + 1 + 1, 0, none⟩ (.bool false)).setCell ⟨w.heap.size + 1 + 1, 1, none⟩ (.slice none 0 0)).cell? ⟨w.heap.size + 1 + 1, 1, none⟩ = some (.slice none 0 0) := ((r2'.store_any 0 _).store_any 1 _).cell_at 1
    go_wp2
    (try simp only [Exit.inBlock, Exit.then])
    refine bodyPost_ret (v := .tuple #[.agg #[.bool false, .slice none 0 0], .int .i64 1]) (by simp [results, Tryz.results103, go_sem, e0, e1]) rfl ?_
    exact Answer.no ⟨rfl, below_store (below_store hB1 (by omega) _) (by omega) _⟩
  | true =>
    rw [hb] at HM
    simp only [Bool.and_eq_true] at hb
    obtain ⟨x1, x2, x3⟩ := mayB_int hl1 hb.1
    obtain ⟨y1, y2, y3⟩ := mayB_int hl2 hb.2
    have s1 : (rep (signed n1 (val l1)).natAbs).length ≤ 1024 := by rw [← x1]; omega
    have s2 : (rep (signed n2 (val l2)).natAbs).length ≤ 1024 := by rw [← y1]; omega
    have ls1 : m1 ≤ 1024 := by rw [Hm1.out]; exact x3
    have ls2 : m2 ≤ 1024 := by rw [Hm2.out]; exact y3
    have s3 : (rep (signed n1 (val l1) - signed n2 (val l2)).natAbs).length ≤ 68719476736 := Nat.le_trans (len_subI s1 s2) (by decide)
    clear hb x1 x2 y1 y2
    obtain ⟨z1, hz1⟩ : ∃ z, z = signed n1 (val l1) := ⟨_, rfl⟩
    obtain ⟨z2, hz2⟩ : ∃ z, z = signed n2 (val l2) := ⟨_, rfl⟩
    rw [← hz1, ← hz2] at s3 ⊢
    rw [← hz1] at s1
    rw [← hz2] at s2
    have s4 : (rep z1.natAbs).length ≤ 68719476736 := Nat.le_trans s1 (by decide)
    have s5 : (rep z2.natAbs).length ≤ 68719476736 := Nat.le_trans s2 (by decide)
    by_cases hfit : (rep (z1 - z2).natAbs).length ≤ 1024
    · go_enter Tryz.func103, Tryz.ntmps103
      go_wp2_with fail
      rw [← HWe.out]
      refine HM.out.mono ?_
      rintro e w1 ⟨rfl, hbw⟩
      have hbw' := below_over hbw
      have hB1 : Below w.heap.size w w1 := hW.trans (hbw'.mono hW.size)
      have q0 := r0.below hbw' r0.lt
      have q1 := r1.below hbw' r1.lt
      have q2 := r2.below hbw' r2.lt
      have l1' := hy1.below hB1
      have l2' := hy2.below hB1
      have hsz1 : w.heap.size + 3 ≤ w1.heap.size := by have := hbw'.size; omega
      have hw : ∀ X ls v z, (v = .agg #[.bool n1, .slice a1 m1 c1] ∧ z = z1) ∨ (v = .agg #[.bool n2, .slice a2 m2 c2] ∧ z = z2) → At w1 X ls → Calls Tryz.prog 60 #[v] X fun e X' => ∃ p, e = .returned (.pointer (some ⟨p, 0, none⟩)) ∧ At w1 X' ((p, z) :: ls) := by
        rintro X ls v z (⟨rfl, rfl⟩ | ⟨rfl, rfl⟩) h
        · rw [hz1]; exact at_wide h n1 a1 l1 m1 c1 l1' hl1 Hm1.out (by omega)
        · rw [hz2]; exact at_wide h n2 a2 l2 m2 c2 l2' hl2 Hm2.out (by omega)
      have HW := Lib.hid hw; clear hw hz1 hz2
      have hk : ∀ X, Below w1.heap.size w1 X → (X.cell? ⟨w.heap.size, 0, none⟩ = some (.bool n1) ∧ X.cell? ⟨w.heap.size, 1, none⟩ = some (.slice a1 m1 c1) ∧ X.cell? ⟨w.heap.size + 1, 0, none⟩ = some (.bool n2) ∧ X.cell? ⟨w.heap.size + 1, 1, none⟩ = some (.slice a2 m2 c2)) ∧
          Row X (w.heap.size + 1 + 1) 24 [.bool false, .slice none 0 0] ∧ X.cell? ⟨w.heap.size + 1 + 1, 0, none⟩ = some (.bool false) ∧ X.cell? ⟨w.heap.size + 1 + 1, 1, none⟩ = some (.slice none 0 0) ∧ X.frozen? ⟨w.heap.size + 1 + 1, 0, none⟩ = false ∧ X.frozen? ⟨w.heap.size + 1 + 1, 1, none⟩ = false := by
        intro X hX
        have p0 := q0.below hX (by omega)
        have p1 := q1.below hX (by omega)
        have p2 := q2.below hX (by omega)
        exact ⟨⟨p0.cell_at 0, p0.cell_at 1, p1.cell_at 0, p1.cell_at 1⟩, p2, p2.cell_at 0, p2.cell_at 1, p2.free 0, p2.free 1⟩
      have HK := Lib.hid hk; clear hk
      have hs : ∀ X, Below (w.heap.size + 1 + 1) w1 X → (X.cell? ⟨w.heap.size, 0, none⟩ = some (.bool n1) ∧ X.cell? ⟨w.heap.size, 1, none⟩ = some (.slice a1 m1 c1) ∧ X.cell? ⟨w.heap.size + 1, 0, none⟩ = some (.bool n2) ∧ X.cell? ⟨w.heap.size + 1, 1, none⟩ = some (.slice a2 m2 c2)) := by
        intro X hX
        have p0 := q0.below hX (by omega)
        have p1 := q1.below hX (by omega)
        exact ⟨p0.cell_at 0, p0.cell_at 1, p1.cell_at 0, p1.cell_at 1⟩
      have HS := Lib.hid hs; clear hs
      have h := At.refl w1
      clear q0 q1 q2 l1' l2' hbw' hbw
      go_wp2_with fail
      go_region_held3 (fun X => (X.cell? ⟨w.heap.size, 0, none⟩ = some (.bool n1) ∧ X.cell? ⟨w.heap.size, 1, none⟩ = some (.slice a1 m1 c1) ∧ X.cell? ⟨w.heap.size + 1, 0, none⟩ = some (.bool n2) ∧ X.cell? ⟨w.heap.size + 1, 1, none⟩ = some (.slice a2 m2 c2)))
        (first | (apply And.left; apply HK.out; apply At.below; (repeat (first | exact h | apply At.drew | apply At.drewN | apply At.new)); done) | (apply HS.out; apply below_store; apply below_store; apply Below.mono; apply At.below; (repeat (first | exact h | apply At.drew | apply At.drewN | apply At.new)); omega; exact Nat.le_refl _; exact Nat.le_refl _))
        (first
          | (go_at_call 60; apply Calls.mono; apply HW.out; (first | exact .inl ⟨rfl, rfl⟩ | exact .inr ⟨rfl, rfl⟩); (repeat (first | exact h | apply At.drew | apply At.drewN | apply At.new)); clear h; rintro e w' ⟨p, rfl, h⟩)
          | (go_at_call 106; apply Calls.mono; apply at_sub (w1 := w1) (hs := s4) (ht := s5); (repeat (first | exact h | apply At.drew | apply At.drewN | apply At.new)); (first | exact .head _ | exact .tail _ (.head _) | exact .tail _ (.tail _ (.head _)) | exact .tail _ (.tail _ (.tail _ (.head _))) | exact .tail _ (.tail _ (.tail _ (.tail _ (.head _))))); (first | exact .head _ | exact .tail _ (.head _) | exact .tail _ (.tail _ (.head _)) | exact .tail _ (.tail _ (.tail _ (.head _))) | exact .tail _ (.tail _ (.tail _ (.tail _ (.head _))))); (first | exact .head _ | exact .tail _ (.head _) | exact .tail _ (.tail _ (.head _)) | exact .tail _ (.tail _ (.tail _ (.head _))) | exact .tail _ (.tail _ (.tail _ (.tail _ (.head _))))); clear h; rintro e w' ⟨rfl, h⟩)
          | (go_at_call 62; apply Calls.mono; apply at_narrow_ok (w1 := w1) (hs := hfit); (repeat (first | exact h | apply At.drew | apply At.drewN | apply At.new)); exact mem_upd _ (by (first | exact .head _ | exact .tail _ (.head _) | exact .tail _ (.tail _ (.head _)) | exact .tail _ (.tail _ (.tail _ (.head _))) | exact .tail _ (.tail _ (.tail _ (.tail _ (.head _)))))); clear h; rintro e w' ⟨⟨ar, cr, rfl, hcr, hlr⟩, h⟩; obtain ⟨-, hR, k0, k1, k2, k3⟩ := HK.out _ (At.below h)))
      all_goals
        have e0 : (w'.setCell ⟨w.heap.size + 1 + 1, 0, none⟩ (.bool (decide (z1 - z2 < 0)))).cell? ⟨w.heap.size + 1 + 1, 0, none⟩ = some (.bool (decide (z1 - z2 < 0))) := (hR.store_any 0 _).cell_at 0
        have e1 : ((w'.setCell ⟨w.heap.size + 1 + 1, 0, none⟩ (.bool (decide (z1 - z2 < 0)))).setCell ⟨w.heap.size + 1 + 1, 1, none⟩ (.slice ar (rep (z1 - z2).natAbs).length cr)).cell? ⟨w.heap.size + 1 + 1, 1, none⟩ = some (.slice ar (rep (z1 - z2).natAbs).length cr) := ((hR.store_any 0 _).store_any 1 _).cell_at 1
        have hfin : Below w.heap.size w ((w'.setCell ⟨w.heap.size + 1 + 1, 0, none⟩ (.bool (decide (z1 - z2 < 0)))).setCell ⟨w.heap.size + 1 + 1, 1, none⟩ (.slice ar (rep (z1 - z2).natAbs).length cr)) := below_store (below_store (hB1.trans (h.below.mono hB1.size)) (by omega) _) (by omega) _
        have HL := Lib.hid (hlr.pair hR (.bool (decide (z1 - z2 < 0))) (.slice ar (rep (z1 - z2).natAbs).length cr))
        clear hlr
        have HF := Lib.hid hfin; clear hfin
        go_wp2
        (try simp only [Exit.inBlock, Exit.then])
        refine bodyPost_ret (v := .tuple #[.agg #[(.bool (decide (z1 - z2 < 0))), (.slice ar (rep (z1 - z2).natAbs).length cr)], .int .i64 0]) (by simp [results, Tryz.results103, go_sem, e0, e1]) rfl ?_
        exact Answer.yes ⟨HF.out, .inr ⟨hfit, _, rfl, ar, _, cr, rfl, rfl, hcr, HL.out⟩⟩
    · go_enter Tryz.func103, Tryz.ntmps103
      go_wp2_with fail
      rw [← HWe.out]
      refine HM.out.mono ?_
      rintro e w1 ⟨rfl, hbw⟩
      have hbw' := below_over hbw
      have hB1 : Below w.heap.size w w1 := hW.trans (hbw'.mono hW.size)
      have q0 := r0.below hbw' r0.lt
      have q1 := r1.below hbw' r1.lt
      have q2 := r2.below hbw' r2.lt
      have l1' := hy1.below hB1
      have l2' := hy2.below hB1
      have hsz1 : w.heap.size + 3 ≤ w1.heap.size := by have := hbw'.size; omega
      have hw : ∀ X ls v z, (v = .agg #[.bool n1, .slice a1 m1 c1] ∧ z = z1) ∨ (v = .agg #[.bool n2, .slice a2 m2 c2] ∧ z = z2) → At w1 X ls → Calls Tryz.prog 60 #[v] X fun e X' => ∃ p, e = .returned (.pointer (some ⟨p, 0, none⟩)) ∧ At w1 X' ((p, z) :: ls) := by
        rintro X ls v z (⟨rfl, rfl⟩ | ⟨rfl, rfl⟩) h
        · rw [hz1]; exact at_wide h n1 a1 l1 m1 c1 l1' hl1 Hm1.out (by omega)
        · rw [hz2]; exact at_wide h n2 a2 l2 m2 c2 l2' hl2 Hm2.out (by omega)
      have HW := Lib.hid hw; clear hw hz1 hz2
      have hk : ∀ X, Below w1.heap.size w1 X → (X.cell? ⟨w.heap.size, 0, none⟩ = some (.bool n1) ∧ X.cell? ⟨w.heap.size, 1, none⟩ = some (.slice a1 m1 c1) ∧ X.cell? ⟨w.heap.size + 1, 0, none⟩ = some (.bool n2) ∧ X.cell? ⟨w.heap.size + 1, 1, none⟩ = some (.slice a2 m2 c2)) ∧
          Row X (w.heap.size + 1 + 1) 24 [.bool false, .slice none 0 0] ∧ X.cell? ⟨w.heap.size + 1 + 1, 0, none⟩ = some (.bool false) ∧ X.cell? ⟨w.heap.size + 1 + 1, 1, none⟩ = some (.slice none 0 0) ∧ X.frozen? ⟨w.heap.size + 1 + 1, 0, none⟩ = false ∧ X.frozen? ⟨w.heap.size + 1 + 1, 1, none⟩ = false := by
        intro X hX
        have p0 := q0.below hX (by omega)
        have p1 := q1.below hX (by omega)
        have p2 := q2.below hX (by omega)
        exact ⟨⟨p0.cell_at 0, p0.cell_at 1, p1.cell_at 0, p1.cell_at 1⟩, p2, p2.cell_at 0, p2.cell_at 1, p2.free 0, p2.free 1⟩
      have HK := Lib.hid hk; clear hk
      have hs : ∀ X, Below (w.heap.size + 1 + 1) w1 X → (X.cell? ⟨w.heap.size, 0, none⟩ = some (.bool n1) ∧ X.cell? ⟨w.heap.size, 1, none⟩ = some (.slice a1 m1 c1) ∧ X.cell? ⟨w.heap.size + 1, 0, none⟩ = some (.bool n2) ∧ X.cell? ⟨w.heap.size + 1, 1, none⟩ = some (.slice a2 m2 c2)) := by
        intro X hX
        have p0 := q0.below hX (by omega)
        have p1 := q1.below hX (by omega)
        exact ⟨p0.cell_at 0, p0.cell_at 1, p1.cell_at 0, p1.cell_at 1⟩
      have HS := Lib.hid hs; clear hs
      have h := At.refl w1
      clear q0 q1 q2 l1' l2' hbw' hbw
      go_wp2_with fail
      go_region_held3 (fun X => (X.cell? ⟨w.heap.size, 0, none⟩ = some (.bool n1) ∧ X.cell? ⟨w.heap.size, 1, none⟩ = some (.slice a1 m1 c1) ∧ X.cell? ⟨w.heap.size + 1, 0, none⟩ = some (.bool n2) ∧ X.cell? ⟨w.heap.size + 1, 1, none⟩ = some (.slice a2 m2 c2)))
        (first | (apply And.left; apply HK.out; apply At.below; (repeat (first | exact h | apply At.drew | apply At.drewN | apply At.new)); done) | (apply HS.out; apply below_store; apply below_store; apply Below.mono; apply At.below; (repeat (first | exact h | apply At.drew | apply At.drewN | apply At.new)); omega; exact Nat.le_refl _; exact Nat.le_refl _))
        (first
          | (go_at_call 60; apply Calls.mono; apply HW.out; (first | exact .inl ⟨rfl, rfl⟩ | exact .inr ⟨rfl, rfl⟩); (repeat (first | exact h | apply At.drew | apply At.drewN | apply At.new)); clear h; rintro e w' ⟨p, rfl, h⟩)
          | (go_at_call 106; apply Calls.mono; apply at_sub (w1 := w1) (hs := s4) (ht := s5); (repeat (first | exact h | apply At.drew | apply At.drewN | apply At.new)); (first | exact .head _ | exact .tail _ (.head _) | exact .tail _ (.tail _ (.head _)) | exact .tail _ (.tail _ (.tail _ (.head _))) | exact .tail _ (.tail _ (.tail _ (.tail _ (.head _))))); (first | exact .head _ | exact .tail _ (.head _) | exact .tail _ (.tail _ (.head _)) | exact .tail _ (.tail _ (.tail _ (.head _))) | exact .tail _ (.tail _ (.tail _ (.tail _ (.head _))))); (first | exact .head _ | exact .tail _ (.head _) | exact .tail _ (.tail _ (.head _)) | exact .tail _ (.tail _ (.tail _ (.head _))) | exact .tail _ (.tail _ (.tail _ (.tail _ (.head _))))); clear h; rintro e w' ⟨rfl, h⟩)
          | (go_at_call 62; apply Calls.mono; apply at_narrow_long (w1 := w1) (hs := s3) (hk := hfit); (repeat (first | exact h | apply At.drew | apply At.drewN | apply At.new)); exact mem_upd _ (by (first | exact .head _ | exact .tail _ (.head _) | exact .tail _ (.tail _ (.head _)) | exact .tail _ (.tail _ (.tail _ (.head _))) | exact .tail _ (.tail _ (.tail _ (.tail _ (.head _)))))); clear h; rintro e w' ⟨rfl, h⟩; obtain ⟨-, hR, k0, k1, k2, k3⟩ := HK.out _ (At.below h)))
      all_goals
        have e0 : (w'.setCell ⟨w.heap.size + 1 + 1, 0, none⟩ (.bool false)).cell? ⟨w.heap.size + 1 + 1, 0, none⟩ = some (.bool false) := (hR.store_any 0 _).cell_at 0
        have e1 : ((w'.setCell ⟨w.heap.size + 1 + 1, 0, none⟩ (.bool false)).setCell ⟨w.heap.size + 1 + 1, 1, none⟩ (.slice none 0 0)).cell? ⟨w.heap.size + 1 + 1, 1, none⟩ = some (.slice none 0 0) := ((hR.store_any 0 _).store_any 1 _).cell_at 1
        have hfin : Below w.heap.size w ((w'.setCell ⟨w.heap.size + 1 + 1, 0, none⟩ (.bool false)).setCell ⟨w.heap.size + 1 + 1, 1, none⟩ (.slice none 0 0)) := below_store (below_store (hB1.trans (h.below.mono hB1.size)) (by omega) _) (by omega) _
        have HF := Lib.hid hfin; clear hfin
        go_wp2
        (try simp only [Exit.inBlock, Exit.then])
        refine bodyPost_ret (v := .tuple #[.agg #[(.bool false), (.slice none 0 0)], .int .i64 2]) (by simp [results, Tryz.results103, go_sem, e0, e1]) rfl ?_
        exact Answer.yes ⟨HF.out, .inl ⟨by omega, rfl⟩⟩

set_option maxHeartbeats 800000 in
set_option maxRecDepth 100000 in
theorem join_mul (w : World) (n1 n2 : Bool) (a1 a2 : Option Addr) (l1 l2 : List Nat) (m1 m2 c1 c2 : Nat) (hy1 : Lay .u32 w a1 l1) (hy2 : Lay .u32 w a2 l2) (hl1 : Lim l1) (hl2 : Lim l2) (hm1 : m1 = l1.length) (hm2 : m2 = l2.length) (hb1 : m1 ≤ 9223372036854775807) (hb2 : m2 ≤ 9223372036854775807) :
    Calls Tryz.prog 103 #[.agg #[.bool n1, .slice a1 m1 c1], .agg #[.bool n2, .slice a2 m2 c2], .func (.func 104) #[] #[]] w fun e w' =>
      Answer (mayB n1 l1 && mayB n2 l2) w w' e (signed n1 (val l1) * signed n2 (val l2)) := by
  obtain ⟨r0, r1, r2, hW, hsz⟩ := rows3 w 24 (.bool n1) (.slice a1 m1 c1) (.bool n2) (.slice a2 m2 c2) (.bool false) (.slice none 0 0)
  obtain ⟨W, hWe⟩ : ∃ W, W = ((w.alloc (.cells #[.bool n1, .slice a1 m1 c1] 24)).alloc (.cells #[.bool n2, .slice a2 m2 c2] 24)).alloc (.cells #[.bool false, .slice none 0 0] 24) := ⟨_, rfl⟩
  rw [← hWe] at r0 r1 r2 hW hsz
  have HWe := Lib.hid hWe; clear hWe
  have hmay := fun g h1 h2 h3 => large_may2 (W.alloc (.cells #[.bool n1, .slice a1 m1 c1, .bool n2, .slice a2 m2 c2] 24)) g n1 n2 a1 a2 l1 l2 m1 m2 c1 c2 h1 h2 h3 hl1 hl2 hm1 hm2 hb1 hb2
  have Hm1 := Lib.hid hm1; clear hm1
  have Hm2 := Lib.hid hm2; clear hm2
  have hmay' := hmay (w.heap.size + 1 + 1 + 1) (by rw [← hsz]; exact row2slice _ _ _) ((hy1.below hW).below ((Below.refl _ _).alloc (Nat.le_refl _) _)) ((hy2.below hW).below ((Below.refl _ _).alloc (Nat.le_refl _) _))
  have HM := Lib.hid hmay'; clear hmay hmay'
  cases hb : (mayB n1 l1 && mayB n2 l2) with
  | false =>
    rw [hb] at HM
    clear hb
    go_enter Tryz.func103, Tryz.ntmps103
    go_wp2_with fail
    rw [← HWe.out]
    refine HM.out.mono ?_
    rintro e w1 ⟨rfl, hbw⟩
    have hB1 : Below w.heap.size w w1 := hW.trans ((below_over hbw).mono hW.size)
    have r2' := r2.below (below_over hbw) r2.lt
    have rc0 := r2'.cell_at 0
    have rc1 := r2'.cell_at 1
    have rf0 := r2'.free 0
    have rf1 := r2'.free 1
    simp only [List.getElem?_cons_zero, List.getElem?_cons_succ] at rc0 rc1
    have e0 : (w1.setCell ⟨w.heap.size + 1 + 1, 0, none⟩ (.bool false)).cell? ⟨w.heap.size + 1 + 1, 0, none⟩ = some (.bool false) := (r2'.store_any 0 _).cell_at 0
    have e1 : ((w1.setCell ⟨w.heap.size + 1 + 1, 0, none⟩ (.bool false)).setCell ⟨w.heap.size + 1 + 1, 1, none⟩ (.slice none 0 0)).cell? ⟨w.heap.size + 1 + 1, 1, none⟩ = some (.slice none 0 0) := ((r2'.store_any 0 _).store_any 1 _).cell_at 1
    go_wp2
    (try simp only [Exit.inBlock, Exit.then])
    refine bodyPost_ret (v := .tuple #[.agg #[.bool false, .slice none 0 0], .int .i64 1]) (by simp [results, Tryz.results103, go_sem, e0, e1]) rfl ?_
    exact Answer.no ⟨rfl, below_store (below_store hB1 (by omega) _) (by omega) _⟩
  | true =>
    rw [hb] at HM
    simp only [Bool.and_eq_true] at hb
    obtain ⟨x1, x2, x3⟩ := mayB_int hl1 hb.1
    obtain ⟨y1, y2, y3⟩ := mayB_int hl2 hb.2
    have s1 : (rep (signed n1 (val l1)).natAbs).length ≤ 1024 := by rw [← x1]; omega
    have s2 : (rep (signed n2 (val l2)).natAbs).length ≤ 1024 := by rw [← y1]; omega
    have ls1 : m1 ≤ 1024 := by rw [Hm1.out]; exact x3
    have ls2 : m2 ≤ 1024 := by rw [Hm2.out]; exact y3
    have s3 : (rep (signed n1 (val l1) * signed n2 (val l2)).natAbs).length ≤ 68719476736 := Nat.le_trans (len_mulI s1 s2) (by decide)
    clear hb x1 x2 y1 y2
    obtain ⟨z1, hz1⟩ : ∃ z, z = signed n1 (val l1) := ⟨_, rfl⟩
    obtain ⟨z2, hz2⟩ : ∃ z, z = signed n2 (val l2) := ⟨_, rfl⟩
    rw [← hz1, ← hz2] at s3 ⊢
    rw [← hz1] at s1
    rw [← hz2] at s2
    have s4 : (rep z1.natAbs).length ≤ 68719476736 := Nat.le_trans s1 (by decide)
    have s5 : (rep z2.natAbs).length ≤ 68719476736 := Nat.le_trans s2 (by decide)
    by_cases hfit : (rep (z1 * z2).natAbs).length ≤ 1024
    · go_enter Tryz.func103, Tryz.ntmps103
      go_wp2_with fail
      rw [← HWe.out]
      refine HM.out.mono ?_
      rintro e w1 ⟨rfl, hbw⟩
      have hbw' := below_over hbw
      have hB1 : Below w.heap.size w w1 := hW.trans (hbw'.mono hW.size)
      have q0 := r0.below hbw' r0.lt
      have q1 := r1.below hbw' r1.lt
      have q2 := r2.below hbw' r2.lt
      have l1' := hy1.below hB1
      have l2' := hy2.below hB1
      have hsz1 : w.heap.size + 3 ≤ w1.heap.size := by have := hbw'.size; omega
      have hw : ∀ X ls v z, (v = .agg #[.bool n1, .slice a1 m1 c1] ∧ z = z1) ∨ (v = .agg #[.bool n2, .slice a2 m2 c2] ∧ z = z2) → At w1 X ls → Calls Tryz.prog 60 #[v] X fun e X' => ∃ p, e = .returned (.pointer (some ⟨p, 0, none⟩)) ∧ At w1 X' ((p, z) :: ls) := by
        rintro X ls v z (⟨rfl, rfl⟩ | ⟨rfl, rfl⟩) h
        · rw [hz1]; exact at_wide h n1 a1 l1 m1 c1 l1' hl1 Hm1.out (by omega)
        · rw [hz2]; exact at_wide h n2 a2 l2 m2 c2 l2' hl2 Hm2.out (by omega)
      have HW := Lib.hid hw; clear hw hz1 hz2
      have hk : ∀ X, Below w1.heap.size w1 X → (X.cell? ⟨w.heap.size, 0, none⟩ = some (.bool n1) ∧ X.cell? ⟨w.heap.size, 1, none⟩ = some (.slice a1 m1 c1) ∧ X.cell? ⟨w.heap.size + 1, 0, none⟩ = some (.bool n2) ∧ X.cell? ⟨w.heap.size + 1, 1, none⟩ = some (.slice a2 m2 c2)) ∧
          Row X (w.heap.size + 1 + 1) 24 [.bool false, .slice none 0 0] ∧ X.cell? ⟨w.heap.size + 1 + 1, 0, none⟩ = some (.bool false) ∧ X.cell? ⟨w.heap.size + 1 + 1, 1, none⟩ = some (.slice none 0 0) ∧ X.frozen? ⟨w.heap.size + 1 + 1, 0, none⟩ = false ∧ X.frozen? ⟨w.heap.size + 1 + 1, 1, none⟩ = false := by
        intro X hX
        have p0 := q0.below hX (by omega)
        have p1 := q1.below hX (by omega)
        have p2 := q2.below hX (by omega)
        exact ⟨⟨p0.cell_at 0, p0.cell_at 1, p1.cell_at 0, p1.cell_at 1⟩, p2, p2.cell_at 0, p2.cell_at 1, p2.free 0, p2.free 1⟩
      have HK := Lib.hid hk; clear hk
      have hs : ∀ X, Below (w.heap.size + 1 + 1) w1 X → (X.cell? ⟨w.heap.size, 0, none⟩ = some (.bool n1) ∧ X.cell? ⟨w.heap.size, 1, none⟩ = some (.slice a1 m1 c1) ∧ X.cell? ⟨w.heap.size + 1, 0, none⟩ = some (.bool n2) ∧ X.cell? ⟨w.heap.size + 1, 1, none⟩ = some (.slice a2 m2 c2)) := by
        intro X hX
        have p0 := q0.below hX (by omega)
        have p1 := q1.below hX (by omega)
        exact ⟨p0.cell_at 0, p0.cell_at 1, p1.cell_at 0, p1.cell_at 1⟩
      have HS := Lib.hid hs; clear hs
      have h := At.refl w1
      clear q0 q1 q2 l1' l2' hbw' hbw
      go_wp2_with fail
      go_region_held3 (fun X => (X.cell? ⟨w.heap.size, 0, none⟩ = some (.bool n1) ∧ X.cell? ⟨w.heap.size, 1, none⟩ = some (.slice a1 m1 c1) ∧ X.cell? ⟨w.heap.size + 1, 0, none⟩ = some (.bool n2) ∧ X.cell? ⟨w.heap.size + 1, 1, none⟩ = some (.slice a2 m2 c2)))
        (first | (apply And.left; apply HK.out; apply At.below; (repeat (first | exact h | apply At.drew | apply At.drewN | apply At.new)); done) | (apply HS.out; apply below_store; apply below_store; apply Below.mono; apply At.below; (repeat (first | exact h | apply At.drew | apply At.drewN | apply At.new)); omega; exact Nat.le_refl _; exact Nat.le_refl _))
        (first
          | (go_at_call 60; apply Calls.mono; apply HW.out; (first | exact .inl ⟨rfl, rfl⟩ | exact .inr ⟨rfl, rfl⟩); (repeat (first | exact h | apply At.drew | apply At.drewN | apply At.new)); clear h; rintro e w' ⟨p, rfl, h⟩)
          | (go_at_call 104; apply Calls.mono; apply at_mul (w1 := w1) (hs := s4) (ht := s5); (repeat (first | exact h | apply At.drew | apply At.drewN | apply At.new)); (first | exact .head _ | exact .tail _ (.head _) | exact .tail _ (.tail _ (.head _)) | exact .tail _ (.tail _ (.tail _ (.head _))) | exact .tail _ (.tail _ (.tail _ (.tail _ (.head _))))); (first | exact .head _ | exact .tail _ (.head _) | exact .tail _ (.tail _ (.head _)) | exact .tail _ (.tail _ (.tail _ (.head _))) | exact .tail _ (.tail _ (.tail _ (.tail _ (.head _))))); (first | exact .head _ | exact .tail _ (.head _) | exact .tail _ (.tail _ (.head _)) | exact .tail _ (.tail _ (.tail _ (.head _))) | exact .tail _ (.tail _ (.tail _ (.tail _ (.head _))))); intro hnd; simp at hnd; omega; clear h; rintro e w' ⟨rfl, h⟩)
          | (go_at_call 62; apply Calls.mono; apply at_narrow_ok (w1 := w1) (hs := hfit); (repeat (first | exact h | apply At.drew | apply At.drewN | apply At.new)); exact mem_upd _ (by (first | exact .head _ | exact .tail _ (.head _) | exact .tail _ (.tail _ (.head _)) | exact .tail _ (.tail _ (.tail _ (.head _))) | exact .tail _ (.tail _ (.tail _ (.tail _ (.head _)))))); clear h; rintro e w' ⟨⟨ar, cr, rfl, hcr, hlr⟩, h⟩; obtain ⟨-, hR, k0, k1, k2, k3⟩ := HK.out _ (At.below h)))
      all_goals
        have e0 : (w'.setCell ⟨w.heap.size + 1 + 1, 0, none⟩ (.bool (decide (z1 * z2 < 0)))).cell? ⟨w.heap.size + 1 + 1, 0, none⟩ = some (.bool (decide (z1 * z2 < 0))) := (hR.store_any 0 _).cell_at 0
        have e1 : ((w'.setCell ⟨w.heap.size + 1 + 1, 0, none⟩ (.bool (decide (z1 * z2 < 0)))).setCell ⟨w.heap.size + 1 + 1, 1, none⟩ (.slice ar (rep (z1 * z2).natAbs).length cr)).cell? ⟨w.heap.size + 1 + 1, 1, none⟩ = some (.slice ar (rep (z1 * z2).natAbs).length cr) := ((hR.store_any 0 _).store_any 1 _).cell_at 1
        have hfin : Below w.heap.size w ((w'.setCell ⟨w.heap.size + 1 + 1, 0, none⟩ (.bool (decide (z1 * z2 < 0)))).setCell ⟨w.heap.size + 1 + 1, 1, none⟩ (.slice ar (rep (z1 * z2).natAbs).length cr)) := below_store (below_store (hB1.trans (h.below.mono hB1.size)) (by omega) _) (by omega) _
        have HL := Lib.hid (hlr.pair hR (.bool (decide (z1 * z2 < 0))) (.slice ar (rep (z1 * z2).natAbs).length cr))
        clear hlr
        have HF := Lib.hid hfin; clear hfin
        go_wp2
        (try simp only [Exit.inBlock, Exit.then])
        refine bodyPost_ret (v := .tuple #[.agg #[(.bool (decide (z1 * z2 < 0))), (.slice ar (rep (z1 * z2).natAbs).length cr)], .int .i64 0]) (by simp [results, Tryz.results103, go_sem, e0, e1]) rfl ?_
        exact Answer.yes ⟨HF.out, .inr ⟨hfit, _, rfl, ar, _, cr, rfl, rfl, hcr, HL.out⟩⟩
    · go_enter Tryz.func103, Tryz.ntmps103
      go_wp2_with fail
      rw [← HWe.out]
      refine HM.out.mono ?_
      rintro e w1 ⟨rfl, hbw⟩
      have hbw' := below_over hbw
      have hB1 : Below w.heap.size w w1 := hW.trans (hbw'.mono hW.size)
      have q0 := r0.below hbw' r0.lt
      have q1 := r1.below hbw' r1.lt
      have q2 := r2.below hbw' r2.lt
      have l1' := hy1.below hB1
      have l2' := hy2.below hB1
      have hsz1 : w.heap.size + 3 ≤ w1.heap.size := by have := hbw'.size; omega
      have hw : ∀ X ls v z, (v = .agg #[.bool n1, .slice a1 m1 c1] ∧ z = z1) ∨ (v = .agg #[.bool n2, .slice a2 m2 c2] ∧ z = z2) → At w1 X ls → Calls Tryz.prog 60 #[v] X fun e X' => ∃ p, e = .returned (.pointer (some ⟨p, 0, none⟩)) ∧ At w1 X' ((p, z) :: ls) := by
        rintro X ls v z (⟨rfl, rfl⟩ | ⟨rfl, rfl⟩) h
        · rw [hz1]; exact at_wide h n1 a1 l1 m1 c1 l1' hl1 Hm1.out (by omega)
        · rw [hz2]; exact at_wide h n2 a2 l2 m2 c2 l2' hl2 Hm2.out (by omega)
      have HW := Lib.hid hw; clear hw hz1 hz2
      have hk : ∀ X, Below w1.heap.size w1 X → (X.cell? ⟨w.heap.size, 0, none⟩ = some (.bool n1) ∧ X.cell? ⟨w.heap.size, 1, none⟩ = some (.slice a1 m1 c1) ∧ X.cell? ⟨w.heap.size + 1, 0, none⟩ = some (.bool n2) ∧ X.cell? ⟨w.heap.size + 1, 1, none⟩ = some (.slice a2 m2 c2)) ∧
          Row X (w.heap.size + 1 + 1) 24 [.bool false, .slice none 0 0] ∧ X.cell? ⟨w.heap.size + 1 + 1, 0, none⟩ = some (.bool false) ∧ X.cell? ⟨w.heap.size + 1 + 1, 1, none⟩ = some (.slice none 0 0) ∧ X.frozen? ⟨w.heap.size + 1 + 1, 0, none⟩ = false ∧ X.frozen? ⟨w.heap.size + 1 + 1, 1, none⟩ = false := by
        intro X hX
        have p0 := q0.below hX (by omega)
        have p1 := q1.below hX (by omega)
        have p2 := q2.below hX (by omega)
        exact ⟨⟨p0.cell_at 0, p0.cell_at 1, p1.cell_at 0, p1.cell_at 1⟩, p2, p2.cell_at 0, p2.cell_at 1, p2.free 0, p2.free 1⟩
      have HK := Lib.hid hk; clear hk
      have hs : ∀ X, Below (w.heap.size + 1 + 1) w1 X → (X.cell? ⟨w.heap.size, 0, none⟩ = some (.bool n1) ∧ X.cell? ⟨w.heap.size, 1, none⟩ = some (.slice a1 m1 c1) ∧ X.cell? ⟨w.heap.size + 1, 0, none⟩ = some (.bool n2) ∧ X.cell? ⟨w.heap.size + 1, 1, none⟩ = some (.slice a2 m2 c2)) := by
        intro X hX
        have p0 := q0.below hX (by omega)
        have p1 := q1.below hX (by omega)
        exact ⟨p0.cell_at 0, p0.cell_at 1, p1.cell_at 0, p1.cell_at 1⟩
      have HS := Lib.hid hs; clear hs
      have h := At.refl w1
      clear q0 q1 q2 l1' l2' hbw' hbw
      go_wp2_with fail
      go_region_held3 (fun X => (X.cell? ⟨w.heap.size, 0, none⟩ = some (.bool n1) ∧ X.cell? ⟨w.heap.size, 1, none⟩ = some (.slice a1 m1 c1) ∧ X.cell? ⟨w.heap.size + 1, 0, none⟩ = some (.bool n2) ∧ X.cell? ⟨w.heap.size + 1, 1, none⟩ = some (.slice a2 m2 c2)))
        (first | (apply And.left; apply HK.out; apply At.below; (repeat (first | exact h | apply At.drew | apply At.drewN | apply At.new)); done) | (apply HS.out; apply below_store; apply below_store; apply Below.mono; apply At.below; (repeat (first | exact h | apply At.drew | apply At.drewN | apply At.new)); omega; exact Nat.le_refl _; exact Nat.le_refl _))
        (first
          | (go_at_call 60; apply Calls.mono; apply HW.out; (first | exact .inl ⟨rfl, rfl⟩ | exact .inr ⟨rfl, rfl⟩); (repeat (first | exact h | apply At.drew | apply At.drewN | apply At.new)); clear h; rintro e w' ⟨p, rfl, h⟩)
          | (go_at_call 104; apply Calls.mono; apply at_mul (w1 := w1) (hs := s4) (ht := s5); (repeat (first | exact h | apply At.drew | apply At.drewN | apply At.new)); (first | exact .head _ | exact .tail _ (.head _) | exact .tail _ (.tail _ (.head _)) | exact .tail _ (.tail _ (.tail _ (.head _))) | exact .tail _ (.tail _ (.tail _ (.tail _ (.head _))))); (first | exact .head _ | exact .tail _ (.head _) | exact .tail _ (.tail _ (.head _)) | exact .tail _ (.tail _ (.tail _ (.head _))) | exact .tail _ (.tail _ (.tail _ (.tail _ (.head _))))); (first | exact .head _ | exact .tail _ (.head _) | exact .tail _ (.tail _ (.head _)) | exact .tail _ (.tail _ (.tail _ (.head _))) | exact .tail _ (.tail _ (.tail _ (.tail _ (.head _))))); intro hnd; simp at hnd; omega; clear h; rintro e w' ⟨rfl, h⟩)
          | (go_at_call 62; apply Calls.mono; apply at_narrow_long (w1 := w1) (hs := s3) (hk := hfit); (repeat (first | exact h | apply At.drew | apply At.drewN | apply At.new)); exact mem_upd _ (by (first | exact .head _ | exact .tail _ (.head _) | exact .tail _ (.tail _ (.head _)) | exact .tail _ (.tail _ (.tail _ (.head _))) | exact .tail _ (.tail _ (.tail _ (.tail _ (.head _)))))); clear h; rintro e w' ⟨rfl, h⟩; obtain ⟨-, hR, k0, k1, k2, k3⟩ := HK.out _ (At.below h)))
      all_goals
        have e0 : (w'.setCell ⟨w.heap.size + 1 + 1, 0, none⟩ (.bool false)).cell? ⟨w.heap.size + 1 + 1, 0, none⟩ = some (.bool false) := (hR.store_any 0 _).cell_at 0
        have e1 : ((w'.setCell ⟨w.heap.size + 1 + 1, 0, none⟩ (.bool false)).setCell ⟨w.heap.size + 1 + 1, 1, none⟩ (.slice none 0 0)).cell? ⟨w.heap.size + 1 + 1, 1, none⟩ = some (.slice none 0 0) := ((hR.store_any 0 _).store_any 1 _).cell_at 1
        have hfin : Below w.heap.size w ((w'.setCell ⟨w.heap.size + 1 + 1, 0, none⟩ (.bool false)).setCell ⟨w.heap.size + 1 + 1, 1, none⟩ (.slice none 0 0)) := below_store (below_store (hB1.trans (h.below.mono hB1.size)) (by omega) _) (by omega) _
        have HF := Lib.hid hfin; clear hfin
        go_wp2
        (try simp only [Exit.inBlock, Exit.then])
        refine bodyPost_ret (v := .tuple #[.agg #[(.bool false), (.slice none 0 0)], .int .i64 2]) (by simp [results, Tryz.results103, go_sem, e0, e1]) rfl ?_
        exact Answer.yes ⟨HF.out, .inl ⟨by omega, rfl⟩⟩

end Go.Proofs.YtbffpkmfhkphdaaGreatDoor
