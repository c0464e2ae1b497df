/- The walk of the law's kept: a copy. What the walks of LargeSums and LargeRing ask besides: cells of pairs, answers that are too long or not. What LargeSums' walk asks besides: its first statement's moves. -/
import Derived.Test.YtbffpkmfhkphdaaDoorLawAidC
import Derived.Test.YtbffpkmfhkphdaaDoorHeld
import Derived.Test.YtbffpkmfhkphdaaDoorGTree
import Derived.Test.YtbffpkmfhkphdaaDoorGRefD
import Derived.Test.YtbffpkmfhkphdaaDoorGRefA
import Derived.Test.YtbffpkmfhkphdaaDoorAwakeC
namespace Go.Proofs.YtbffpkmfhkphdaaDoor
open Go Go.RowKit Limb

/-- 'append(nil, y...)', y words at a place. -/
theorem wp_append_lay {P : Program} {w : World} {o : Oper} {a : Act} {K0 : Act → World → Prop} {Q : Exit → Act → World → Prop} (s x : Operand) (t : TypeId)
    (ho : o.op = .call { callee := .builtin .append, args := #[s, x], argTypes := #[t, t] }) (K : IntKind) (e : TypeId) (z : Value) (bytes : Nat)
    (ht : P.underlying t = some (.slice e)) (h2 : (P.info? e).map (fun i => (i.zero, i.size, i.bytes)) = some (some z, 1, bytes)) (hz : z.cells.size = 1)
    (hs : a.eval s = .slice none 0 0) (ad : Option Addr) (m c : Nat) (hx : a.eval x = .slice ad m c) (l : List Nat) (hlay : Lay K w ad l) (hm : m = l.length)
    (h63 : m ≤ 9223372036854775807) (hbytes : m * bytes ≤ 140737488355328)
    (h : ∀ a' c' w', m ≤ c' → Lay K w' a' l → Below w.heap.size w w' → K0 (a.put o.dst (.slice a' m c')) w') : o.wp P a w K0 Q := by
  obtain ⟨i, hi, hz0, hsz, hbt⟩ := info_parts h2
  have hown := World.ownsRow_nil w w.heap.size e 1
  have fin : ∀ v' w', w'.ownsRow w.heap.size e 1 v' (0 + m) ([] ++ nums K l) → w.grownBy w' (Value.ownBlock (.slice none 0 0)) → K0 (a.put o.dst v') w' := by
    intro v' w' h1 h3
    obtain ⟨a', c', rfl, k1, k2, k3, _⟩ := lay_of_owns (K := K) (zs := l) (by simpa using h1)
    rw [Nat.zero_add] at *
    exact h a' c' w' k1 k3 (below_grown hown h3 (Nat.le_refl _))
  by_cases hl : 0 < l.length
  · obtain ⟨b, off, h1, hc⟩ := hlay
    rw [(h1 hl).1] at hx
    refine wp_append_own w s x t ho w.heap.size e i z 1 bytes ht hi hz0 hsz hbt hz (by decide) (.slice none 0 0) 0 [] hs hown ⟨b, off, none⟩ m c (nums K l) hx (by rw [nums_length, hm, Nat.mul_one]) ?_ ?_ (by rw [Nat.zero_add]; exact h63) (by rw [Nat.zero_add]; exact hbytes) (Nat.le_refl _) ?_
    · intro j u hj
      have hjl : j < l.length := by have := (List.getElem?_eq_some_iff.1 hj).1; rwa [nums_length] at this
      rw [nums_get hjl] at hj
      rw [Addr.add_lit, hc j hjl]; exact hj
    · intro u hu; unfold nums at hu; obtain ⟨_, _, rfl⟩ := List.mem_map.1 hu; rfl
    · intro v' w' h1 h2 _; exact fin v' w' h1 h2
  · have hl0 : l = [] := List.eq_nil_of_length_eq_zero (by omega)
    subst hl0
    have hm0 : m = 0 := hm
    subst hm0
    cases ad with
    | some ad =>
      refine wp_append_own w s x t ho w.heap.size e i z 1 bytes ht hi hz0 hsz hbt hz (by decide) (.slice none 0 0) 0 [] hs hown ad 0 c [] hx rfl (fun j u hj => by simp at hj) (fun u hu => by cases hu) h63 hbytes (Nat.le_refl _) ?_
      intro v' w' h1 h2 _; exact fin v' w' h1 h2
    | none =>
      have hrun : (Builtin.append_ #[t, t] o.type #[.slice none 0 0, .slice none 0 c]).run P w = .ok (.slice none 0 0) w := by
        simp [Builtin.append_, run_underlying ht, sizeOf, typeInfo, hi, Builtin.lenOf, Builtin.firstCells, loadCells, loadCellsFrom]
      unfold Oper.wp
      simp [execOp, ho, resolve, invoke, builtin, hs, hx, hrun, Result.andThen]
      exact h none 0 w (Nat.le_refl _) (Lay.nil _ _ _) (Below.refl _ _)

set_option maxHeartbeats 1600000 in
set_option maxRecDepth 100000 in
theorem law_kept (w : World) (b : Bool) (a : Option Addr) (n c : Nat) (l : List Nat) (h : Came w b a n l) (hn : n ≤ 35184372088832) :
    Calls Tryd.prog 15 #[.agg #[.bool b, .slice a n c]] w fun e w' => (∃ a' c', e = .returned (.agg #[.bool b, .slice a' n c']) ∧ Hid (n ≤ c' ∧ Lay .u32 w' a' l)) ∧ Below w.heap.size w w' := by
  obtain ⟨W, hWe, r0, r1, hW, hsz⟩ := rows2 w 24 (.bool b) (.slice a n c) (.bool false) (.slice none 0 0)
  have HWe := Lib.hid hWe; clear hWe
  have hl := h.1.below hW
  have hlen := Lib.hid h.2.2.1
  clear h
  have hS : W.drew.cell? ⟨w.heap.size, 0, none⟩ = some (.bool b) ∧ W.drew.cell? ⟨w.heap.size, 1, none⟩ = some (.slice a n c) := ⟨r0.cell_at 0, r0.cell_at 1⟩
  go_enter Tryd.func15, Tryd.ntmps15
  go_wp2_with fail
  rw [← HWe.out]
  refine wp_region_S (n := 6) (S := fun X => X.cell? ⟨w.heap.size, 0, none⟩ = some (.bool b) ∧ X.cell? ⟨w.heap.size, 1, none⟩ = some (.slice a n c)) (by kernel_rfl) (by decide) (fun inv => ?_)
  refine wpAnyS_take_at (i := 0) (v := .pointer (some ⟨w.heap.size, 0, none⟩)) 3 inv rfl rfl (by kernel_rfl) (by kernel_rfl) (by kernel_rfl) (by decide) (by decide) (by kernel_rfl) (by kernel_rfl) (fun _ _ _ h => h) (.inl ⟨rfl, fun w hS => by obtain ⟨h0, h1⟩ := hS; go_simp⟩) hS (fun inv => ?_)
  simp only [Act.put, List.setIfInBounds_toArray, List.set_cons_zero, List.set_cons_succ]
  refine wpAnyS_take_at (i := 1) (v := .bool b) 4 inv rfl rfl (by kernel_rfl) (by kernel_rfl) (by kernel_rfl) (by decide) (by decide) (by kernel_rfl) (by kernel_rfl) (fun _ _ _ h => h) (.inl ⟨rfl, fun w hS => by obtain ⟨h0, h1⟩ := hS; go_simp⟩) hS (fun inv => ?_)
  simp only [Act.put, List.setIfInBounds_toArray, List.set_cons_zero, List.set_cons_succ]
  refine wpAnyS_take_at (i := 2) (v := .pointer (some ⟨w.heap.size, 1, none⟩)) 5 inv rfl rfl (by kernel_rfl) (by kernel_rfl) (by kernel_rfl) (by decide) (by decide) (by kernel_rfl) (by kernel_rfl) (fun _ _ _ h => h) (.inl ⟨rfl, fun w hS => by obtain ⟨h0, h1⟩ := hS; go_simp⟩) hS (fun inv => ?_)
  simp only [Act.put, List.setIfInBounds_toArray, List.set_cons_zero, List.set_cons_succ]
  refine wpAnyS_take_at (i := 3) (v := .slice a n c) 6 inv rfl rfl (by kernel_rfl) (by kernel_rfl) (by kernel_rfl) (by decide) (by decide) (by kernel_rfl) (by kernel_rfl) (fun _ _ _ h => h) (.inl ⟨rfl, fun w hS => by obtain ⟨h0, h1⟩ := hS; go_simp⟩) hS (fun inv => ?_)
  simp only [Act.put, List.setIfInBounds_toArray, List.set_cons_zero, List.set_cons_succ]
  refine wpAnyS_one (i := 4) inv (by decide) (by kernel_rfl) (fun inv => ?_)
  refine wpOp_plain rfl rfl (wp_append_lay _ _ 22 rfl .u32 52 (.int .u32 0) 4 Tryd.underlying22 info32 rfl rfl a n c rfl l hl hlen.out (by omega) (by omega) ?_)
  intro a' c' X hc' hlX hb
  have hbX : Below W.heap.size W X := ((Below.refl W.heap.size W).drew).trans hb
  have x0 := r0.below hbX r0.lt
  have x1 := r1.below hbX r1.lt
  have hSX : X.cell? ⟨w.heap.size, 0, none⟩ = some (.bool b) ∧ X.cell? ⟨w.heap.size, 1, none⟩ = some (.slice a n c) := ⟨x0.cell_at 0, x0.cell_at 1⟩
  have hWX := hW.trans (hbX.mono hW.size)
  refine ⟨hSX, ?_⟩
  simp only [Act.put, List.setIfInBounds_toArray, List.set_cons_zero, List.set_cons_succ]
  refine wpAnyS_take_at (i := 5) (v := .agg #[.bool b, .slice a' n c']) 8 inv rfl rfl (by kernel_rfl) (by kernel_rfl) (by kernel_rfl) (by decide) (by decide) (by kernel_rfl) (by kernel_rfl) (fun _ _ _ h => h) (.inl ⟨rfl, fun w hS => by obtain ⟨h0, h1⟩ := hS; go_simp⟩) hSX (fun inv => ?_)
  simp only [Act.put, List.setIfInBounds_toArray, List.set_cons_zero, List.set_cons_succ]
  have k0 := x1.cell_at 0
  have k1 := x1.cell_at 1
  have k2 := x1.free 0
  have k3 := x1.free 1
  simp only [List.getElem?_cons_zero, List.getElem?_cons_succ] at k0 k1
  have e0 : (X.setCell ⟨w.heap.size + 1, 0, none⟩ (.bool b)).cell? ⟨w.heap.size + 1, 0, none⟩ = some (.bool b) := (x1.store_any 0 _).cell_at 0
  have e1 : ((X.setCell ⟨w.heap.size + 1, 0, none⟩ (.bool b)).setCell ⟨w.heap.size + 1, 1, none⟩ (.slice a' n c')).cell? ⟨w.heap.size + 1, 1, none⟩ = some (.slice a' n c') := ((x1.store_any 0 _).store_any 1 _).cell_at 1
  have hfin := Lib.hid (show (n ≤ c' ∧ Lay .u32 ((X.setCell ⟨w.heap.size + 1, 0, none⟩ (.bool b)).setCell ⟨w.heap.size + 1, 1, none⟩ (.slice a' n c')) a' l) ∧ Below w.heap.size w ((X.setCell ⟨w.heap.size + 1, 0, none⟩ (.bool b)).setCell ⟨w.heap.size + 1, 1, none⟩ (.slice a' n c')) from
    ⟨⟨hc', hlX.pair x1 _ _⟩, below_store (below_store hWX (by omega) _) (by omega) _⟩)
  clear hlX hl hb x0 x1 r0 r1
  refine wpAnyS_tail (by decide) ?_
  refine wpAny_one (i := 6) (by kernel_rfl) ?_
  unfold wpOp
  go_simp
  refine .inl (wpAny_done (by kernel_rfl) ?_ _)
  go_wp2
  (try simp only [Exit.inBlock, Exit.then])
  refine bodyPost_ret (v := .agg #[.bool b, .slice a' n c']) (by simp [results, Tryd.results15, go_sem, e0, e1]) rfl ?_
  exact ⟨⟨a', c', rfl, hfin.out.1⟩, hfin.out.2⟩

end Go.Proofs.YtbffpkmfhkphdaaDoor

namespace Go.Proofs.YtbffpkmfhkphdaaDoor
open Go Go.RowKit Limb

theorem Row.cells {w : World} {g : Nat} {t : TypeId} {u v : Value} (h : Row w g t [u, v]) : w.cell? ⟨g, 0, none⟩ = some u ∧ w.cell? ⟨g, 1, none⟩ = some v := ⟨h.cell_at 0, h.cell_at 1⟩

/-- Two cells of a block. -/
def Cell2 (X : World) (g : Nat) (u v : Value) : Prop := g < X.heap.size ∧ X.cell? ⟨g, 0, none⟩ = some u ∧ X.cell? ⟨g, 1, none⟩ = some v
theorem Cell2.lt {X : World} {g : Nat} {u v : Value} (h : Cell2 X g u v) : g < X.heap.size := h.1
theorem Cell2.cells {X : World} {g : Nat} {u v : Value} (h : Cell2 X g u v) : X.cell? ⟨g, 0, none⟩ = some u ∧ X.cell? ⟨g, 1, none⟩ = some v := h.2
theorem Cell2.below {X X' : World} {g B : Nat} {u v : Value} (h : Cell2 X g u v) (hb : Below B X X') (hg : g < B) : Cell2 X' g u v :=
  ⟨Nat.lt_of_lt_of_le h.1 hb.size, by rw [hb.cell (p := ⟨g, 0, none⟩) hg]; exact h.2.1, by rw [hb.cell (p := ⟨g, 1, none⟩) hg]; exact h.2.2⟩
theorem Row.cell2 {w : World} {g : Nat} {t : TypeId} {u v : Value} (h : Row w g t [u, v]) : Cell2 w g u v := ⟨h.lt, h.cell_at 0, h.cell_at 1⟩

/-- An answer's parts: the integer, or that it is too long. -/
def Ans (X : World) (b : Bool) (a : Option Addr) (n c : Nat) (k z : Int) : Prop :=
  ((rep z.natAbs).length ≤ 1024 ∧ k = 0 ∧ ApiV X (.agg #[.bool b, .slice a n c]) z) ∨ (1024 < (rep z.natAbs).length ∧ b = false ∧ a = none ∧ n = 0 ∧ c = 0 ∧ k = 2)
theorem Ans.below {X X' : World} {b : Bool} {a : Option Addr} {n c : Nat} {k z : Int} (h : Ans X b a n c k z) (hb : Below X.heap.size X X') : Ans X' b a n c k z := by
  rcases h with ⟨h1, h2, h3⟩ | h
  · exact .inl ⟨h1, h2, h3.below hb⟩
  · exact .inr h
theorem Answer.any {w w' : World} {e : Ending} {z : Int} (h : Answer true w w' e z) :
    ∃ b a n c k, e = .returned (.tuple #[.agg #[.bool b, .slice a n c], .int .i64 k]) ∧ Ans w' b a n c k z ∧ Below w.heap.size w w' := by
  by_cases hl : (rep z.natAbs).length ≤ 1024
  · obtain ⟨b, a, n, c, h1, h2, h3⟩ := h.ok hl
    exact ⟨b, a, n, c, 0, h1, .inl ⟨hl, rfl, h2.out⟩, h3⟩
  · obtain ⟨h1, h2⟩ := h.long (by omega)
    exact ⟨_, _, _, _, _, h1, .inr ⟨by omega, rfl, rfl, rfl, rfl, rfl⟩, h2⟩

/-- The law's is, of an answer and the document's. -/
theorem is_any (X : World) (b b' : Bool) (a a' : Option Addr) (n c n' c' : Nat) (k z : Int) (h : Ans X b a n c k z) (hu : ApiV X (.agg #[.bool b', .slice a' n' c']) z) :
    Calls Tryd.prog 11 #[.bool true, .agg #[.bool b, .slice a n c], .int .i64 k, .agg #[.bool b', .slice a' n' c']] X fun e X' => e = .returned (.bool true) ∧ Below X.heap.size X X' := by
  obtain ⟨e1, e2, e3, e4⟩ := hu.parts
  rcases h with ⟨h1, rfl, h3⟩ | ⟨h1, rfl, rfl, rfl, rfl, rfl⟩
  · obtain ⟨f1, f2, f3, f4⟩ := h3.parts
    obtain rfl : b' = b := e1.trans f1.symm
    obtain rfl : n' = n := e2.trans f2.symm
    exact is_ok X b' a a' _ n' c c' f4 e4 f2 (by omega)
  · exact is_long X b' a' n' c' (by omega)

end Go.Proofs.YtbffpkmfhkphdaaDoor

namespace Go.Proofs.YtbffpkmfhkphdaaDoor
open Go Go.RowKit Limb

theorem since_kept {W X : World} {b : Bool} {a : Option Addr} {n c : Nat} {l : List Nat} (h1 : Came W b a n l) (hn : n ≤ 35184372088832) (h : Below W.heap.size W X) :
    Calls Tryd.prog 15 #[.agg #[.bool b, .slice a n c]] X fun e X' => (∃ a' c', e = .returned (.agg #[.bool b, .slice a' n c']) ∧ Hid (n ≤ c' ∧ Lay .u32 X' a' l)) ∧ Below X.heap.size X X' ∧ Below W.heap.size W X' := by
  refine (law_kept X b a n c l (h1.below h) hn).mono ?_
  rintro e X' ⟨h2, h3⟩
  exact ⟨h2, h3, h.trans (h3.mono h.size)⟩

/-- What the first statement leaves: two copies. -/
def TwoKept (W : World) (b1 b2 : Bool) (n1 n2 : Nat) (l1 l2 : List Nat) (s5 s6 : Value) (U : World) : Prop :=
  ∃ g5 g6 a5 c5 a6 c6, s5 = .pointer (some ⟨g5, 0, none⟩) ∧ s6 = .pointer (some ⟨g6, 0, none⟩) ∧ Cell2 U g5 (.bool b1) (.slice a5 n1 c5) ∧ Cell2 U g6 (.bool b2) (.slice a6 n2 c6) ∧ Lay .u32 U a5 l1 ∧ Lay .u32 U a6 l2 ∧ Below W.heap.size W U

theorem is_no2 (w : World) : Calls Tryd.prog 11 #[.bool false, .agg #[.bool false, .slice none 0 0], .int .i64 1, .agg #[.bool false, .slice none 0 0]] w fun e w' => e = .returned (.bool true) ∧ Below w.heap.size w w' := is_no w false none 0 0
theorem since_may {W X : World} {b : Bool} {a : Option Addr} {l : List Nat} {n c : Nat} (h1 : Came W b a n l) (h : Below W.heap.size W X) :
    Calls Tryd.prog 10 #[.agg #[.bool b, .slice a n c]] X fun e X' => e = .returned (.bool (mayB b l)) ∧ Below X.heap.size X X' :=
  ref_May X b a l n c (h1.1.below h) h1.2.1 h1.2.2.1 h1.2.2.2

end Go.Proofs.YtbffpkmfhkphdaaDoor
