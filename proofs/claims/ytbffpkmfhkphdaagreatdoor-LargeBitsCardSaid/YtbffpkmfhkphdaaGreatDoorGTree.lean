/- Moves in a region that draws its order; new variables. In a region that draws its order: an operation that yields is taken first, its slot written out. -/
import Derived.Test.YtbffpkmfhkphdaaGreatDoorHeld
import Derived.Test.YtbffpkmfhkphdaaGreatDoorBigCompareC
namespace Go.Proofs.YtbffpkmfhkphdaaGreatDoor
open Go Go.RowKit Limb

theorem wpOp_plain {P : Program} {ops : Array Oper} {Q : Exit → Act → World → Prop} {i : Nat} {o : Oper} {K : Act → World → Prop} {a : Act} {w : World} (hi : ops[i]? = some o) (hg : o.guard = none) (h : o.wp P a w K Q) : wpOp P ops Q i K a w := by
  unfold wpOp; rw [hi]; simp only [Region.wanted, hg, if_true]; exact .inl h

section
variable {P : Program} {md : Region.Mode} {ops : Array Oper} {Q : Exit → Act → World → Prop} {S : World → Prop}
/-- Some operations may come up, all of the head: behind each S is to be shown anew. -/
theorem wpAnyS_many {n fuel : Nat} {listed : Array Bool} {a : Act} {w : World} (l : List Nat) (inv : HeadInv md ops n listed) (hne : l ≠ []) (hl : ∀ i ∈ l, i < n) (hr : Region.ready md ops listed = l)
    (h : ∀ i, i ∈ l → HeadInv md ops n (listed.setIfInBounds i true) → wpOp P ops Q i (fun a' w' => S w' ∧ wpAnyS P md ops Q S n fuel (listed.setIfInBounds i true) a' w') a w) : wpAnyS P md ops Q S n (fuel + 1) listed a w := by
  refine ⟨fun hall => ?_, fun _ => ⟨by rw [hr]; exact hne, fun j hj => ?_⟩⟩
  · exfalso
    cases l with
    | nil => exact hne rfl
    | cons x t =>
      have hm : x ∈ Region.ready md ops listed := by rw [hr]; simp
      have hun := (mem_ready.1 hm).1
      rw [hall x (hl x (by simp))] at hun; cases hun
  · have hj' := hj
    rw [hr] at hj'
    exact h j hj' (inv.set hj (hl j hj'))
end

/-- A variable of type api.Int is made. -/
theorem wpOp_alloc_int {ops : Array Oper} {Q : Exit → Act → World → Prop} {i : Nat} {o : Oper} {K : Act → World → Prop} {a : Act} {w : World} (hi : ops[i]? = some o) (hg : o.guard = none) (ho : o.op = .alloc 24)
    (h : ∀ X' g, Row X' g 24 [.bool false, .slice none 0 0] → Below w.heap.size w X' → w.heap.size ≤ g → g < X'.heap.size → K (a.put o.dst (.pointer (some ⟨g, 0, none⟩))) X') : wpOp Tryz.prog ops Q i K a w := by
  refine wpOp_plain hi hg ?_
  have hfin := h (w.alloc (.cells #[.bool false, .slice none 0 0] 24)) w.heap.size (by unfold Row; exact heap_alloc_new _ _) ((Below.refl _ _).alloc (Nat.le_refl _) _) (Nat.le_refl _) (by rw [World.size_alloc]; omega)
  obtain ⟨dst, op, type, pos, after, guard⟩ := o
  simp only at ho hg
  subst ho hg
  unfold Oper.wp
  go_simp
  exact hfin

theorem rows0 (w : World) (t : TypeId) (a0 : Value) : ∃ W, W = w.alloc (.cells #[a0] t) ∧ Row W w.heap.size t [a0] ∧ Below w.heap.size w W ∧ W.heap.size = w.heap.size + 1 :=
  ⟨_, rfl, by unfold Row; exact heap_alloc_new _ _, (Below.refl _ _).alloc (Nat.le_refl _) _, by rw [World.size_alloc]⟩
theorem rows1 (w : World) (t : TypeId) (a0 a1 : Value) : ∃ W, W = w.alloc (.cells #[a0, a1] t) ∧ Row W w.heap.size t [a0, a1] ∧ Below w.heap.size w W ∧ W.heap.size = w.heap.size + 1 :=
  ⟨_, rfl, by unfold Row; exact heap_alloc_new _ _, (Below.refl _ _).alloc (Nat.le_refl _) _, by rw [World.size_alloc]⟩
theorem rowsC (w : World) (t : TypeId) (cs : Array Value) : ∃ W, W = w.alloc (.cells cs t) ∧ Row W w.heap.size t cs.toList ∧ Below w.heap.size w W ∧ W.heap.size = w.heap.size + 1 :=
  ⟨_, rfl, row2slice _ _ _, (Below.refl _ _).alloc (Nat.le_refl _) _, by rw [World.size_alloc]⟩

end Go.Proofs.YtbffpkmfhkphdaaGreatDoor

namespace Go.Proofs.YtbffpkmfhkphdaaGreatDoor
open Go Go.RowKit

theorem wpAnyH_take_at {P : Program} {md : Region.Mode} {ops : Array Oper} {Q : Exit → Act → World → Prop} {S : World → Prop} {i : Nat} {oi : Oper} {v : Value} {fuel : Nat} {listed : Array Bool} {a : Act} {w : World} (d : Tmp) (hi : ops[i]? = some oi) (hd : oi.dst = some d)
    (hs : Region.noSelect ops = true) (hf : Region.free md ops listed i = true) (hr : (Region.ready md ops listed).contains i = true)
    (hQ : ∀ c a w, Q (.panic c) (a.put oi.dst v) w → Q (.panic c) a w) (hy : YieldsIf P ops S oi v a) (hS : S w)
    (h : wpAnyH P md ops Q S fuel (listed.setIfInBounds i true) (a.put (some d) v) w) : wpAnyH P md ops Q S (fuel + 1) listed a w :=
  wpAnyH_take hi hs hf hr hQ hy hS (by rw [hd]; exact h)

end Go.Proofs.YtbffpkmfhkphdaaGreatDoor
