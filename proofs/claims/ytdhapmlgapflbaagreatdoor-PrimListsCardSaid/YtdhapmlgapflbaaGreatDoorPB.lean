/- What is asked of memory in the laws of package prim: blocks of a call's own. -/
import Derived.Test.YtdhapmlgapflbaaGreatDoorMem
import Derived.WalkKit
import Derived.Maps.AppendAt
set_option linter.unusedVariables false
set_option linter.unusedSimpArgs false
namespace Go.Proofs.YtdhapmlgapflbaaGreatDoor
open Go Go.RowKit

/-- Of what was there only the blocks ps may have changed. -/
structure Only (ps : List Nat) (w w' : World) : Prop where
  os : w'.os = w.os
  tape : w'.tape = w.tape
  output : w'.output = w.output
  size : w.heap.size ≤ w'.heap.size
  block : ∀ k, k < w.heap.size → k ∉ ps → w'.heap[k]? = w.heap[k]?

theorem Only.refl (ps : List Nat) (w : World) : Only ps w w := ⟨rfl, rfl, rfl, Nat.le_refl _, fun _ _ _ => rfl⟩
theorem Only.of_below {ps : List Nat} {w w' : World} (h : Below w.heap.size w w') : Only ps w w' := ⟨h.os, h.tape, h.output, h.size, fun k hk _ => h.block k hk⟩
theorem Only.below {w w' : World} (h : Only [] w w') : Below w.heap.size w w' := ⟨h.os, h.tape, h.output, h.size, fun k hk => h.block k hk (by simp)⟩
theorem Only.belowB {ps : List Nat} {w w' : World} (h : Only ps w w') {B : Nat} (hB : B ≤ w.heap.size) (hp : ∀ p ∈ ps, B ≤ p) : Below B w w' :=
  ⟨h.os, h.tape, h.output, h.size, fun k hk => h.block k (by omega) (fun hm => by have := hp k hm; omega)⟩
theorem Only.trans {ps qs : List Nat} {w w1 w2 : World} (h : Only ps w w1) (k : Only qs w1 w2) (hq : ∀ q ∈ qs, q ∈ ps ∨ w.heap.size ≤ q) : Only ps w w2 :=
  ⟨k.os.trans h.os, k.tape.trans h.tape, k.output.trans h.output, Nat.le_trans h.size k.size, fun i hi hn => by
    rw [k.block i (Nat.lt_of_lt_of_le hi h.size) (fun hm => by rcases hq i hm with h | h; exact hn h; omega), h.block i hi hn]⟩
theorem Only.mono {ps qs : List Nat} {w w' : World} (h : Only ps w w') (hq : ∀ q ∈ ps, q ∈ qs) : Only qs w w' :=
  ⟨h.os, h.tape, h.output, h.size, fun k hk hn => h.block k hk (fun hm => hn (hq k hm))⟩
theorem Only.setCell {ps : List Nat} {w w' : World} (h : Only ps w w') {a : Addr} (ha : a.block ∈ ps) (v : Value) : Only ps w (w'.setCell a v) :=
  ⟨h.os, h.tape, h.output, by have := h.size; simpa [World.setCell] using this, fun k hk hn => by rw [Below.heap_setCell _ _ _ _ (fun e => hn (by rw [e]; exact ha))]; exact h.block k hk hn⟩
theorem Only.drewN {ps : List Nat} {w w' : World} (h : Only ps w w') (n : Nat) : Only ps w (w'.drewN n) := ⟨h.os, h.tape, h.output, h.size, h.block⟩
theorem Only.drew {ps : List Nat} {w w' : World} (h : Only ps w w') : Only ps w w'.drew := ⟨h.os, h.tape, h.output, h.size, h.block⟩
theorem Only.alloc {ps : List Nat} {w w' : World} (h : Only ps w w') (o : Obj) : Only ps w (w'.alloc o) :=
  h.trans (Only.of_below (ps := []) ((Below.refl _ _).alloc (Nat.le_refl _) o)) (fun q hq => by cases hq)

theorem Row.only {ps : List Nat} {w w' : World} {g : Nat} {e : TypeId} {cs : List Value} (h : Row w g e cs) (ho : Only ps w w') (hg : g ∉ ps) : Row w' g e cs := by
  have := h.lt; unfold Row at *; rw [ho.block g this hg]; exact h
/-! ### A slice that has its block to itself -/
/-- The first n cells of block g, which has c, are xs. -/
def Sl (w : World) (g : Nat) (e : TypeId) (n c : Nat) (xs : List Value) : Prop :=
  ∃ cur : List Value, Row w g e cur ∧ cur.length = c ∧ xs.length = n ∧ n ≤ c ∧ c ≤ maxLen ∧ cur.take n = xs
section
variable {w w' : World} {g : Nat} {e : TypeId} {n c : Nat} {xs : List Value}
theorem Sl.lt (h : Sl w g e n c xs) : g < w.heap.size := by obtain ⟨_, h, _⟩ := h; exact h.lt
theorem Sl.len (h : Sl w g e n c xs) : xs.length = n := by obtain ⟨_, _, _, h, _⟩ := h; exact h
theorem Sl.le (h : Sl w g e n c xs) : n ≤ c ∧ c ≤ maxLen := by obtain ⟨_, _, _, _, h, h2, _⟩ := h; exact ⟨h, h2⟩
theorem Sl.only {ps : List Nat} (h : Sl w g e n c xs) (ho : Only ps w w') (hg : g ∉ ps) : Sl w' g e n c xs := by
  obtain ⟨cur, h1, h2⟩ := h; exact ⟨cur, h1.only ho hg, h2⟩
theorem Sl.below (h : Sl w g e n c xs) (hb : Below w.heap.size w w') : Sl w' g e n c xs := by
  obtain ⟨cur, h1, h2⟩ := h; exact ⟨cur, h1.below hb h1.lt, h2⟩
theorem Sl.cell (h : Sl w g e n c xs) {i : Nat} (hi : i < n) : w.cell? ⟨g, i, none⟩ = xs[i]? := by
  obtain ⟨cur, h1, h2, h3, h4, h5, h6⟩ := h
  rw [h1.cell_at, ← h6, List.getElem?_take_of_lt hi]
theorem Sl.free (h : Sl w g e n c xs) (i : Nat) : w.frozen? ⟨g, i, none⟩ = false := by obtain ⟨_, h, _⟩ := h; exact h.free i
theorem Sl.store (h : Sl w g e n c xs) {i : Nat} (hi : i < n) (u : Value) : Sl (w.setCell ⟨g, i, none⟩ u) g e n c (xs.set i u) := by
  obtain ⟨cur, h1, h2, h3, h4, h5, h6⟩ := h
  exact ⟨cur.set i u, h1.store_any i u, by rw [List.length_set]; exact h2, by rw [List.length_set]; exact h3, h4, h5, by rw [List.take_set, h6]⟩
theorem Sl.other (h : Sl w g e n c xs) {a : Addr} (ha : g ≠ a.block) (u : Value) : Sl (w.setCell a u) g e n c xs := by
  obtain ⟨cur, h1, h2⟩ := h; exact ⟨cur, h1.other ha u, h2⟩
theorem Sl.owns (h : Sl w g e n c xs) : w.ownsRow 0 e 1 (.slice (some ⟨g, 0, none⟩) n c) n xs := by
  obtain ⟨cur, h1, h2, h3, h4, h5, h6⟩ := h
  exact ⟨by rw [h3, Nat.mul_one], .inr ⟨g, c, cur.toArray, rfl, Nat.zero_le _, h1, h4, h5, by simp [h2], by rw [Nat.mul_one]; simpa using h6⟩⟩
theorem Sl.of_owns {v : Value} (h : w.ownsRow 0 e 1 v n xs) (hn : 0 < n) : ∃ g c, v = .slice (some ⟨g, 0, none⟩) n c ∧ v.ownBlock = some g ∧ Sl w g e n c xs := by
  obtain ⟨h1, h2⟩ := h
  rcases h2 with ⟨_, h2⟩ | ⟨g, cap, cur, hv, hg, hh, hc1, hc2, hc3, hc4⟩
  · omega
  · rw [Nat.mul_one] at h1 hc3 hc4
    subst hv
    exact ⟨g, cap, rfl, rfl, cur.toList, by unfold Row; simpa using hh, by simpa using hc3, h1, hc1, hc2, hc4⟩
theorem Sl.index (h : Sl w g e n c xs) {P : Program} (t : TypeId) (ht : P.underlying t = some (.slice e)) (hs : ∀ W, (sizeOf e).run P W = .ok 1 W) (W : World) (k : IntKind) (i : Nat) (hi : i < n) :
    (Instr.indexAt t (.slice (some ⟨g, 0, none⟩) n c) (.int k i)).run P W = .ok (.pointer (some ⟨g, i, none⟩)) W := by
  have h1 : (0 : Int) ≤ (i : Int) := by omega
  have h2 : (i : Int) < (n : Int) := by omega
  simp [Instr.indexAt, run_underlying ht, asIntOf, h1, h2, hs, Result.andThen, Addr.add]
  rw [if_pos hi]
  by_cases h0 : i = 0
  · subst h0; rfl
  · rw [if_neg h0]
end
theorem alloc_row (w : World) (t : TypeId) (cs : List Value) : ∃ W, W = w.alloc (.cells cs.toArray t) ∧ Row W w.heap.size t cs ∧ Below w.heap.size w W ∧ W.heap.size = w.heap.size + 1 :=
  ⟨_, rfl, by unfold Row; exact heap_alloc_new _ _, (Below.refl _ _).alloc (Nat.le_refl _) _, World.size_alloc _ _⟩
end Go.Proofs.YtdhapmlgapflbaaGreatDoor
