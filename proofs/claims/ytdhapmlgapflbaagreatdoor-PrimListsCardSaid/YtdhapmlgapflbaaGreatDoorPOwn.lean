/- Slices that grow by appends, from nil on: ints, strings, methods. -/
import Derived.Test.YtdhapmlgapflbaaGreatDoorPM
import Derived.Lib.AppendZeros
set_option linter.unusedVariables false
set_option linter.unusedSimpArgs false
namespace Go.Proofs.YtdhapmlgapflbaaGreatDoor
open Go Go.RowKit Limb
/-- A list of values of one cell each that grows, from nil on: its block was made since block B. -/
def Own1 (w : World) (e : TypeId) (v : Value) (xs : List Value) (B : Nat) : Prop :=
  (v = .slice none 0 0 ∧ xs = []) ∨ ∃ g c, v = .slice (some ⟨g, 0, none⟩) xs.length c ∧ Sl w g e xs.length c xs ∧ B ≤ g ∧ 0 < xs.length
section
variable {w w' X : World} {e : TypeId} {v : Value} {xs : List Value} {B : Nat}
theorem Own1.below (hs : Own1 w e v xs B) (hb : Below w.heap.size w w') : Own1 w' e v xs B := by
  rcases hs with hs | ⟨g, c, h1, h2, h3, h4⟩
  · exact .inl hs
  · exact .inr ⟨g, c, h1, h2.below hb, h3, h4⟩
theorem Own1.only (hs : Own1 w e v xs B) {ps : List Nat} (ho : Only ps w w') (hp : ∀ p ∈ ps, p < B) : Own1 w' e v xs B := by
  rcases hs with hs | ⟨g, c, h1, h2, h3, h4⟩
  · exact .inl hs
  · exact .inr ⟨g, c, h1, h2.only ho (fun hm => by have := hp g hm; omega), h3, h4⟩
theorem Own1.owns (hs : Own1 w e v xs B) : w.ownsRow 0 e 1 v xs.length xs := by
  rcases hs with ⟨rfl, rfl⟩ | ⟨g, c, rfl, h2, h3, h4⟩
  · exact ⟨rfl, .inl ⟨rfl, rfl⟩⟩
  · exact h2.owns
theorem Own1.ownBlock (hs : Own1 w e v xs B) : v.ownBlock = none ∨ ∃ g, v.ownBlock = some g ∧ B ≤ g := by
  rcases hs with ⟨rfl, rfl⟩ | ⟨g, c, rfl, h2, h3, h4⟩
  · exact .inl rfl
  · exact .inr ⟨g, rfl, h3⟩
theorem Own1.shape (hs : Own1 w e v xs B) : ∃ a c, v = .slice a xs.length c := by
  rcases hs with ⟨rfl, rfl⟩ | ⟨g, c, rfl, h2, h3, h4⟩
  · exact ⟨none, 0, rfl⟩
  · exact ⟨_, c, rfl⟩
theorem Own1.own_lt (hs : Own1 w e v xs B) {g : Nat} (h : v.ownBlock = some g) : g < w.heap.size ∧ B ≤ g := by
  rcases hs with ⟨rfl, rfl⟩ | ⟨g', c, rfl, h2, h3, h4⟩
  · cases h
  · have : g' = g := Option.some.inj h
    subst this; exact ⟨h2.lt, h3⟩
theorem Own1.kept (hs : Own1 w e v xs B) {ps : List Nat} (ho : Only ps w w') (hp : ∀ g, v.ownBlock = some g → g ∉ ps) : Own1 w' e v xs B := by
  rcases hs with hs | ⟨g, c, rfl, h2, h3, h4⟩
  · exact .inl hs
  · exact .inr ⟨g, c, rfl, h2.only ho (hp g rfl), h3, h4⟩
/-- One value more, out of a slice of one that lies new. -/
theorem own1_append2 (t : TypeId) (z : Value) (bytes : Nat) (ht : Tryz.prog.underlying t = some (.slice e)) (h2 : (Tryz.prog.info? e).map (fun i => (i.zero, i.size, i.bytes)) = some (some z, 1, bytes)) (hz : z.cells.size = 1) (hby : bytes ≤ 16) (hs : Own1 X e v xs B) (hB : B ≤ X.heap.size) (x : Value) (hx : x.oneCell' = true) (hl : xs.length ≤ 100000) :
    ∃ v' X', (Builtin.append_ #[t, t] t #[v, .slice (some ⟨X.heap.size, 0, none⟩) 1 1]).run Tryz.prog (X.alloc (.cells #[x] e)) = .ok v' X' ∧ Own1 X' e v' (xs ++ [x]) B ∧ Below B X X' ∧ Only v.ownBlock.toList X X' ∧ (v'.ownBlock = v.ownBlock ∨ ∃ g, v'.ownBlock = some g ∧ X.heap.size ≤ g) := by
  obtain ⟨i0, hi, hz0, hz1, hz2⟩ := info_parts h2
  have hb : Below B X (X.alloc (.cells #[x] e)) := (Below.refl _ _).alloc hB _
  have hown2 : (X.alloc (.cells #[x] e)).ownsRow 0 e 1 v xs.length xs := hs.owns.alloc _
  obtain ⟨v', X', hr, h2, h3, h4, h5⟩ := run_append_own_at (P := Tryz.prog) (w := X.alloc (.cells #[x] e)) 0 t t e i0 z 1 bytes ht hi hz0 hz1 hz2 hz (by decide) v xs.length _ hown2 ⟨X.heap.size, 0, none⟩ 1 1 [x] rfl (cell_one_new _ _ _) (by simpa using hx) (Nat.le_trans (show xs.length + 1 ≤ 100001 by omega) (by decide)) (by have : (xs.length + 1) * bytes ≤ 100001 * 16 := Nat.mul_le_mul (by omega) hby; omega) (Nat.zero_le _)
  have hXs : X.heap.size < (X.alloc (.cells #[x] e)).heap.size := by rw [World.size_alloc]; omega
  have hob := hs.ownBlock
  have hb2 : Below B (X.alloc (.cells #[x] e)) X' := ⟨h3.os, h3.tape, h3.output, h3.size, fun k hk => h3.block k (by omega) (fun e => by
    rcases hob with e1 | ⟨g, e1, e2⟩
    · rw [e1] at e; cases e
    · rw [e1] at e; have := Option.some.inj e; omega)⟩
  have honly : Only v.ownBlock.toList X X' := ⟨hb.os ▸ h3.os, hb.tape ▸ h3.tape, hb.output ▸ h3.output, by have := h3.size; omega, fun k hk hn => by
    rw [h3.block k (by omega) (fun e => hn (by first | (rw [e]; simp) | (rw [← e]; simp)))]
    exact Below.heap_alloc _ _ _ hk⟩
  obtain ⟨g', c', rfl, hgb, hs'⟩ := Sl.of_owns h2 (by omega)
  have hnew : (Value.slice (some ⟨g', 0, none⟩) (xs.length + 1) c').ownBlock = v.ownBlock ∨ ∃ g, (Value.slice (some ⟨g', 0, none⟩) (xs.length + 1) c').ownBlock = some g ∧ X.heap.size ≤ g := h5.imp id (fun h => ⟨_, h, by rw [World.size_alloc]; omega⟩)
  refine ⟨_, X', hr, .inr ⟨g', c', by rw [List.length_append]; rfl, by rw [List.length_append]; exact hs', ?_, by rw [List.length_append]; exact Nat.succ_pos _⟩, hb.trans hb2, honly, hnew⟩
  rw [hgb] at h5
  rcases h5 with h5 | h5
  · rcases hob with e | ⟨g, e, e1⟩
    · rw [e] at h5; cases h5
    · rw [e] at h5; rw [Option.some.inj h5]; exact e1
  · rw [Option.some.inj h5]; omega
theorem own1_append (t : TypeId) (z : Value) (bytes : Nat) (ht : Tryz.prog.underlying t = some (.slice e)) (h2 : (Tryz.prog.info? e).map (fun i => (i.zero, i.size, i.bytes)) = some (some z, 1, bytes)) (hz : z.cells.size = 1) (hby : bytes ≤ 16) (hs : Own1 X e v xs B) (hB : B ≤ X.heap.size) (x : Value) (hx : x.oneCell' = true) (hl : xs.length ≤ 100000) :
    ∃ v' X', (Builtin.append_ #[t, t] t #[v, .slice (some ⟨X.heap.size, 0, none⟩) 1 1]).run Tryz.prog (X.alloc (.cells #[x] e)) = .ok v' X' ∧ Own1 X' e v' (xs ++ [x]) B ∧ Below B X X' :=
  let ⟨v', X', h1, h2, h3, _⟩ := own1_append2 t z bytes ht h2 hz hby hs hB x hx hl
  ⟨v', X', h1, h2, h3⟩
end
end Go.Proofs.YtdhapmlgapflbaaGreatDoor
