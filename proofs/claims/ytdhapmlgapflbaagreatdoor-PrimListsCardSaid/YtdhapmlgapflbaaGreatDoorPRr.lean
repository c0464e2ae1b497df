/- The document's rows of the prelude. -/
import Derived.Test.YtdhapmlgapflbaaGreatDoorPSe2
set_option linter.unusedVariables false
set_option linter.unusedSimpArgs false
namespace Go.Proofs.YtdhapmlgapflbaaGreatDoor
open Go Go.RowKit Limb
def entT (i : Nat) : List Value := (mtT i).flatMap fun m => [bS m.sel, .int .i64 m.num, .int .u8 ((m.form.getD 0 0).toNat : Nat)]
def chainW (w : World) : Nat → World
  | 0 => w
  | k + 1 => (chainW w k).alloc (.cells (entT k).toArray 33)
def rrCells (w : World) : List Value := (List.range 10).flatMap fun i => [.int .i64 (rowT i).1, .slice (some ⟨w.heap.size + i, 0, none⟩) (mtT i).length (mtT i).length]
def finW (w : World) : World := (chainW w 10).alloc (.cells (rrCells w).toArray 31)
structure RR (w w' : World) : Prop where
  rows : Row w' (w.heap.size + 10) 31 (rrCells w)
  ents : ∀ i, i < 10 → Row w' (w.heap.size + i) 33 (entT i)
  below : Below w.heap.size w w'
theorem chain_size (w : World) : ∀ k, (chainW w k).heap.size = w.heap.size + k
  | 0 => rfl
  | k + 1 => by unfold chainW; rw [World.size_alloc, chain_size w k]; omega
theorem chain_below (w : World) : ∀ k, Below w.heap.size w (chainW w k)
  | 0 => Below.refl _ _
  | k + 1 => (chain_below w k).alloc (chain_below w k).size _
theorem chain_rows (w : World) : ∀ k i, i < k → Row (chainW w k) (w.heap.size + i) 33 (entT i)
  | 0, _, h => by omega
  | k + 1, i, h => by
    by_cases hi : i = k
    · subst hi
      unfold chainW Row
      rw [← chain_size w i]
      exact heap_alloc_new _ _
    · exact (chain_rows w k i (by omega)).alloc _
theorem fin_rr (w : World) : RR w (finW w) := by
  refine ⟨?_, fun i hi => (chain_rows w 10 i hi).alloc _, (chain_below w 10).alloc (chain_below w 10).size _⟩
  unfold finW Row
  rw [← chain_size w 10]
  exact heap_alloc_new _ _
set_option maxHeartbeats 6400000 in
set_option maxRecDepth 100000 in
theorem ref_rows (w : World) : Calls Tryz.prog 7 #[] w fun e w' => e = .returned (.slice (some ⟨w.heap.size + 10, 0, none⟩) 10 10) ∧ RR w w' := by
  have HF := Lib.hid (fin_rr w)
  go_enter Tryz.func7, Tryz.ntmps7
  go_wp2_with fail
  go_ret
  refine ⟨rfl, ?_⟩
  exact HF.out
end Go.Proofs.YtdhapmlgapflbaaGreatDoor
