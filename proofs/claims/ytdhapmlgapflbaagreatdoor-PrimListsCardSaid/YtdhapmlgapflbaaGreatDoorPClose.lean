/- PrimLists: what is looked up of the program, each fact by itself (all in one asks more memory than a process may have). -/
import Derived.Test.YtdhapmlgapflbaaGreatDoorRows
import Derived.JoinedOf
import Derived.ProofKit
namespace Go.Proofs.YtdhapmlgapflbaaGreatDoor
open Go Go.RowKit
set_option maxRecDepth 100000
theorem cl_inPlace : Rows.primListsRow.inPlace = Tryz.prog.inPlace 3 := by kernel_rfl
theorem cl_unfollowed : Rows.primListsRow.unfollowed = Tryz.prog.unfollowed 3 := by kernel_rfl
theorem cl_recurses : Rows.primListsRow.recurses = Tryz.prog.recurses 3 := by kernel_rfl
theorem cl_named : Rows.primListsRow.named = Tryz.prog.varsNamed 3 := by kernel_rfl
set_option maxHeartbeats 6400000 in
theorem lists_closed : joinedFacts Tryz.prog 3 Tryz.f3 Rows.primListsSpec Rows.primListsRow = true := by
  unfold joinedFacts
  rw [← cl_inPlace, ← cl_unfollowed, ← cl_recurses, ← cl_named]
  simp only [Bool.and_eq_true]
  and_intros
  all_goals (as_aux_lemma => kernel_rfl)
end Go.Proofs.YtdhapmlgapflbaaGreatDoor
