/- PrimCopies: what is looked up of the program, each fact by itself (all in one asks more memory than a process may have). -/
import Derived.Test.YteiikhcadjdkcaaGreatDoorRows
import Derived.JoinedOf
import Derived.ProofKit
set_option linter.unusedVariables false
set_option linter.unusedSimpArgs false
namespace Go.Proofs.YteiikhcadjdkcaaGreatDoor
open Go Go.RowKit
set_option maxRecDepth 100000
theorem cl_inPlace : Rows.primCopiesRow.inPlace = Tryz.prog.inPlace 3 := by kernel_rfl
theorem cl_unfollowed : Rows.primCopiesRow.unfollowed = Tryz.prog.unfollowed 3 := by kernel_rfl
theorem cl_recurses : Rows.primCopiesRow.recurses = Tryz.prog.recurses 3 := by kernel_rfl
theorem cl_named : Rows.primCopiesRow.named = Tryz.prog.varsNamed 3 := by kernel_rfl
set_option maxHeartbeats 6400000 in
theorem copies_closed : joinedFacts Tryz.prog 3 Tryz.f3 Rows.primCopiesSpec Rows.primCopiesRow = true := by
  unfold joinedFacts
  rw [← cl_inPlace, ← cl_unfollowed, ← cl_recurses, ← cl_named]
  simp only [Bool.and_eq_true]
  and_intros
  all_goals (as_aux_lemma => kernel_rfl)
end Go.Proofs.YteiikhcadjdkcaaGreatDoor
