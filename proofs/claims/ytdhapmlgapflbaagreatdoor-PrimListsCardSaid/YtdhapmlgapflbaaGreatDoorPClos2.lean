/- PrimLists: two facts more that are looked up of the program. -/
import Derived.Test.YtdhapmlgapflbaaGreatDoorRows
import Derived.SevenTiedAt
import Derived.ProofKit
namespace Go.Proofs.YtdhapmlgapflbaaGreatDoor
open Go Go.RowKit
set_option maxRecDepth 100000
theorem cl_looks : true = Tryz.prog.looks [] := by kernel_rfl
/-- Where no function at all starts a goroutine, none that is come to does. -/
theorem goes_none {P : Program} (h : P.funcs.any Func.goes = false) (f : FuncId) : P.goes f = false := by
  have e : (fun g : FuncId => (P.funcs[g]?).any Func.goes) = fun _ => false := by
    funext g
    cases e : P.funcs[g]? with
    | none => rfl
    | some fn =>
      rw [Array.any_eq_false] at h
      obtain ⟨hi, hg⟩ := Array.getElem?_eq_some_iff.1 e
      have := h g hi
      rw [hg] at this
      simpa using this
  unfold Program.goes
  rw [h, e]
  simp
theorem cl_any : Tryz.prog.funcs.any Func.goes = false := by kernel_rfl
theorem cl_goes : false = Rows.primListsRow.goesBy Tryz.prog := by
  unfold OpenClaim.goesBy Program.goesAt Program.goesFrom
  rw [show Tryz.prog.funcNamed Rows.primListsRow.func = some 3 by kernel_rfl, Option.any_some, goes_none cl_any]
  rfl
end Go.Proofs.YtdhapmlgapflbaaGreatDoor
